/- Operations that turn no memory: places, numbers, texts, equality. No program is named here. Values as others see them; stores. No program is named here. Operations that make rows. No program is named here. Operations that make rows, the rest; all operations together. No program is named here. Pieces, appends, made rows, lengths; all operations together. No program is named here. All operations together. No program is named here. What an operation leans on: operations that lean on nothing of one another may change places. No program is named here. -/
import Derived.Test.YtbjldjekgepopaaGreatDoorT2
set_option linter.unusedSimpArgs false
set_option maxHeartbeats 1000000
namespace Go.Proofs.YtbjldjekgepopaaGreatDoor
open Go.RowKit
section
section
variable {P:Program} {x:Ctx} {s:St} {a:Act} {w:World} {m:Mem} {o:Oper} {out:Out}
theorem iE {t e:TypeId} {ie:TypeInfo} (w:World) (b p len cap:Nat) (k:IntKind) (i:Int) (hu:P.underlying t=some (.slice e)) (hi:P.info? e=some ie) (h0:0<=i) (h1:i<len):
 (Instr.indexAt t (.slice (some ⟨b,p,none⟩) len cap) (.int k i)).run P w= .ok (.pointer (some ⟨b,p+i.toNat*ie.size,none⟩)) w:=by
 have hs:(sizeOf e).run P w= .ok ie.size w:=by simp[sizeOf,typeInfo,hi]
 simp[Instr.indexAt,asIntOf,Ka hu,h0,h1,hs,Addr.add_mid]
theorem pk {t:TypeId} {y i:Operand} (ho:o.op= .indexAddr t y i) (hS:Sim x s a w m) (h:(aT P x.env s.f o).run s=some out):dU P x s a w o out:=by
 have hy:=ah hS y;have hi:=ah hS i;unfold aT at h;simp only[ho]at h;unfold fJ at h;split at h
 ·rename_i sz es k n e esz eb ez n' z' e1 e2 hd;rw[e1]at hy;rw[e2]at hi;have hi:=hi.lit_;obtain⟨hu,ie,ze,q1,q2,q3,q4,q5⟩:=ay hd;split at h
  ·rename_i hb;obtain⟨b0,b1,rfl⟩:=hb;simp only[Rd.run,KX]at h;subst h;have hr:=hy.seq_;generalize hv:a.eval y=vy at*;cases hr with
   | seq A len cap sz es b p u hn hcap hA hz hcc hrv=>
     obtain rfl:=hA (by omega);have hrun:=iE (P:=P) w b p len cap k n hu q1 b0 (by omega);refine .same hS (v:= .pointer (some ⟨b,p+(n.toNat*esz+0),none⟩)) ?_ rfl (.val (.ref esz es n.toNat 0 b p u hz hcc hrv));unfold execOp;simp only[ho,hv,hi,Ks,hrun,Kc,LO,q3,Md]
  ·simp[Rd.run]at h
 ·rename_i r ver k n e esz eb ez n' z' e1 e2 hd;rw[e1]at hy;rw[e2]at hi;have hi:=hi.lit_;obtain⟨hu,ie,ze,q1,q2,q3,q4,q5⟩:=ay hd;simp only[Rd.row,Rd.run]at h;cases hrow:s.rows r with
  |none=>rw[hrow]at h;simp[Rd.run]at h
  | some row=>
    rw[hrow]at h;simp only at h;split at h
    ·rename_i hver;obtain⟨hver,hrz⟩:=hver;split at h
     ·rename_i hb;obtain⟨b0,b1,hsz⟩:=hb;simp only[Rd.run,KX]at h;subst h;obtain⟨hle,hy⟩:=hy.row_;have hv:=hy hver row hrow;have k':=(hS.rows r row hrow).cells hrz;obtain⟨xs,k1,_⟩:=k'.own;obtain⟨g,cap,hgv,_⟩:=k1.form (by omega);rw[hgv]at hv;have hrun:=iE (P:=P) w g 0 row.es.length cap k n hu q1 b0 (by omega);refine .same hS (v:= .pointer (some ⟨g,n.toNat*row.sz+0,none⟩)) ?_ rfl (.loc r ver n.toNat 0 rfl hle fun _ row' hr'=>⟨g,by rw[hgv];rfl,by rw[hrow]at hr';cases hr';rfl⟩);unfold execOp;simp only[ho,hv,hi,Ks,hrun,Kc,LO,q3,Md,Lc,hsz]
     ·simp[Rd.run]at h
    ·simp[Rd.run]at h
 ·simp[Rd.run]at h
theorem jc (b:ByteArray):b.toList=bG b:=ByteArray.toList_eq b
theorem iw (b:ByteArray):b.size=(bG b).length:=by
 obtain⟨⟨l⟩⟩:=b;rfl
theorem qg (b:ByteArray):b=⟨(bG b).toArray⟩:=by
 obtain⟨⟨l⟩⟩:=b;rfl
theorem yC {t:TypeId} {y i:Operand} (ho:o.op= .index t y i) (hS:Sim x s a w m) (h:(aT P x.env s.f o).run s=some out):dU P x s a w o out:=by
 have hy:=ah hS y;have hi:=ah hS i;unfold aT at h;simp only[ho]at h;obtain⟨c,hc,h⟩:=fB h;obtain rfl:=ax h;unfold oG at hc;split at hc
 ·rename_i str k n n' z' e1 e2 hd;rw[e1]at hy;rw[e2]at hi;have hy:=hy.lit_;have hi:=hi.lit_;have hu:=ce hd;split at hc
  ·rename_i h0;split at hc
   ·rename_i b hb;cases hc
    have hb':str[n.toNat]? =some b:=by
     have hlt:n.toNat< (bG str).length:=(KW.1 hb).1;have hlt':n.toNat<str.size:=by rw[iw];exact hlt
     have h2:=(KW.1 hb).2;rw[getElem?_pos str n.toNat hlt', <-h2];rfl
    refine .same hS (v:= .int .u8 b.toNat) ?_ rfl (.val (.lit _))
    have hrun:(Instr.index t (.string str) (.int k n)).run P w= .ok (.int .u8 b.toNat) w:=by
     simp only[Instr.index,asIntOf,Ks,LO,Kc,Ka hu,K0 h0,hb']
    unfold execOp;simp only[ho,hy,hi,Ks,hrun,Kc,LO]
   ·cases hc
  ·cases hc
 ·cases hc
theorem ao {op:BinOp} {t:TypeId} {x y:Operand} {va vb:Value} (w:World) (h1: ¬(va= .nilIface/\vb= .nilIface)) (h2: ∀p q,¬(va= .agg p/\vb= .agg q)):(eqGuard op t x y va vb).run P w= .ok () w:=by
 cases op<;>first
  |rfl
  |(unfold eqGuard
    simp only[MR,LA,Lf];split
    ·exact absurd ⟨rfl,rfl⟩ h1
    ·exact absurd ⟨rfl,rfl⟩ (h2 _ _)
    ·rfl)
theorem yd {op:BinOp} {t:TypeId} {x y:Operand} (w:World) (h:(bz x||bz y)=true):(eqGuard op t x y .nilIface .nilIface).run P w= .ok () w:=by
 cases x<;>cases y<;>cases op<;>first|rfl|(simp[bz]at h;done)|simp[eqGuard]
section
variable (w:World) (d:Nat) (t:TypeId)
theorem De {ms:Array (String×TypeId)} (h:P.underlying t=some (.interface ms)):(Op.equalIn (d+1) t .nilIface .nilIface).run P w= .ok true w:=by simp[Op.equalIn,Ka h]
theorem Dg {ms:Array (String×TypeId)} (h:P.underlying t=some (.interface ms)) (q:TypeId) (v:Value):(Op.equalIn (d+1) t (.iface q v) .nilIface).run P w= .ok false w:=by simp[Op.equalIn,Ka h]
theorem Df {ms:Array (String×TypeId)} (h:P.underlying t=some (.interface ms)) (q:TypeId) (v:Value):(Op.equalIn (d+1) t .nilIface (.iface q v)).run P w= .ok false w:=by simp[Op.equalIn,Ka h]
theorem ry {e:TypeId} (h:P.underlying t=some (.slice e)) (A:Option Addr) (n c n' c':Nat):(Op.equalIn (d+1) t (.slice A n c) (.slice none n' c')).run P w= .ok A.isNone w:=by cases A<;>simp[Op.equalIn,Ka h]
theorem Dd {e:TypeId} (h:P.underlying t=some (.pointer e)):(Op.equalIn (d+1) t (.pointer none) (.pointer none)).run P w= .ok true w:=by simp[Op.equalIn,Ka h]
theorem ru {e:TypeId} (h:P.underlying t=some (.pointer e)) (q:Addr):(Op.equalIn (d+1) t (.pointer (some q)) (.pointer none)).run P w= .ok false w:=by simp[Op.equalIn,Ka h]
theorem Dc {e:TypeId} (h:P.underlying t=some (.pointer e)) (q:Addr):(Op.equalIn (d+1) t (.pointer none) (.pointer (some q))).run P w= .ok false w:=by simp[Op.equalIn,Ka h]
end
theorem bk {t:TypeId} {va vb:Value} {r:Bool} (hb:binOp .eql t va vb=(do pure (.bool (<-Op.equal t va vb)))) (h: ∀d,(Op.equalIn (d+1) t va vb).run P w= .ok r w):(binOp .eql t va vb).run P w= .ok (.bool r) w:=by
 have h1:(Op.equal t va vb).run P w= .ok r w:=h 9999;rw[hb,Ks,h1];rfl
theorem bj {t:TypeId} {va vb:Value} {r:Bool} (hb:binOp .neq t va vb=(do pure (.bool (!(<-Op.equal t va vb))))) (h: ∀d,(Op.equalIn (d+1) t va vb).run P w= .ok r w):(binOp .neq t va vb).run P w= .ok (.bool (!r)) w:=by
 have h1:(Op.equal t va vb).run P w= .ok r w:=h 9999;rw[hb,Ks,h1];rfl
theorem aH {op:BinOp} {t ty:TypeId} {y z:Operand} (ho:o.op= .binOp op t y z ty) {v:Value} (hg:(eqGuard op t y z (a.eval y) (a.eval z)).run P w= .ok () w) (h:(binOp op t (a.eval y) (a.eval z)).run P w= .ok v w):(execOp a.eval o).run P w= .ok (.value v) w:=by
 unfold execOp;simp only[ho,Ks,hg,h,Kc,LO]
theorem vW {t:TypeId} {c1 c2:AV} {b:Bool} {u v:Value} (h:cG P t c1 c2=some b) (hu:RL w m s u c1) (hv:RL w m s v c2):
 (∀(xs:Array Value) (o:Nat) (q:Value) (w:World),xs[o]? =some q->(part t xs o).run P w= .ok q w)/\ ∀(d:Nat) (w:World),(Op.equalIn (d+1) t u v).run P w= .ok b w:=by
 unfold cG at h;split at h
 ·split at h
  ·rename_i hd;split at h
   ·rename_i hk;cases h;have e1:=hu.lit_;have e2:=hv.lit_;subst hk e1 e2;have ht:=mi hd;exact⟨fun xs o q w hx=>by simp[part,isAgg,Ka ht,hx],fun d w=>run_equalIn_int w d t _ _ _ _ ht⟩
   ·cases h
  ·cases h
 ·split at h
  ·rename_i hd;cases h;have e1:=hu.lit_;have e2:=hv.lit_;subst e1 e2;have ht:=ce hd;exact⟨fun xs o q w hx=>by simp[part,isAgg,Ka ht,hx],fun d w=>by rw[run_equalIn_string w d t _ _ ht];simp[jc]⟩
  ·cases h
 ·split at h
  ·rename_i hd;cases h;have e1:=hu.lit_;have e2:=hv.lit_;subst e1 e2;have ht:=ku hd;exact⟨fun xs o q w hx=>by simp[part,isAgg,Ka ht,hx],fun d w=>Oe w d t _ _ ht⟩
  ·cases h
 ·cases h
theorem CJ {t:TypeId} {c1 c2:AV} {b:Bool} {u:Value} (h:cG P t c1 c2=some b) (_hu:RL w m s u c1): ∀(xs:Array Value) (o:Nat) (q:Value) (w:World),xs[o]? =some q->(part t xs o).run P w= .ok q w:=by
 unfold cG at h;split at h
 ·split at h
  ·rename_i hd;have ht:=mi hd;exact fun xs o q w hx=>by simp[part,isAgg,Ka ht,hx]
  ·cases h
 ·split at h
  ·rename_i hd;have ht:=ce hd;exact fun xs o q w hx=>by simp[part,isAgg,Ka ht,hx]
  ·cases h
 ·split at h
  ·rename_i hd;have ht:=ku hd;exact fun xs o q w hx=>by simp[part,isAgg,Ka ht,hx]
  ·cases h
 ·cases h
theorem xI {xs ys:List AV} {us vs:List Value} (hul:us.length=xs.length) (hvl:vs.length=ys.length) (hu: ∀(i:Nat) (v:Value) (c:AV),us[i]? =some v->xs[i]? =some c->RL w m s v c) (hv: ∀(i:Nat) (v:Value) (c:AV),vs[i]? =some v->ys[i]? =some c->RL w m s v c) (d:Nat):
 ∀(fs':List Field) (fs:List (Nat×TypeId×Nat)) (b:Bool),fs'.mapM (fun f=>(P.info? f.type).map fun i=>(f.offset,f.type,i.size))=some fs->fs'.all (fun f=>f.name≠ "_")=true->qN P xs ys fs=some b->(Op.eqFields (d+1) us.toArray vs.toArray fs').run P w= .ok b w
 | [],fs,b,hm,_,h=>by
   simp only[List.mapM_nil,NZ,KX]at hm;subst hm;simp only[qN,KX]at h;subst h;rfl
 | f::fs',fs,b,hm,hn,h=>by
   simp only[N8,Nl,NZ]at hm;cases hi:P.info? f.type with
   |none=>simp[hi]at hm
   | some i=>
     cases hr:fs'.mapM (fun f=>(P.info? f.type).map fun i=>(f.offset,f.type,i.size)) with
     |none=>simp[hi,hr]at hm
     | some r=>
       simp only[hi,hr,Kg,LX,KX]at hm;subst hm;simp only[OS,KY]at hn;simp only[qN]at h;split at h
       ·rename_i c1 c2 h1 h2;split at h
        ·rename_i p q hp hq;cases h;have hlu:f.offset<us.length:=by rw[hul];exact(KW.1 h1).1
         have hlv:f.offset<vs.length:=by rw[hvl];exact(KW.1 h2).1
         have gu:us[f.offset]? =some us[f.offset]:=KV hlu;have gv:vs[f.offset]? =some vs[f.offset]:=KV hlv;obtain⟨k1,k2⟩:=vW hp (hu _ _ _ gu h1) (hv _ _ _ gv h2);have ih:=xI hul hvl hu hv d fs' r q hr hn.2 hq;have hne:f.name≠ "_" :=by simpa using hn.1
         simp only[Op.eqFields,K0 hne,Ks,k1 us.toArray f.offset _ w (by rw[OM];exact gu),k1 vs.toArray f.offset _ w (by rw[OM];exact gv),Kc,k2 d w];cases p
         ·simp
         ·simpa using ih
        ·cases h
       ·cases h
theorem dV {α:Type} {r ver:Nat} {k:Row->Rd α} {s:St} {y:α} (h:(Rd.row r ver k).run s=some y): ∃row,s.rows r=some row/\s.vs r=ver/\row.sz≠0/\(k row).run s=some y:=by
 simp only[Rd.row,Rd.run]at h;cases hr:s.rows r with
 |none=>rw[hr]at h;simp[Rd.run]at h
 | some row=>
   rw[hr]at h;simp only at h;split at h
   ·rename_i hv;exact⟨row,rfl,hv.1,hv.2,h⟩
   ·simp[Rd.run]at h
theorem yF {op:BinOp} {t ty:TypeId} {y z:Operand} (ho:o.op= .binOp op t y z ty) (hS:Sim x s a w m) (h:(aT P x.env s.f o).run s=some out):dU P x s a w o out:=by
 have hy:=ah hS y;have hz:=ah hS z;unfold aT at h;simp only[ho]at h;unfold uA at h;split at h
 ·rename_i r ver i off e1 e2;rw[e1]at hy;rw[e2]at hz;have hz:=hz.lit_;obtain⟨row,hrow,hver,_,h'⟩:=dV h;try clear h
  have h:=h';try clear h'
  obtain⟨g,_,hv⟩:=hy.loc_.2 hver row hrow;have hg:(eqGuard op t y z (a.eval y) (a.eval z)).run P w= .ok () w:=by rw[hv,hz];exact ao w (by simp) (by simp)
  split at h
  ·rename_i hd;obtain rfl:=ax h;obtain⟨ms,hu⟩:=kq hd;exact .same hS (aH ho hg (by rw[hv,hz];exact bk rfl fun d=>ru w d t hu _)) rfl (.val (.lit _))
  ·rename_i hd;obtain rfl:=ax h;obtain⟨ms,hu⟩:=kq hd;exact .same hS (aH ho hg (by rw[hv,hz];exact bj rfl fun d=>ru w d t hu _)) rfl (.val (.lit _))
  ·simp[Rd.run]at h
 ·rename_i A n1 c1 n2 c2 e1 e2;rw[e1]at hy;rw[e2]at hz;have hy:=hy.lit_;have hz:=hz.lit_;have hg:(eqGuard op t y z (a.eval y) (a.eval z)).run P w= .ok () w:=by rw[hy,hz];exact ao w (by simp) (by simp)
  split at h
  ·rename_i hd;obtain rfl:=ax h;have hu:=(ay hd).1;exact .same hS (aH ho hg (by rw[hy,hz];exact bk rfl fun d=>ry w d t hu A n1 c1 n2 c2)) rfl (.val (.lit _))
  ·rename_i hd;obtain rfl:=ax h;have hu:=(ay hd).1;exact .same hS (aH ho hg (by rw[hy,hz];exact bj rfl fun d=>ry w d t hu A n1 c1 n2 c2)) rfl (.val (.lit _))
  ·simp[Rd.run]at h
 ·rename_i sz e0 es0 n2 c2 e1 e2;rw[e1]at hy;rw[e2]at hz;have hy:=hy.seq_;have hz:=hz.lit_;generalize hvy:a.eval y=vy at*;cases hy with
  | seq A n1 c1 sz es b o u hn hcap hA hzz hcc hrr=>
    have hA:=hA (by simp at hn;omega);subst hA;have hg:(eqGuard op t y z (a.eval y) (a.eval z)).run P w= .ok () w:=by rw[hvy,hz];exact ao w (by simp) (by simp)
    split at h
    ·rename_i hd;obtain rfl:=ax h;have hu:=(ay hd).1;exact .same hS (aH ho hg (by rw[hvy,hz];exact bk rfl fun d=>ry w d t hu _ n1 c1 n2 c2)) rfl (.val (.lit _))
    ·rename_i hd;obtain rfl:=ax h;have hu:=(ay hd).1;exact .same hS (aH ho hg (by rw[hvy,hz];exact bj rfl fun d=>ry w d t hu _ n1 c1 n2 c2)) rfl (.val (.lit _))
    ·simp[Rd.run]at h
 obtain⟨c,hc,h⟩:=fB h;obtain rfl:=ax h;unfold Fs at hc;split at hc
 ·rename_i k p k' q e1 e2;rw[e1]at hy;rw[e2]at hz;have hy:=hy.lit_;have hz:=hz.lit_;have hg:(eqGuard op t y z (a.eval y) (a.eval z)).run P w= .ok () w:=by rw[hy,hz];exact ao w (by simp) (by simp)
  split at hc<;>(try cases hc;done)<;>(split at hc<;>(try cases hc;done))<;>rename_i hk<;>cases hc
  ·exact .same hS (aH ho hg (v:= .int k (k.wrap (p+q))) (by rw[hy,hz];subst hk;simp[binOp,Op.intArith])) rfl (.val (.lit _))
  ·exact .same hS (aH ho hg (v:= .int k (k.wrap (p-q))) (by rw[hy,hz];subst hk;simp[binOp,Op.intArith])) rfl (.val (.lit _))
  ·exact .same hS (aH ho hg (v:= .int k (k.wrap (p*q))) (by rw[hy,hz];subst hk;simp[binOp,Op.intArith])) rfl (.val (.lit _))
  ·obtain⟨hk,hq⟩:=hk;exact .same hS (aH ho hg (v:= .int k (k.wrap (p.tdiv q))) (by rw[hy,hz];subst hk;simp[binOp,Op.intDiv,hq])) rfl (.val (.lit _))
  ·obtain⟨hk,hq⟩:=hk;exact .same hS (aH ho hg (v:= .int k (p.tmod q)) (by rw[hy,hz];subst hk;simp[binOp,Op.intDiv,hq])) rfl (.val (.lit _))
  ·exact .same hS (aH ho hg (v:= .bool (p==q)) (by rw[hy,hz];subst hk;simp[binOp,Op.intCmp])) rfl (.val (.lit _))
  ·exact .same hS (aH ho hg (v:= .bool (p != q)) (by rw[hy,hz];subst hk;simp[binOp,Op.intCmp])) rfl (.val (.lit _))
  ·exact .same hS (aH ho hg (v:= .bool (decide (p<q))) (by rw[hy,hz];subst hk;simp[binOp,Op.intCmp])) rfl (.val (.lit _))
  ·exact .same hS (aH ho hg (v:= .bool (decide (p<=q))) (by rw[hy,hz];subst hk;simp[binOp,Op.intCmp])) rfl (.val (.lit _))
  ·exact .same hS (aH ho hg (v:= .bool (decide (p>q))) (by rw[hy,hz];subst hk;simp[binOp,Op.intCmp])) rfl (.val (.lit _))
  ·exact .same hS (aH ho hg (v:= .bool (decide (p>=q))) (by rw[hy,hz];subst hk;simp[binOp,Op.intCmp])) rfl (.val (.lit _))
  ·exact .same hS (aH ho hg (v:= .int k (sH .and k p q)) (by rw[hy,hz];subst hk;simp[binOp,Op.intBits,sH])) rfl (.val (.lit _))
  ·exact .same hS (aH ho hg (v:= .int k (sH .or k p q)) (by rw[hy,hz];subst hk;simp[binOp,Op.intBits,sH])) rfl (.val (.lit _))
  ·exact .same hS (aH ho hg (v:= .int k (sH .xor k p q)) (by rw[hy,hz];subst hk;simp[binOp,Op.intBits,sH])) rfl (.val (.lit _))
  ·exact .same hS (aH ho hg (v:= .int k (sH .andNot k p q)) (by rw[hy,hz];subst hk;simp[binOp,Op.intBits,sH])) rfl (.val (.lit _))
  ·exact .same hS (aH ho hg (v:= .int k (k.wrap (p*2^min q.toNat k.bits))) (by rw[hy,hz];simp[binOp,Op.shift,Int.not_lt.2 hk])) rfl (.val (.lit _))
  ·exact .same hS (aH ho hg (v:= .int k (p.fdiv (2^min q.toNat k.bits))) (by rw[hy,hz];simp[binOp,Op.shift,Int.not_lt.2 hk])) rfl (.val (.lit _))
 ·rename_i p q e1 e2;rw[e1]at hy;rw[e2]at hz;have hy:=hy.lit_;have hz:=hz.lit_;have hg:(eqGuard op t y z (a.eval y) (a.eval z)).run P w= .ok () w:=by rw[hy,hz];exact ao w (by simp) (by simp)
  split at hc
  ·split at hc
   ·rename_i hle;cases hc;refine .same hS (aH ho hg (v:= .string ⟨(bG p++bG q).toArray⟩) ?_) rfl (.val (.lit _));rw[hy,hz];have:=IP (P:=P) (bG p) (bG q) hle w;rw[<-qg, <-qg]at this;simpa[binOp]using this
   ·cases hc
  ·cases hc;exact .same hS (aH ho hg (v:= .bool (bG p==bG q)) (by rw[hy,hz];simp[binOp,Op.stringOp,jc])) rfl (.val (.lit _))
  ·cases hc;exact .same hS (aH ho hg (v:= .bool (!(bG p==bG q))) (by rw[hy,hz];simp[binOp,Op.stringOp,jc])) rfl (.val (.lit _))
  ·cases hc;exact .same hS (aH ho hg (v:= .bool (Op.bytesLess (bG p) (bG q))) (by rw[hy,hz];simp[binOp,Op.stringOp,jc])) rfl (.val (.lit _))
  ·cases hc;exact .same hS (aH ho hg (v:= .bool (Op.bytesLess (bG p) (bG q)||bG p==bG q)) (by rw[hy,hz];simp[binOp,Op.stringOp,jc])) rfl (.val (.lit _))
  ·cases hc;exact .same hS (aH ho hg (v:= .bool (!(Op.bytesLess (bG p) (bG q)||bG p==bG q))) (by rw[hy,hz];simp[binOp,Op.stringOp,jc])) rfl (.val (.lit _))
  ·cases hc;exact .same hS (aH ho hg (v:= .bool (!Op.bytesLess (bG p) (bG q))) (by rw[hy,hz];simp[binOp,Op.stringOp,jc])) rfl (.val (.lit _))
  ·cases hc
 ·rename_i p q e1 e2;rw[e1]at hy;rw[e2]at hz;have hy:=hy.lit_;have hz:=hz.lit_;have hg:(eqGuard op t y z (a.eval y) (a.eval z)).run P w= .ok () w:=by rw[hy,hz];exact ao w (by simp) (by simp)
  split at hc
  ·rename_i hd;cases hc;have hu:=ku hd;exact .same hS (aH ho hg (by rw[hy,hz];exact bk rfl fun d=>Oe w d t p q hu)) rfl (.val (.lit _))
  ·rename_i hd;cases hc;have hu:=ku hd;exact .same hS (aH ho hg (by rw[hy,hz];exact bj rfl fun d=>Oe w d t p q hu)) rfl (.val (.lit _))
  ·cases hc
 ·rename_i e1 e2;rw[e1]at hy;rw[e2]at hz;have hy:=hy.lit_;have hz:=hz.lit_
  have hg:(bz y||bz z)=true->(eqGuard op t y z (a.eval y) (a.eval z)).run P w= .ok () w:=fun hh=>by
   rw[hy,hz];exact yd w hh
  split at hc
  ·rename_i hd hcc;cases hc;obtain⟨ms,hu⟩:=jI hd;exact .same hS (aH ho (hg hcc) (by rw[hy,hz];exact bk rfl fun d=>De w d t hu)) rfl (.val (.lit _))
  ·rename_i hd hcc;cases hc;obtain⟨ms,hu⟩:=jI hd;exact .same hS (aH ho (hg hcc) (by rw[hy,hz];exact bj rfl fun d=>De w d t hu)) rfl (.val (.lit _))
  ·cases hc
 ·rename_i ti ci e1 e2;rw[e1]at hy;rw[e2]at hz;obtain⟨u,hy,_⟩:=hy.iface_;have hz:=hz.lit_;have hg:(eqGuard op t y z (a.eval y) (a.eval z)).run P w= .ok () w:=by rw[hy,hz];exact ao w (by simp) (by simp)
  split at hc
  ·rename_i hd;cases hc;obtain⟨ms,hu⟩:=jI hd;exact .same hS (aH ho hg (by rw[hy,hz];exact bk rfl fun d=>Dg w d t hu _ _)) rfl (.val (.lit _))
  ·rename_i hd;cases hc;obtain⟨ms,hu⟩:=jI hd;exact .same hS (aH ho hg (by rw[hy,hz];exact bj rfl fun d=>Dg w d t hu _ _)) rfl (.val (.lit _))
  ·cases hc
 ·rename_i ti ci e1 e2;rw[e1]at hy;rw[e2]at hz;obtain⟨u,hz,_⟩:=hz.iface_;have hy:=hy.lit_;have hg:(eqGuard op t y z (a.eval y) (a.eval z)).run P w= .ok () w:=by rw[hy,hz];exact ao w (by simp) (by simp)
  split at hc
  ·rename_i hd;cases hc;obtain⟨ms,hu⟩:=jI hd;exact .same hS (aH ho hg (by rw[hy,hz];exact bk rfl fun d=>Df w d t hu _ _)) rfl (.val (.lit _))
  ·rename_i hd;cases hc;obtain⟨ms,hu⟩:=jI hd;exact .same hS (aH ho hg (by rw[hy,hz];exact bj rfl fun d=>Df w d t hu _ _)) rfl (.val (.lit _))
  ·cases hc
 ·rename_i e1 e2;rw[e1]at hy;rw[e2]at hz;have hy:=hy.lit_;have hz:=hz.lit_;have hg:(eqGuard op t y z (a.eval y) (a.eval z)).run P w= .ok () w:=by rw[hy,hz];exact ao w (by simp) (by simp)
  split at hc
  ·rename_i hd;cases hc;obtain⟨ms,hu⟩:=kq hd;exact .same hS (aH ho hg (by rw[hy,hz];exact bk rfl fun d=>Dd w d t hu)) rfl (.val (.lit _))
  ·rename_i hd;cases hc;obtain⟨ms,hu⟩:=kq hd;exact .same hS (aH ho hg (by rw[hy,hz];exact bj rfl fun d=>Dd w d t hu)) rfl (.val (.lit _))
  ·cases hc
 ·rename_i sz es i off e1 e2;rw[e1]at hy;rw[e2]at hz;have hz:=hz.lit_;have hr:=hy.ref_;generalize hv:a.eval y=vy at*;cases hr with
  | ref sz es i off b p u hz' hcc hrv=>
    have hg:(eqGuard op t y z (a.eval y) (a.eval z)).run P w= .ok () w:=by rw[hv,hz];exact ao w (by simp) (by simp)
    split at hc
    ·rename_i hd;cases hc;obtain⟨ms,hu⟩:=kq hd;exact .same hS (aH ho hg (by rw[hv,hz];exact bk rfl fun d=>ru w d t hu _)) rfl (.val (.lit _))
    ·rename_i hd;cases hc;obtain⟨ms,hu⟩:=kq hd;exact .same hS (aH ho hg (by rw[hv,hz];exact bj rfl fun d=>ru w d t hu _)) rfl (.val (.lit _))
    ·cases hc
 ·rename_i sz es i off e1 e2;rw[e1]at hy;rw[e2]at hz;have hy:=hy.lit_;have hr:=hz.ref_;generalize hv:a.eval z=vz at*;cases hr with
  | ref sz es i off b p u hz' hcc hrv=>
    have hg:(eqGuard op t y z (a.eval y) (a.eval z)).run P w= .ok () w:=by rw[hv,hy];exact ao w (by simp) (by simp)
    split at hc
    ·rename_i hd;cases hc;obtain⟨ms,hu⟩:=kq hd;exact .same hS (aH ho hg (by rw[hv,hy];exact bk rfl fun d=>Dc w d t hu _)) rfl (.val (.lit _))
    ·rename_i hd;cases hc;obtain⟨ms,hu⟩:=kq hd;exact .same hS (aH ho hg (by rw[hv,hy];exact bj rfl fun d=>Dc w d t hu _)) rfl (.val (.lit _))
    ·cases hc
 ·rename_i xs ys e1 e2;rw[e1]at hy;rw[e2]at hz;obtain⟨us,hu,hul,_,huc⟩:=hy.agg_;obtain⟨vs,hv,hvl,_,hvc⟩:=hz.agg_
  have key: ∀ {fs:List (Nat×TypeId×Nat)} {n:Nat} {z':List Value} {b:Bool},tyD P t=some ⟨.struct fs true,n,z'⟩->qN P xs ys fs=some b->(eqGuard op t y z (a.eval y) (a.eval z)).run P w= .ok () w/\(Op.equalIn 10000 t (.agg us.toArray) (.agg vs.toArray)).run P w= .ok b w:=fun {fs n z' b} hd hb=>by
   obtain⟨f,hf,hm,he⟩:=de hd;have he:=he.symm;simp only[KY,L3]at he;obtain⟨⟨h1,h2⟩,h3⟩:=he;have hfo:P.fieldsOf t=f:=by simp[Program.fieldsOf,hf]
   refine⟨?_,?_⟩
   ·rw[hu,hv];exact run_eqGuard_agg w op t y z _ _ h1
   ·rw[run_equalIn_agg w 9999 t _ _ (by rw[hfo];exact hf) h2,hfo];exact xI hul hvl huc hvc 9998 _ _ _ hm h3 hb
  split at hc
  ·rename_i hd;obtain⟨b,hb,rfl⟩:=L1.1 hc;obtain⟨k1,k2⟩:=key hd hb;exact .same hS (aH ho k1 (v:= .bool b) (by rw[hu,hv,run_eql_struct,k2];rfl)) rfl (.val (.lit _))
  ·rename_i hd;obtain⟨b,hb,rfl⟩:=L1.1 hc;obtain⟨k1,k2⟩:=key hd hb;exact .same hS (aH ho k1 (v:= .bool (!b)) (by rw[hu,hv,run_neq_struct,k2];rfl)) rfl (.val (.lit _))
  ·cases hc
 ·cases hc
end
end
section
theorem apps_append (l1 l2:List Eff) (s:St):apps (l1++l2) s=apps l2 (apps l1 s):=by
 induction l1 generalizing s with
 |nil=>rfl
 |cons e l ih=>exact ih _
theorem cL (l:List Nat) (s:St):(apps (shows l) s).rows=s.rows/\(apps (shows l) s).vs=s.vs/\(apps (shows l) s).f=s.f:=by
 induction l generalizing s with
 |nil=>exact⟨rfl,rfl,rfl⟩
 |cons r l ih=>exact ih (s.show r)
theorem ES (l:List Nat) (s:St) (r:Nat) (h:l.all (· != r)=true):(apps (shows l) s).esc r=s.esc r:=by
 induction l generalizing s with
 |nil=>rfl
 | cons q l ih=>
   simp only[OS,KY,PO,ne_eq]at h;refine(ih (s.show q) h.2).trans ?_;simp[St.show,upd,MJ h.1]
theorem RL.shown {w:World} {m:Mem} {s:St} {v:Value} {c:AV} (h:RL w m s v c) (l:List Nat) {S':Nat->Nat->Prop} (hS: ∀b o,m.S b o->S' b o):RL w ⟨S',m.ρ⟩ (apps (shows l) s) v c:=by
 obtain⟨e1,e2,_⟩:=cL l s;refine h.mono (fun b o hb=>⟨hS b o hb, .rfl⟩) (fun r=>by rw[e2];exact K8 _) fun r row' _ hr=>⟨row',by rw[e1]at hr;exact hr,rfl,rfl⟩
theorem run_bind {α β:Type} {q:Rd α} {k:α->Rd β} {s:St} {y:β} (h:(q.bind k).run s=some y): ∃z,q.run s=some z/\(k z).run s=some y:=by
 rw[Rd.run_bind]at h;cases hq:q.run s with
 |none=>rw[hq]at h;cases h
 |some z=>rw[hq]at h;exact⟨z,rfl,h⟩
theorem kB {α:Type} {sz:Nat} : ∀(ls:List (List α)),(∀l∈ls,l.length=sz)-> ∀(i j:Nat) (l:List α) (u:α),ls[i]? =some l->l[j]? =some u->ls.flatten[i*sz+j]? =some u
 |[],_,i,j,l,u,h,_=>by simp at h
 | e::es,hz,0,j,l,u,h,hu=>by
   have h:e=l:=by simpa using h
   subst h;have hj:j<e.length:=(KW.1 hu).1;simp only[N4,Mu,Lc];rw[LB hj,hu]
 | e::es,hz,i+1,j,l,u,h,hu=>by
   have h:es[i]? =some l:=by simpa using h
   have he:e.length=sz:=hz e (by simp);have ih:=kB es (fun l hl=>hz l (by simp[hl])) i j l u h hu;have e1:(i+1)*sz+j-sz=i*sz+j:=by rw[Ll,Mh];omega
   have e2:sz<=(i+1)*sz+j:=by rw[Ll,Mh];omega
   simp only[N4];rw[Ku (by omega),he,e1];exact ih
theorem pS {c:AV} {s s':St} (h1:s'.rows=s.rows) (h2:s'.vs=s.vs):(cF c).run s'=(cF c).run s:=by
 cases c<;>simp only[cF,Rd.row,Rd.run]
 ·rw[h1,h2];rename_i r ver;cases s.rows r with
  |none=>rfl
  | some row=>
    simp only;split<;>(try split)<;>rfl
 ·rw[h1,h2];rename_i r ver i off;cases s.rows r with
  |none=>rfl
  | some row=>
    simp only;split<;>(try split)<;>rfl
 ·rw[h1,h2];rename_i r ver lo;cases s.rows r with
  |none=>rfl
  | some row=>
    simp only;split<;>(try split)<;>rfl
theorem fv {s s':St} (h1:s'.rows=s.rows) (h2:s'.vs=s.vs): ∀cs:List AV,(dq cs).run s'=(dq cs).run s
 |[]=>rfl
 | c::cs=>by
   simp only[dq,Rd.run_bind,pS h1 h2,fv h1 h2 cs];rfl
section
variable {x:Ctx} {a:Act} {w:World}
theorem sO (b p k:Nat):(⟨b,p,none⟩:Addr).add k=⟨b,p+k,none⟩:=by unfold Addr.add;split<;>simp_all
theorem RV.cut {S:Nat->Nat->Prop} {w:World} {v:Value} {sz lo:Nat} {es:List (List AV)} (h:RV S w v (.seq sz es)) (hl:lo<=es.length):RV S w (cutV v (lo*sz) lo) (.seq sz (es.drop lo)):=by
 cases h with
 | seq A n cap sz es b o u hn hcap hA hz hc hr=>
   have hcell: ∀(i j:Nat) (c:AV),cellAt (es.drop lo) i j=some c->cellAt es (i+lo) j=some c:=fun i j c hc=>by
    unfold cellAt at hc |-;rw[La,Ov lo i]at hc;exact hc
   refine .seq _ (n-lo) (cap-lo) sz (es.drop lo) b (o+lo*sz) (fun i j=>u (i+lo) j) (by simp;omega) (by omega) (fun h0=> ?_) (fun i e he=>hz _ e (by rw[La]at he;exact he)) (fun i j c hcc=> ?_) (fun i j c hcc=>hr _ _ _ (hcell i j c hcc))
   ·rw[KZ (by omega),hA (by omega),Kg,sO]
   ·obtain⟨h1,h2,h3⟩:=hc _ _ _ (hcell i j c hcc);have ea:o+((i+lo)*sz+j)=o+lo*sz+(i*sz+j):=by rw[Ll];omega
    rw[ea]at h1 h2;exact⟨h1,h2,h3⟩
theorem RL.plain {s:St} {m:Mem} {c:AV} {u:Value} (hh:RL w m s u c) (h3:c.plain=true):RV m.S w u c:=by
 cases hh with
 |val h=>exact h
 |agg=>simp[AV.plain]at h3
 |tuple=>simp[AV.plain]at h3
 |row=>simp[AV.plain]at h3
 |loc=>simp[AV.plain]at h3
 |mp=>simp[AV.plain]at h3
 |sub=>simp[AV.plain]at h3
 |clo=>simp[AV.plain]at h3
theorem vF {s:St} {m:Mem} {c:AV} {y:AV×List Nat} {v:Value} (h:(cF c).run s=some y) (hS:Sim x s a w m) (hv:RL w m s v c):
 ∃S',Sim x (apps (shows y.2) s) a w ⟨S',m.ρ⟩/\(∀b o,m.S b o->S' b o)/\RV S' w v y.1:=by
 have plain: ∀ {c:AV},RV m.S w v c->y=(c,[])-> ∃S',Sim x (apps (shows y.2) s) a w ⟨S',m.ρ⟩/\(∀b o,m.S b o->S' b o)/\RV S' w v y.1:=fun hr e=>by
  subst e;exact⟨m.S,hS,fun _ _ h=>h,hr⟩
 cases c with
 | row r ver=>
   obtain⟨row,h1,h2,hrz,h⟩:=dV h;split at h
   ·rename_i hp;simp only[Rd.run,KX]at h;subst h;obtain⟨S',q1,q2,q3⟩:=hS.show r row h1 hrz hp;have:=hv.row_.2 h2 row h1;subst this;exact⟨S',q1,q2,q3⟩
   ·simp[Rd.run]at h
 | loc r ver i off=>
   obtain⟨row,h1,h2,hrz,h⟩:=dV h;split at h
   ·rename_i hp;simp only[Rd.run,KX]at h;subst h
    obtain⟨S',q1,q2,_,q3⟩:=hS.show_ r row h1 hrz (fun p j c u hc hh=>by
     by_cases hq:row.pure=true
     ·rw[K0 hq]at hh;exact hh
     ·rw[KZ hq]at hh;have hall:row.es.all (·.all AV.plain)=true:=by simpa[hq]using hp
      unfold cellAt at hc;cases he:row.es[p]? with
      |none=>rw[he]at hc;cases hc
      | some e=>
        rw[he]at hc;have h3:=(K2.1 ((K2.1 hall) e (K1 he))) c (K1 hc);cases hh with
        |val h=>exact h
        |agg=>simp[AV.plain]at h3
        |tuple=>simp[AV.plain]at h3
        |row=>simp[AV.plain]at h3
        |loc=>simp[AV.plain]at h3
        |mp=>simp[AV.plain]at h3
        |sub=>simp[AV.plain]at h3
        |clo=>simp[AV.plain]at h3)
    obtain⟨g,hg,hv'⟩:=hv.loc_.2 h2 row h1;subst hv';exact⟨S',q1,q2,q3 g hg i off⟩
   ·simp only[Rd.run,KX]at h;subst h
    obtain⟨S',q1,q2,_,q3⟩:=hS.showF AV.soft r row h1 hrz (fun p j c u hc hh=>by
     unfold AV.soft;by_cases h3:c.plain=true
     ·rw[K0 h3];by_cases hq:row.pure=true
      ·rw[K0 hq]at hh;exact hh
      ·rw[KZ hq]at hh;exact hh.plain h3
     ·rw[KZ h3]
      exact .any u)
    obtain⟨g,hg,hv'⟩:=hv.loc_.2 h2 row h1;subst hv';exact⟨S',q1,q2,q3 g hg i off⟩
 | sub r ver lo=>
   obtain⟨row,h1,h2,hrz,h⟩:=dV h;split at h
   ·rename_i hp;simp only[Rd.run,KX]at h;subst h;obtain⟨S',q1,q2,q3⟩:=hS.show r row h1 hrz hp.1;have:=hv.sub_.2 h2 row h1;subst this;exact⟨S',q1,q2,q3.cut hp.2⟩
   ·simp[Rd.run]at h
 |own=>simp[cF,Rd.run]at h
 |agg=>simp[cF,Rd.run]at h
 |tuple=>simp[cF,Rd.run]at h
 |mp=>simp[cF,Rd.run]at h
 |clo=>simp[cF,Rd.run]at h
 |fmap=>exact plain (by cases hv with|val h=>exact h) (by simpa[cF,Rd.run]using h.symm)
 |full=>exact plain (by cases hv with|val h=>exact h) (by simpa[cF,Rd.run]using h.symm)
 |news=>exact plain (by cases hv with|val h=>exact h) (by simpa[cF,Rd.run]using h.symm)
 |any=>exact plain (.any v) (by simpa[cF,Rd.run]using h.symm)
 |lit u=>exact plain (by cases hv with|val h=>exact h) (by simpa[cF,Rd.run]using h.symm)
 |iface t u=>exact plain (by cases hv with|val h=>exact h) (by simpa[cF,Rd.run]using h.symm)
 |seq=>exact plain (by cases hv with|val h=>exact h) (by simpa[cF,Rd.run]using h.symm)
 |ref=>exact plain (by cases hv with|val h=>exact h) (by simpa[cF,Rd.run]using h.symm)
theorem mB: ∀ {cs:List AV} {vs:List Value} {s:St} {m:Mem} {y:List AV×List Nat},(dq cs).run s=some y->Sim x s a w m->vs.length=cs.length->(∀(i:Nat) (v:Value) (c:AV),vs[i]? =some v->cs[i]? =some c->RL w m s v c)->
 ∃S',Sim x (apps (shows y.2) s) a w ⟨S',m.ρ⟩/\(∀b o,m.S b o->S' b o)/\y.1.length=cs.length/\ ∀(i:Nat) (v:Value) (c:AV),vs[i]? =some v->y.1[i]? =some c->RV S' w v c
 | [],vs,s,m,y,h,hS,hl,hv=>by
   simp only[dq,Rd.run,KX]at h;subst h;exact⟨m.S,hS,fun _ _ h=>h,rfl,fun i v c _ hc=>by simp at hc⟩
 |c::cs,[],s,m,y,h,hS,hl,hv=>by simp at hl
 | c::cs,v::vs,s,m,y,h,hS,hl,hv=>by
   simp only[dq]at h;obtain⟨y1,h1,h⟩:=run_bind h;obtain⟨y2,h2,h⟩:=run_bind h;simp only[Rd.run,KX]at h;subst h;obtain⟨S1,q1,q2,q3⟩:=vF h1 hS (hv 0 v c rfl rfl);obtain⟨e1,e2,_⟩:=cL y1.2 s;have h2':(dq cs).run (apps (shows y1.2) s)=some y2:=by rw[<-h2];exact fv e1 e2 cs
   obtain⟨S2,p1,p2,p3,p4⟩:=mB h2' q1 (by simpa using hl) (fun i v' c' hv' hc'=>(hv (i+1) v' c' (by simpa using hv') (by simpa using hc')).shown y1.2 q2);refine⟨S2,by simp only[shows,Ki,apps_append];exact p1,fun b o hb=>p2 b o (q2 b o hb),by simp[p3],fun i v' c' hv' hc'=> ?_⟩;cases i with
   | zero=>
     simp only[LM,KX]at hv' hc';subst hv' hc';exact q3.mono fun b o hb=>⟨p2 b o hb, .rfl⟩
   |succ i=>exact p4 i v' c' (by simpa using hv') (by simpa using hc')
theorem nQ {s:St} {m:Mem} {c:AV} {y:AV×List Nat} {v:Value} (h:(fz c).run s=some y) (hS:Sim x s a w m) (hv:RL w m s v c):
 ∃S',Sim x (apps (shows y.2) s) a w ⟨S',m.ρ⟩/\(∀b o,m.S b o->S' b o)/\RV S' w v y.1:=by
 cases c with
 | agg cs=>
   simp only[fz]at h;obtain⟨y1,h1,h⟩:=run_bind h;simp only[Rd.run,KX]at h;subst h;obtain⟨vs,e,hl,h1c,hc⟩:=hv.agg_;obtain⟨S',q1,q2,q3,q4⟩:=mB h1 hS hl hc;subst e;exact⟨S',q1,q2, .agg vs _ (by omega) h1c q4⟩
 | clo g cs=>
   simp only[fz]at h;obtain⟨y1,h1,h⟩:=run_bind h;simp only[Rd.run,KX]at h;subst h;obtain⟨vs,e,hl,hc⟩:=hv.clo_;obtain⟨S',q1,q2,q3,q4⟩:=mB h1 hS hl hc;subst e;exact⟨S',q1,q2, .clo g vs _ (by omega) q4⟩
 |_=>exact vF (by simpa only[fz]using h) hS hv
end
theorem cells_one {v:Value} (h:v.oneCell'=true):v.cells= #[v]:=by
 cases v<;>first|rfl|cases h
theorem mG {w:World} {m:Mem} {s:St} {v:Value} {c:AV} {cs:List AV} (h:c.asCells=some cs) (hv:RL w m s v c):
 ∃vs:List Value,v.cells=vs.toArray/\vs.length=cs.length/\(∀v∈vs,v.oneCell'=true)/\ ∀(i:Nat) (v:Value) (c:AV),vs[i]? =some v->cs[i]? =some c->RL w m s v c:=by
 have one:v.oneCell'=true->cs=[c]-> ∃vs:List Value,v.cells=vs.toArray/\vs.length=cs.length/\(∀v∈vs,v.oneCell'=true)/\ ∀(i:Nat) (v:Value) (c:AV),vs[i]? =some v->cs[i]? =some c->RL w m s v c:=fun h1 e=>by
  subst e;refine⟨[v],by rw[cells_one h1],rfl,by simpa using h1,fun i v' c' hv' hc'=> ?_⟩;cases i with
  |zero=>simp at hv' hc';subst hv' hc';exact hv
  |succ i=>simp at hv'
 cases c with
 | agg cs'=>
   simp only[AV.asCells,KX]at h;subst h;obtain⟨vs,e,hl,h1,hc⟩:=hv.agg_;subst e;exact⟨vs,rfl,hl,h1,hc⟩
 |any=>simp[AV.asCells]at h
 |tuple=>simp[AV.asCells]at h
 |own=>simp[AV.asCells]at h
 | lit u=>
   simp only[AV.asCells]at h;split at h
   ·rename_i h1;cases h;have:=hv.lit_;subst this;exact one h1 rfl
   ·cases h
 | iface t u=>
   simp only[AV.asCells,KX]at h;obtain⟨u',e,_⟩:=hv.iface_;exact one (by rw[e];rfl) h.symm
 | seq sz es=>
   simp only[AV.asCells,KX]at h;have hr:=hv.seq_;exact one (by cases hr;rfl) h.symm
 | ref sz es i off=>
   simp only[AV.asCells,KX]at h;have hr:=hv.ref_;exact one (by cases hr;rfl) h.symm
 | row r ver=>
   simp only[AV.asCells,KX]at h;exact one (by cases hv with|val h=>cases h|row _ _ h1=>exact h1) h.symm
 | loc r ver i off=>
   simp only[AV.asCells,KX]at h;exact one (by cases hv with|val h=>cases h|loc _ _ _ _ h1=>exact h1) h.symm
 | mp r ver=>
   simp only[AV.asCells,KX]at h;exact one (by cases hv with|val h=>cases h|mp _ _ h1=>exact h1) h.symm
 | sub r ver lo=>
   simp only[AV.asCells,KX]at h;exact one (by cases hv with|val h=>cases h|sub _ _ _ h1=>exact h1) h.symm
 | clo g cs'=>
   simp only[AV.asCells,KX]at h;obtain⟨vs,e,_⟩:=hv.clo_;exact one (by rw[e];rfl) h.symm
 | fmap es=>
   simp only[AV.asCells,KX]at h;have hr:=hv.fmap_;exact one (by cases hr;rfl) h.symm
 | full sz es=>
   simp only[AV.asCells,KX]at h;have hr:=hv.full_;exact one (by cases hr;rfl) h.symm
 | news n sz es=>
   simp only[AV.asCells,KX]at h;have hr:=hv.news_;exact one (by cases hr;rfl) h.symm
theorem sK {S:Nat->Nat->Prop} {w:World} {v:Value} {c:AV} {cs:List AV} (h:c.asCells=some cs) (hv:RV S w v c):
 ∃vs:List Value,v.cells=vs.toArray/\vs.length=cs.length/\(∀v∈vs,v.oneCell'=true)/\ ∀(i:Nat) (v:Value) (c:AV),vs[i]? =some v->cs[i]? =some c->RV S w v c:=by
 cases hv with
 |any=>simp[AV.asCells]at h
 |tuple=>simp[AV.asCells]at h
 | agg vs cs' hl h1 hc=>
   simp only[AV.asCells,KX]at h;subst h;exact⟨vs,rfl,hl,h1,hc⟩
 | lit u=>
   simp only[AV.asCells]at h;split at h
   ·rename_i h1;cases h;refine⟨[v],by rw[cells_one h1],rfl,by simpa using h1,fun i v' c' hv' hc'=> ?_⟩;cases i with
    |zero=>simp at hv' hc';subst hv' hc';exact .lit v
    |succ i=>simp at hv'
   ·cases h
 | iface t u c' hu=>
   simp only[AV.asCells,KX]at h;subst h;refine⟨[.iface t u],rfl,rfl,by simp[Value.oneCell'],fun i v' c' hv' hc'=> ?_⟩;cases i with
   |zero=>simp at hv' hc';subst hv' hc';exact .iface t u _ hu
   |succ i=>simp at hv'
 | seq A n cap sz es b o u hn hcap hA hz hc hr=>
   simp only[AV.asCells,KX]at h;subst h;refine⟨[.slice A n cap],rfl,rfl,by simp[Value.oneCell'],fun i v' c' hv' hc'=> ?_⟩;cases i with
   |zero=>simp at hv' hc';subst hv' hc';exact .seq A n cap sz es b o u hn hcap hA hz hc hr
   |succ i=>simp at hv'
 | ref sz es i off b o u hz hc hr=>
   simp only[AV.asCells,KX]at h;subst h;refine⟨[.pointer (some ⟨b,o+(i*sz+off),none⟩)],rfl,rfl,by simp[Value.oneCell'],fun i v' c' hv' hc'=> ?_⟩;cases i with
   |zero=>simp at hv' hc';subst hv' hc';exact .ref sz es _ off b o u hz hc hr
   |succ i=>simp at hv'
 | clo g vs cs' hl hc=>
   simp only[AV.asCells,KX]at h;subst h;refine⟨[.func (.func g) #[] vs.toArray],rfl,rfl,by simp[Value.oneCell'],fun i v' c' hv' hc'=> ?_⟩;cases i with
   |zero=>simp at hv' hc';subst hv' hc';exact .clo g vs _ hl hc
   |succ i=>simp at hv'
 | fmap g ents clock es h0 hg hn hz hk hvv=>
   simp only[AV.asCells,KX]at h;subst h;refine⟨[.map (some g)],rfl,rfl,by simp[Value.oneCell'],fun i v' c' hv' hc'=> ?_⟩;cases i with
   |zero=>simp at hv' hc';subst hv' hc';exact .fmap g ents clock es h0 hg hn hz hk hvv
   |succ i=>simp at hv'
 | full A n sz es hh=>
   simp only[AV.asCells,KX]at h;subst h;refine⟨[.slice A n n],rfl,rfl,by simp[Value.oneCell'],fun i v' c' hv' hc'=> ?_⟩;cases i with
   |zero=>simp at hv' hc';subst hv' hc';exact .full A n sz es hh
   |succ i=>simp at hv'
 | news A n k cap sz es hA hh=>
   simp only[AV.asCells,KX]at h;subst h;refine⟨[.slice A k cap],rfl,rfl,by simp[Value.oneCell'],fun i v' c' hv' hc'=> ?_⟩;cases i with
   |zero=>simp at hv' hc';subst hv' hc';exact .news A n k cap sz es hA hh
   |succ i=>simp at hv'
section
variable {P:Program} {x:Ctx} {s:St} {a:Act} {w:World} {m:Mem} {o:Oper} {out:Out}
theorem j3 {t:TypeId} {g p:Nat} {e:TypeId} {cur:Array Value} {v:Value} {vs:List Value} (w:World) (hg:w.heap[g]? =some (.cells cur e (0,0))) (hv:v.cells=vs.toArray) (hn:(P.info? t).map (·.size)=some vs.length) (hfit:p+vs.length<=cur.size) (h1: ∀v∈vs,v.oneCell'=true):
 (Instr.storeAt t (.pointer (some ⟨g,p,none⟩)) v).run P w= .ok () (w.setRow g (cur.toList.take p++vs++cur.toList.drop (p+vs.length)).toArray):=by
 have hst:=Of P g p e vs 0 cur w hg (by simpa using hfit) h1;cases hq:P.info? t with
 |none=>rw[hq]at hn;cases hn
 | some i=>
   rw[hq]at hn;have hs:vs.length=i.size:=by simpa using hn.symm
   simp only[Md]at hst;simp[Instr.storeAt,Instr.sureAddr,storeVar,sizeOf,typeInfo,hq,hv,hs,hst]
theorem yA {t:TypeId} {y z:Operand} (ho:o.op= .store t y z) (hS:Sim x s a w m) (h:(aT P x.env s.f o).run s=some out):dU P x s a w o out:=by
 have hy:=ah hS y;have hz:=ah hS z;unfold aT at h;simp only[ho]at h;unfold oE at h;split at h
 ·rename_i r ver i off d e1 hd;rw[e1]at hy;obtain⟨row,hrow,hver,hrz,h⟩:=dV h;obtain⟨g,hg,hv⟩:=hy.loc_.2 hver row hrow;obtain⟨k,n,zz⟩:=d;obtain⟨td,hu,hk,hn⟩:=wU hd;simp only[Rd.run]at h;cases hesc:s.esc r with
  |true=>rw[hesc]at h;simp[Rd.run]at h
  | false=>
    rw[hesc]at h;simp only[LA,Lf]at h;cases hi:row.es[i]? with
    |none=>rw[hi]at h;simp[Rd.run]at h
    | some e=>
      rw[hi]at h;simp only at h;split at h
      ·rename_i hp;obtain⟨q,hq,h⟩:=run_bind h;cases hac:q.1.asCells with
       |none=>rw[hac]at h;simp[Rd.run]at h
       | some cs=>
         rw[hac]at h;simp only at h;split at h
         ·rename_i hcond;obtain⟨hlen,hfit,hne⟩:=hcond;simp only[Rd.run,KX]at h;subst h;obtain⟨S',q1,q2,q3⟩:=nQ hq hS hz;obtain⟨vs,w1,w2,w3,w4⟩:=sK hac q3;obtain⟨er,ev,_⟩:=cL q.2 s;obtain⟨cur,c1,c2,c3⟩:=q1.store r row (by rw[er];exact hrow) hrz (by rw[ES _ _ _ hne];exact hesc) i off e hi cs vs w2 hfit w3 (fun j v c hv hc=>by rw[K0 hp];exact w4 j v c hv hc) g hg;have hrun:=j3 (P:=P) (t:=t) w c1 w1 (by rw[hn,w2];simp[hlen]) c2 w3;refine⟨.skip,_,_,undef,?_, .inr ⟨rfl,rfl⟩,by rw[apps_append];exact c3, .val (.any _)⟩;unfold execOp;simp only[ho,hv,Ks,hrun,Kc,LO]
         ·simp[Rd.run]at h
      ·rename_i hp;cases hac:(gt x.env s.f z).asCells with
       |none=>rw[hac]at h;simp[Rd.run]at h
       | some cs=>
         rw[hac]at h;simp only at h;split at h
         ·rename_i hcond;obtain⟨hlen,hfit⟩:=hcond;simp only[Rd.run,KX]at h;subst h;obtain⟨vs,w1,w2,w3,w4⟩:=mG hac hz;obtain⟨cur,c1,c2,c3⟩:=hS.store r row hrow hrz hesc i off e hi cs vs w2 hfit w3 (fun j v c hv hc=>by rw[KZ hp];exact w4 j v c hv hc) g hg;have hrun:=j3 (P:=P) (t:=t) w c1 w1 (by rw[hn,w2];simp[hlen]) c2 w3;refine⟨.skip,_,_,undef,?_, .inr ⟨rfl,rfl⟩,c3, .val (.any _)⟩;unfold execOp;simp only[ho,hv,Ks,hrun,Kc,LO]
         ·simp[Rd.run]at h
 ·simp[Rd.run]at h
end
end
section
section
variable {P:Program} {x:Ctx} {s:St} {a:Act} {w:World} {m:Mem} {o:Oper} {out:Out}
theorem Hs {d:Option Nat} {t:TypeId} {cs:List AV} {vs:List Value} (hS:Sim x s a w m) (h:(ky d t cs).run s=some out) (hl:vs.length=cs.length) (h1: ∀v∈vs,v.oneCell'=true)
 (hc: ∀(i:Nat) (v:Value) (c:AV),vs[i]? =some v->cs[i]? =some c->RL w m s v c):
 ∃m',Sim x (apps out.effs s) a (w.alloc (.cells vs.toArray t)) m'/\RL (w.alloc (.cells vs.toArray t)) m' (apps out.effs s) (.pointer (some ⟨w.heap.size,0,none⟩)) out.val:=by
 unfold ky at h;cases d with
 |none=>simp[Rd.run]at h
 | some d=>
   simp only at h;split at h
   ·rename_i hpos;simp only[Rd.run,KX]at h;subst h
    have hS':=hS.newRow d ⟨cs.length,[cs],t,false⟩ vs hpos (by simp[maxLen]) (fun i e he=>by
     cases i with
     |zero=>simp at he;rw[<-he]
     |succ i=>simp at he) (by simpa using hl) h1 (fun i j c hcc=>by
     unfold cellAt at hcc;cases i with
     | zero=>
       have hcc:cs[j]? =some c:=by simpa using hcc
       have hj:j<vs.length:=by rw[hl];exact(KW.1 hcc).1
       exact⟨vs[j],by simp[KV hj],by simpa using hc j _ c (KV hj) hcc⟩
     |succ i=>simp at hcc)
    refine⟨_,hS', .loc d (s.vs d+1) 0 0 rfl (by simp[apps,Eff.app,St.renew,upd_same]) fun _ row hr=>⟨w.heap.size,by simp[upd_same,Value.ownBlock],by simp⟩⟩
   ·simp[Rd.run]at h
theorem yG {t:TypeId} (ho:o.op= .alloc t) (hS:Sim x s a w m) (h:(aT P x.env s.f o).run s=some out):dU P x s a w o out:=by
 unfold aT at h;simp only[ho]at h;cases hd:tyD P t with
 |none=>rw[hd]at h;simp[Rd.run]at h
 | some d=>
   rw[hd]at h;simp only at h;split at h
   ·rename_i hz;obtain⟨i,td,z,hi,hu,hzz,hk,hs,hzl⟩:=fV hd;have h1: ∀v∈d.zero,v.oneCell'=true:=fun v hv=>(K2.1 hz.2) v hv
    obtain⟨m',q1,q2⟩:=Hs hS h (vs:=d.zero) (by simp) h1 (fun i v c hv hc=>by
     rw[K5,hv]at hc;simp only[Kg,KX]at hc;subst hc
     exact .val (.lit v))
    refine⟨_,_,m',_,?_, .inl rfl,q1,q2⟩;have hz2:z.cells=d.zero.toArray:=by rw[<-hzl]
    unfold execOp;simp[ho,Instr.alloc,zeroValue,typeInfo,hi,hzz,newVar,newRow,hz2]
   ·simp[Rd.run]at h
theorem EQ {t:TypeId} {y:Operand} (ho:o.op= .box t y) (hS:Sim x s a w m) (h:(aT P x.env s.f o).run s=some out):dU P x s a w o out:=by
 have hy:=ah hS y;unfold aT at h;simp only[ho]at h;obtain⟨cs,hac,h⟩:=fB h;obtain⟨vs,w1,w2,w3,w4⟩:=mG hac hy;obtain⟨m',q1,q2⟩:=Hs hS h w2 w3 w4;refine⟨_,_,m',_,?_, .inl rfl,q1,q2⟩;unfold execOp;simp[ho,Instr.box,newVar,newRow,w1]
/-! Parts -/
theorem xz {α:Type} (l:List α) (p:Nat) (v:α) (vs:List α) (h:p+(vs.length+1)<=l.length):splice (l.set p v) (p+1) vs=splice l p (v::vs):=by
 apply LQ;intro k;rw[bb _ _ _ (by simp;omega),bb _ _ _ (by simp;omega)];simp only[Kj];by_cases h1:k<p
 ·rw[K0 (by omega),K0 h1,NJ (by omega)]
 ·by_cases h2:k=p
  ·subst h2;rw[K0 (by omega),KZ (by omega),K0 (by omega),NV (by omega)];simp
  ·rw[KZ (by omega),KZ h1];by_cases h3:k<p+1+vs.length
   ·rw[K0 h3,K0 (by omega),show k-p=(k-(p+1))+1 by omega,ME]
   ·rw[KZ h3,KZ (by omega),NJ (by omega)]
theorem Ai {α:Type} (l:List α) (p:Nat) (_h:p<=l.length):splice l p ([]:List α)=l:=by
 simp[splice]
theorem mX (off:Nat): ∀(vs:List Value) (k:Nat) (arr:Array Value),off+k+vs.length<=arr.size->(vs.zipIdx k).foldl (fun(cs:Array Value) p=>cs.setIfInBounds (off+p.2) p.1) arr=(splice arr.toList (off+k) vs).toArray
 |[],k,arr,h=>by simp[Ai _ _ (show off+k<=arr.toList.length by simpa using h)]
 | v::vs,k,arr,h=>by
   simp only[List.zipIdx_cons,O0];rw[mX off vs (k+1) _ (by simp at h |-;omega)];simp only[Array.toList_setIfInBounds];rw[show off+(k+1)=off+k+1 by omega,xz _ _ _ _ (by simp at h |-;omega)]
theorem vL {place:Nat->Option (Nat×Nat)} {l vs:List Value} {i off size:Nat} {v:Value} {rest:List (Nat×Value)} (hp:place i=some (off,size)) (hv:v.cells=vs.toArray) (hn:vs.length=size) (hfit:off+vs.length<=l.length):
 Instr.fill place l.toArray ((i,v)::rest)=Instr.fill place (splice l off vs).toArray rest:=by
 have hb:(decide (v.cells.size≠size)||decide (off+v.cells.size>l.toArray.size))=false:=by
  rw[hv];simp[hn];omega
 have hf:Array.foldl (fun(cs:Array Value) (p:Value×Nat)=>cs.setIfInBounds (off+p.2) p.1) l.toArray v.cells.zipIdx=(splice l off vs).toArray:=by
  rw[hv];have:=mX off vs 0 l.toArray (by simpa using hfit);simpa[Oa]using this
 simp only[Instr.fill,hp,hf];rw[KZ (by simpa using hb)]
theorem vN {R:Value->AV->Prop} (hR: ∀ {v:Value} {c:AV} {cs:List AV},c.asCells=some cs->R v c-> ∃vs:List Value,v.cells=vs.toArray/\vs.length=cs.length/\(∀v∈vs,v.oneCell'=true)/\ ∀(i:Nat) (v:Value) (c:AV),vs[i]? =some v->cs[i]? =some c->R v c)
 (fs:List (Nat×TypeId×Nat)) (place:Nat->Option (Nat×Nat)) (hp: ∀(i off:Nat) (t:TypeId) (n:Nat),fs[i]? =some (off,t,n)->place i=some (off,n)):
 ∀(ps:List (Nat×AV)) (pv:List (Nat×Value)) (cs:List AV) (l:List Value) (cs':List AV),lN fs cs ps=some cs'->pv.map (·.1)=ps.map (·.1)->(∀(i:Nat) (p:Nat×Value) (q:Nat×AV),pv[i]? =some p->ps[i]? =some q->R p.2 q.2)->
  l.length=cs.length->(∀v∈l,v.oneCell'=true)->(∀(i:Nat) (v:Value) (c:AV),l[i]? =some v->cs[i]? =some c->R v c)->
  ∃l':List Value,Instr.fill place l.toArray pv=some l'.toArray/\l'.length=cs'.length/\(∀v∈l',v.oneCell'=true)/\ ∀(i:Nat) (v:Value) (c:AV),l'[i]? =some v->cs'[i]? =some c->R v c
 | [],pv,cs,l,cs',h,hm,_,hl,h1,hc=>by
   have:pv=[]:=by simpa using hm
   subst this;simp only[lN,KX]at h;subst h;exact⟨l,rfl,hl,h1,hc⟩
 |(i,y)::ps,[],cs,l,cs',h,hm,_,hl,h1,hc=>by simp at hm
 |(i,y)::ps,(j,v)::pv,cs,l,cs',h,hm,hpr,hl,h1,hc=>by
   simp only[LI,Me]at hm;obtain⟨rfl,hm⟩:=hm;simp only[lN]at h;split at h
   ·rename_i off ft n ys e1 e2;split at h
    ·rename_i hb;obtain⟨hb1,hb2⟩:=hb;obtain⟨vs,w1,w2,w3,w4⟩:=hR e2 (hpr 0 (j,v) (j,y) rfl rfl);have hfit:off+vs.length<=l.length:=by omega
     have hfit2:off+ys.length<=cs.length:=hb2
     obtain⟨l',r1,r2,r3,r4⟩:=vN hR fs place hp ps pv (splice cs off ys) (splice l off vs) cs' h hm (fun i p q hpi hqi=>hpr (i+1) p q (by simpa using hpi) (by simpa using hqi)) (by rw[cz _ _ _ hfit,cz _ _ _ hfit2,hl])
      (fun u hu=>by
       simp only[splice,Kt]at hu;rcases hu with(hu|hu)|hu
       ·exact h1 u (MK hu)
       ·exact w3 u hu
       ·exact h1 u (Mi hu))
      (fun k u c hu hcc=>by
       rw[bb _ _ _ hfit]at hu;rw[bb _ _ _ hfit2]at hcc;by_cases k1:k<off
       ·rw[K0 k1]at hu hcc;exact hc k u c hu hcc
       ·rw[KZ k1]at hu hcc;by_cases k2:k<off+vs.length
        ·rw[K0 k2]at hu;rw[K0 (by omega)]at hcc;exact w4 _ u c hu hcc
        ·rw[KZ k2]at hu;rw[KZ (by omega)]at hcc
         exact hc k u c hu hcc)
     exact⟨l',by rw[vL (hp j off ft n e1) w1 (by omega) hfit];exact r1,r2,r3,r4⟩
    ·cases h
   ·cases h
theorem uk: ∀(fl:List Field) (fs:List (Nat×TypeId×Nat)),fl.mapM (fun f=>(P.info? f.type).map fun i=>(f.offset,f.type,i.size))=some fs->fl.mapM (fun f=>(P.info? f.type).map fun i=>(f.offset,i.size))=some (fs.map fun q=>(q.1,q.2.2))
 |[],fs,h=>by simp at h;subst h;simp
 | f::fl,fs,h=>by
   simp only[N8,Nl,NZ]at h |-;cases hx:P.info? f.type with
   |none=>simp[hx]at h
   | some ii=>
     cases hr:fl.mapM (fun f=>(P.info? f.type).map fun i=>(f.offset,f.type,i.size)) with
     |none=>simp[hx,hr]at h
     | some r=>
       simp[hx,hr]at h;subst h;rw[uk fl r hr];rfl
theorem yE {t:TypeId} {parts:Array (Nat×Operand)} (ho:o.op= .build t parts) (hS:Sim x s a w m) (h:(aT P x.env s.f o).run s=some out):dU P x s a w o out:=by
 unfold aT at h;simp only[ho]at h;split at h
 ·rename_i fs eq n z hd;split at h
  ·rename_i hz;obtain⟨hz1,hz2⟩:=hz;obtain⟨cs,hf,h⟩:=fB h;obtain rfl:=ax h;obtain⟨i,td,zv,hi,hu',hzz,hk,hs,hzl⟩:=fV hd;obtain⟨f,hu,hmm,_⟩:=de hd;have hm2:=uk (P:=P) f.toList fs hmm;have hzl:zv.cells.toList=z:=hzl
   have hpart:=vN (R:=RL w m s) (fun h1 h2=>mG h1 h2) fs (fun i=>(fs.map fun q=>(q.1,q.2.2)).toArray[i]?) (fun i off t n hh=>by simp[hh]) _ (parts.toList.map fun p=>(p.1,a.eval p.2)) _ z cs hf (by simp) (fun i p q hp hq=>by
    rw[K5]at hp hq;cases hpi:parts.toList[i]? with
    |none=>rw[hpi]at hp;cases hp
    | some pp=>
      rw[hpi]at hp hq;cases hp;cases hq;exact ah hS pp.2) (by simp) (fun v hv=>(K2.1 hz2) v hv) (fun i v c hv hc=>by
    rw[K5,hv]at hc;cases hc
    exact .val (.lit v))
   obtain⟨l',r1,r2,r3,r4⟩:=hpart
   have hb:P.built t (parts.map fun(i,x)=>(i,a.eval x)).toList=some l'.toArray:=by
    unfold Program.built;rw[hi,hu];simp only[hzz,hm2];rw[show zv.cells=z.toArray by simp[<-hzl]];simpa using r1
   refine .same hS (v:= .agg l'.toArray) ?_ rfl (.agg l' cs r2 r3 r4);unfold execOp;simp only[ho,Ks,run_build w t _ _ hb,Kc,LO]
  ·simp[Rd.run]at h
 ·simp[Rd.run]at h
end
end
section
theorem J3 {k:Nat} (h:k=0) (f:Nat->Value):(Array.range k).map f= #[]:=by
 subst h;apply Array.ext<;>simp
structure EsOk (S:Nat->Nat->Prop) (w:World) (sz:Nat) (l:List Value) (es:List (List AV)):Prop where
 len:l.length=es.length*sz
 one: ∀v∈l,v.oneCell'=true
 els: ∀(i:Nat) (e:List AV),es[i]? =some e->e.length=sz
 cell: ∀(i j:Nat) (c:AV),cellAt es i j=some c-> ∃u,l[i*sz+j]? =some u/\RV S w u c
theorem EsOk.mono {S S':Nat->Nat->Prop} {w w':World} {sz:Nat} {l:List Value} {es:List (List AV)} (h:EsOk S w sz l es) (hS: ∀b o,S b o->S' b o/\Stay w w' b o):EsOk S' w' sz l es:=
 ⟨h.len,h.one,h.els,fun i j c hc=>by obtain⟨u,h1,h2⟩:=h.cell i j c hc;exact⟨u,h1,h2.mono hS⟩⟩
theorem EsOk.rep {S:Nat->Nat->Prop} {w:World} {sz:Nat} {ez:List Value} (n:Nat) (hz:ez.length=sz) (h1: ∀v∈ez,v.oneCell'=true) (hpos:0<sz):
 EsOk S w sz ((Array.range (n*sz)).map (ez.toArray[· % ez.toArray.size]!)).toList (List.replicate n (ez.map .lit)):=by
 have hget: ∀k,k<n*sz->(((Array.range (n*sz)).map (ez.toArray[· % ez.toArray.size]!)).toList)[k]? =some (ez.getD (k%sz) undef):=fun k hk=>by
  have hm:k%sz<ez.length:=by rw[hz];exact N9 _ hpos
  simp[hk,hz];rw[KV hm];simp
 refine⟨by simp,fun v hv=> ?_,fun i e he=> ?_,fun i j c hc=> ?_⟩
 ·obtain⟨k,hk,rfl⟩:=Lp hv;have hk':k<n*sz:=by simpa using hk
  have:=hget k hk';rw[KV hk]at this;injection this with this
  rw[this];have hm:k%sz<ez.length:=by rw[hz];exact N9 _ hpos
  simp only[List.getD,KV hm,Ls];exact h1 _ (MI _)
 ·rw[NR]at he;split at he
  ·cases he;simpa using hz
  ·cases he
 ·unfold cellAt at hc;rw[NR]at hc;split at hc
  ·rename_i hi;have hc:(ez.map AV.lit)[j]? =some c:=hc;have hj:j<sz:=by have:=(KW.1 hc).1;simp at this;omega
   rw[K5]at hc;refine⟨ez.getD j undef,?_,?_⟩
   ·rw[hget _ (jk hi hj),Mf i sz,Nat.mul_add_mod,OO hj]
   ·rw[KV (by omega)]at hc;simp only[Kg,KX]at hc;subst hc;simp only[List.getD,KV (show j<ez.length by omega),Ls];exact .lit _
  ·cases hc
theorem EsOk.set {S:Nat->Nat->Prop} {w:World} {sz:Nat} {l:List Value} {es:List (List AV)} (h:EsOk S w sz l es) (i:Nat) (hi:i<es.length) (ys:List AV) (vs:List Value) (hy:ys.length=sz) (hv:vs.length=sz) (h1: ∀v∈vs,v.oneCell'=true)
 (hc: ∀(j:Nat) (v:Value) (c:AV),vs[j]? =some v->ys[j]? =some c->RV S w v c):i*sz+vs.length<=l.length/\EsOk S w sz (splice l (i*sz) vs) (es.set i ys):=by
 have hfit:i*sz+vs.length<=l.length:=by
  have:(i+1)*sz<=es.length*sz:=LE _ hi;rw[Ll,Mh]at this;rw[h.len,hv];exact this
 have hz': ∀(p:Nat) (e:List AV),(es.set i ys)[p]? =some e->e.length=sz:=fun p e hp=>by
  rw[Ln]at hp;by_cases ep:i=p
  ·rw[K0 ep,K0 hi]at hp;cases hp;exact hy
  ·rw[KZ ep]at hp;exact h.els p e hp
 refine⟨hfit,by rw[cz _ _ _ hfit,h.len];simp,fun u hu=> ?_,hz',fun p j c hpc=> ?_⟩
 ·simp only[splice,Kt]at hu;rcases hu with(hu|hu)|hu
  ·exact h.one u (MK hu)
  ·exact h1 u hu
  ·exact h.one u (Mi hu)
 ·have hlt:=du hz' hpc;simp only[MV]at hlt;rw[bb _ _ _ hfit];by_cases hpi:p=i
  ·subst hpi
   have hc2:ys[j]? =some c:=by
    unfold cellAt at hpc;rw[NV hi]at hpc;exact hpc
   have hj:j<vs.length:=by rw[hv];exact hlt.2
   refine⟨vs[j],?_,hc j _ c (KV hj) hc2⟩;rw[KZ (by omega),K0 (by omega),show p*sz+j-p*sz=j by omega,KV hj]
  ·have hc2:cellAt es p j=some c:=by
    unfold cellAt at hpc |-;rw[NJ (MJ hpi)]at hpc;exact hpc
   obtain⟨u,q1,q2⟩:=h.cell p j c hc2;refine⟨u,?_,q2⟩;by_cases k1:p*sz+j<i*sz
   ·rw[K0 k1];exact q1
   ·rw[KZ k1,KZ ?_]
    ·exact q1
    ·intro k2;rcases Mt p i with hp|hp
     ·have:(p+1)*sz<=i*sz:=LE _ hp;rw[Ll,Mh]at this;omega
     ·have:(i+1)*sz<=p*sz:=LE _ (by omega);rw[Ll,Mh]at this;omega
theorem vM {S:Nat->Nat->Prop} {w:World} {sz:Nat} : ∀(ps:List (Nat×AV)) (pv:List (Nat×Value)) (es:List (List AV)) (l:List Value) (es':List (List AV)),iZ sz es ps=some es'->pv.map (·.1)=ps.map (·.1)->
 (∀(i:Nat) (p:Nat×Value) (q:Nat×AV),pv[i]? =some p->ps[i]? =some q->RV S w p.2 q.2)->EsOk S w sz l es->
 ∃l':List Value,Instr.fill (fun i=>some (i*sz,sz)) l.toArray pv=some l'.toArray/\EsOk S w sz l' es'
 | [],pv,es,l,es',h,hm,_,hE=>by
   have:pv=[]:=by simpa using hm
   subst this;simp only[iZ,KX]at h;subst h;exact⟨l,rfl,hE⟩
 |(i,y)::ps,[],es,l,es',h,hm,_,hE=>by simp at hm
 |(i,y)::ps,(j,v)::pv,es,l,es',h,hm,hpr,hE=>by
   simp only[LI,Me]at hm;obtain⟨rfl,hm⟩:=hm;simp only[iZ]at h;cases hac:y.asCells with
   |none=>rw[hac]at h;cases h
   | some ys=>
     rw[hac]at h;simp only at h;split at h
     ·rename_i hb;obtain⟨hb1,hb2⟩:=hb;obtain⟨vs,w1,w2,w3,w4⟩:=sK hac (hpr 0 (j,v) (j,y) rfl rfl);obtain⟨hfit,hE2⟩:=hE.set j hb2 ys vs hb1 (by omega) w3 w4;obtain⟨l',r1,r2⟩:=vM ps pv _ _ es' h hm (fun i p q hpi hqi=>hpr (i+1) p q (by simpa using hpi) (by simpa using hqi)) hE2;exact⟨l',by rw[vL (off:=j*sz) rfl w1 (by omega) hfit];exact r1,r2⟩
     ·cases h
section
variable {x:Ctx} {a:Act} {w:World}
theorem rb {s s':St} (h1:s'.rows=s.rows) (h2:s'.vs=s.vs) (c:AV):(fz c).run s'=(fz c).run s:=by
 cases c with
 | agg cs=>
   simp only[fz,Rd.run_bind,fv h1 h2];rfl
 | clo g cs=>
   simp only[fz,Rd.run_bind,fv h1 h2];rfl
 | _=>
   simp only[fz];exact pS h1 h2
theorem mW {s s':St} (h1:s'.rows=s.rows) (h2:s'.vs=s.vs): ∀ps:List (Nat×AV),(dp ps).run s'=(dp ps).run s
 |[]=>rfl
 |(i,c)::ps=>by
   simp only[dp,Rd.run_bind,rb h1 h2,mW h1 h2 ps];rfl
theorem rc: ∀ {ps:List (Nat×AV)} {pv:List (Nat×Value)} {s:St} {m:Mem} {y:List (Nat×AV)×List Nat},(dp ps).run s=some y->Sim x s a w m->pv.map (·.1)=ps.map (·.1)->
 (∀(i:Nat) (p:Nat×Value) (q:Nat×AV),pv[i]? =some p->ps[i]? =some q->RL w m s p.2 q.2)->
 ∃S',Sim x (apps (shows y.2) s) a w ⟨S',m.ρ⟩/\(∀b o,m.S b o->S' b o)/\pv.map (·.1)=y.1.map (·.1)/\ ∀(i:Nat) (p:Nat×Value) (q:Nat×AV),pv[i]? =some p->y.1[i]? =some q->RV S' w p.2 q.2
 | [],pv,s,m,y,h,hS,hm,_=>by
   have:pv=[]:=by simpa using hm
   subst this;simp only[dp,Rd.run,KX]at h;subst h;exact⟨m.S,hS,fun _ _ h=>h,rfl,fun i p q hp _=>by simp at hp⟩
 |(i,c)::ps,[],s,m,y,h,hS,hm,_=>by simp at hm
 |(i,c)::ps,(j,v)::pv,s,m,y,h,hS,hm,hpr=>by
   simp only[LI,Me]at hm;obtain⟨rfl,hm⟩:=hm;simp only[dp]at h;obtain⟨y1,h1,h⟩:=run_bind h;obtain⟨y2,h2,h⟩:=run_bind h;simp only[Rd.run,KX]at h;subst h;obtain⟨S1,q1,q2,q3⟩:=nQ h1 hS (hpr 0 (j,v) (j,c) rfl rfl);obtain⟨e1,e2,_⟩:=cL y1.2 s;have h2':(dp ps).run (apps (shows y1.2) s)=some y2:=by rw[<-h2];exact mW e1 e2 ps
   obtain⟨S2,p1,p2,p3,p4⟩:=rc h2' q1 hm (fun i p q hp hq=>(hpr (i+1) p q (by simpa using hp) (by simpa using hq)).shown y1.2 q2);refine⟨S2,by simp only[shows,Ki,apps_append];exact p1,fun b o hb=>p2 b o (q2 b o hb),by simp[p3],fun k p q hp hq=> ?_⟩;cases k with
   | zero=>
     simp only[LM,KX]at hp hq;subst hp hq;exact q3.mono fun b o hb=>⟨p2 b o hb, .rfl⟩
   |succ k=>exact p4 k p q (by simpa using hp) (by simpa using hq)
end
section
variable {P:Program} {x:Ctx} {s:St} {a:Act} {w:World} {m:Mem} {o:Oper} {out:Out}
theorem pI {d:Nat} {e:TypeId} {sz:Nat} {es:List (List AV)} {l:List Value} (hS:Sim x s a w m) (hpos:0<sz) (hmax:es.length<=maxLen) (hE:EsOk m.S w sz l es):
 ∃m',Sim x (apps [.renew d ⟨sz,es,e,true⟩] s) a (w.alloc (.cells l.toArray e)) m'/\RL (w.alloc (.cells l.toArray e)) m' (apps [.renew d ⟨sz,es,e,true⟩] s) (.slice (some ⟨w.heap.size,0,none⟩) es.length es.length) (.row d (s.vs d+1)):=by
 have hS':=hS.newRow d ⟨sz,es,e,true⟩ l hpos hmax hE.els hE.len hE.one (fun i j c hc=>by
  obtain⟨u,h1,h2⟩:=hE.cell i j c hc
  exact⟨u,h1,by simpa using h2⟩)
 exact⟨_,hS', .row d (s.vs d+1) rfl (by simp[apps,Eff.app,St.renew,upd_same]) fun _ row hr=>by simp[upd_same]⟩
theorem ni {t:TypeId} {n:Nat} {parts:Array (Nat×Operand)} (ho:o.op= .buildSlice t n parts) (hS:Sim x s a w m) (h:(aT P x.env s.f o).run s=some out):dU P x s a w o out:=by
 unfold aT at h;simp only[ho]at h;split at h
 ·rename_i e esz eb ez n' z' d hd hdst;split at h
  ·rename_i hc;obtain⟨hz1,hpos,hz2,hbig⟩:=hc;have hz2': ∀v∈ez,v.oneCell'=true:=fun v hv=>(K2.1 hz2) v hv;obtain⟨q,hq,h⟩:=run_bind h;obtain⟨es,hf,h⟩:=fB h;simp only[Rd.run,KX]at h;subst h;obtain⟨hu,ie,ze,i1,i2,i3,i4,i5⟩:=ay hd
   obtain⟨S',q1,q2,q3,q4⟩:=rc (pv:=parts.toList.map fun p=>(p.1,a.eval p.2)) hq hS (by simp) (fun i p q hp hq=>by
    rw[K5]at hp hq;cases hpi:parts.toList[i]? with
    |none=>rw[hpi]at hp;cases hp
    | some pp=>
      rw[hpi]at hp hq;cases hp;cases hq
      exact ah hS pp.2)
   obtain⟨l',r1,r2⟩:=vM (S:=S') (w:=w) (sz:=esz) q.1 (parts.toList.map fun p=>(p.1,a.eval p.2)) _ _ es hf q3 q4 (EsOk.rep n hz1 hz2' hpos);obtain⟨e1,e2,_⟩:=cL q.2 s
   have hlen:es.length=n:=by
    have: ∀(ps:List (Nat×AV)) (es es':List (List AV)),iZ esz es ps=some es'->es'.length=es.length:=by
     intro ps
     induction ps with
     |nil=>intro es es' h;simp only[iZ,KX]at h;rw[h]
     | cons p ps ih=>
       intro es es' h;obtain⟨i,y⟩:=p;simp only[iZ]at h;split at h
       ·split at h
        ·rw[ih _ _ h];simp
        ·cases h
       ·cases h
    rw[this _ _ _ hf];simp
   have hnm:n<=16777216:=by
    rcases Mt 16777216 n with hh|hh
    ·have:n*1<=n*esz:=Nat.mul_le_mul_left _ hpos;omega
    ·exact hh
   obtain⟨m',p1,p2⟩:=pI (d:=d) (e:=e) q1 hpos (by rw[hlen];unfold maxLen;omega) r2;refine⟨_,_,m',_,?_, .inl rfl,by rw[apps_append];exact p1,by rw[apps_append];have:=p2;rw[e2]at this;exact this⟩;have hzc:ze.cells=ez.toArray:=by simp[<-i5]
   have hs:(sizeOf e).run P w= .ok esz w:=by simp[sizeOf,typeInfo,i1,i3]
   have hzv:(zeroValue e).run P w= .ok ze w:=by simp[zeroValue,typeInfo,i1,i2]
   have hbig': ¬(n*esz>2^24):=by omega
   have hcells:((Array.range (n*esz)).map (ez.toArray[· % ez.toArray.size]!))=((Array.range (n*esz)).map (ez.toArray[· % ez.toArray.size]!)).toList.toArray:=LU.symm;unfold execOp;simp only[ho,Instr.buildSlice,Ks,Ka hu,Kc,hs,Sem.run_ite,KZ hbig'];by_cases h0:n*esz=0
   ·have hn0:n=0:=by
     rcases Nat.mul_eq_zero.1 h0 with hh|hh
     ·exact hh
     ·omega
    subst hn0;have e0: ∀z:Array Value,((Array.range (0*esz)).map (z[· % z.size]!))= #[]:=fun z=>J3 (Mu _) _;rw[e0]at r1
    have r1':Instr.fill (fun i=>some (i*esz,esz)) #[] (parts.map fun(i,x)=>(i,a.eval x)).toList=some l'.toArray:=by
     simpa using r1
    simp only[K0 h0,LO,Kc,e0,r1'];simp[newRow,hlen]
   ·have r1':Instr.fill (fun i=>some (i*esz,esz)) ((Array.range (n*esz)).map (ez.toArray[· % ez.toArray.size]!)) (parts.map fun(i,x)=>(i,a.eval x)).toList=some l'.toArray:=by
     rw[hcells];simpa using r1
    simp only[KZ h0,hzv,Ks,Kc,LO,hzc,r1'];simp[newRow,hlen]
  ·simp[Rd.run]at h
 ·simp[Rd.run]at h
theorem kH {t:TypeId} {y:Operand} (ho:o.op= .makeInterface t y) (hS:Sim x s a w m) (h:(aT P x.env s.f o).run s=some out):dU P x s a w o out:=by
 have hy:=ah hS y;unfold aT at h;simp only[ho]at h;split at h
 ·simp[Rd.run]at h
 ·rename_i d hno hd;obtain⟨i1,td,z1,hi1,hu,_,hk,_⟩:=fV hd;obtain⟨q,hq,h⟩:=run_bind h;simp only[Rd.run,KX]at h;subst h;obtain⟨S',q1,q2,q3⟩:=nQ hq hS hy;refine⟨_,w,_, .iface t (a.eval y),?_, .inl rfl,q1, .val (.iface t _ _ q3)⟩;unfold execOp;obtain⟨k,n,z⟩:=d
  cases td<;>first
   |(simp only[rY,KX]at hk;exact absurd (by rw[<-hk]) (hno _ _))
   |simp[ho,Instr.makeInterface,Ka hu]
 ·simp[Rd.run]at h
end
end
section
section
variable {P:Program} {x:Ctx} {s:St} {a:Act} {w:World} {m:Mem} {o:Oper} {out:Out}
def sP (w:World) (m:Mem) (s:St):Option Value->Option AV->Prop
 |none,none=>True
 |some u,some c=>RL w m s u c
 |_,_=>False
theorem nY {w':World} {m':Mem} {s':St} {l d k:Nat} {y:Option AV} {v:Option Value} (h:bound l d y=some k) (hv:sP w' m' s' v y):
 (y=none/\v=none/\k=d)\/ ∃kk i,v=some (.int kk i)/\0<=i/\i<=l/\k=i.toNat:=by
 cases y with
 | none=>
   cases v with
   |none=>simp only[bound,KX]at h;exact .inl ⟨rfl,rfl,h.symm⟩
   |some u=>exact hv.elim
 | some c=>
   cases v with
   |none=>exact hv.elim
   | some u=>
     have hv:RL w' m' s' u c:=hv;cases c with
     | lit val=>
       have:=hv.lit_;subst this;cases u with
       | int kk i=>
         simp only[bound]at h;split at h
         ·rename_i hb;cases h;exact .inr ⟨kk,i,rfl,hb.1,hb.2,rfl⟩
         ·cases h
       |_=>simp[bound]at h
     |_=>simp[bound]at h
theorem j4 {isS:Bool} {n cap:Nat} {lo hi:Option Value} {l h:Nat} (hcap:n<=cap) (hh:(hi=none/\h=n)\/ ∃kk i,hi=some (.int kk i)/\0<=i/\i<=n/\h=i.toNat)
 (hl:(lo=none/\l=0)\/ ∃kk i,lo=some (.int kk i)/\0<=i/\i<=h/\l=i.toNat):(Instr.sliceBounds isS n cap lo hi none).run P w= .ok (l,h,cap) w/\l<=h/\h<=n:=by
 have hh2:h<=n:=by rcases hh with⟨_,e⟩|⟨kk,i,_,h0,h1,e⟩<;>omega
 have hl2:l<=h:=by rcases hl with⟨_,e⟩|⟨kk,i,_,h0,h1,e⟩<;>omega
 refine⟨?_,hl2,hh2⟩;rcases hh with⟨rfl,rfl⟩|⟨kk,i,rfl,h0,h1,rfl⟩<;>rcases hl with⟨rfl,rfl⟩|⟨kk',j,rfl,j0,j1,rfl⟩
 ·simp[Instr.sliceBounds]
 ·simp[Instr.sliceBounds,Na w kk' j h _ j0 j1]
 ·simp[Instr.sliceBounds,Na w kk i cap _ h0 (by omega)]
 ·simp[Instr.sliceBounds,Na w kk i cap _ h0 (by omega),Na w kk' j i.toNat _ j0 j1]
theorem xc (hS:Sim x s a w m) (lo:Option Operand):sP w m s (lo.map a.eval) (lo.map (gt x.env s.f)):=by
 cases lo with
 |none=>trivial
 |some y=>exact ah hS y
structure Less (s s':St):Prop where
 f: ∀t,s'.f t=s.f t\/s'.f t= .any
 rows: ∀r,s'.rows r=s.rows r\/s'.rows r=none
 vs:s'.vs=s.vs
 esc:s'.esc=s.esc
theorem Sim.less {x:Ctx} {s s':St} {a:Act} {w:World} {m:Mem} (h:Sim x s a w m) (hl:Less s s'):Sim x s' a w m:=by
 have hk: ∀r row',s'.vs r=s.vs r->s'.rows r=some row'-> ∃row,s.rows r=some row/\row.sz=row'.sz/\m.ρ r=m.ρ r:=fun r row' _ hr=>by
  rcases hl.rows r with e|e
  ·exact⟨row',by rw[<-e];exact hr,rfl,rfl⟩
  ·rw[e]at hr;cases hr
 have hsame: ∀r row',s'.rows r=some row'->s.rows r=some row':=fun r row' hr=>by
  rcases hl.rows r with e|e
  ·rw[<-e];exact hr
  ·rw[e]at hr;cases hr
 have hvs: ∀r,s.vs r<=s'.vs r:=fun r=>by rw[hl.vs];exact K8 _
 refine⟨h.bel,h.low,h.sup,h.sub,h.env,h.env0,h.einv,h.dfs,h.siz,fun t=> ?_,fun r row hr=> ?_,fun r r' row row' h1 h2=>h.inj r r' row row' (hsame _ _ h1) (hsame _ _ h2),h.evS,h.toV hvs,h.toK hvs hk,h.fwle,h.fix,fun r row hr=>h.nofx r row (hsame r row hr)⟩
 ·rcases hl.f t with e|e
  ·rw[e];exact(h.slot t).mono (fun b o hb=>⟨hb, .rfl⟩) hvs hk
  ·rw[e];exact .val (.any _)
 ·exact(h.rows r row (hsame r row hr)).mono (fun b o hb=>⟨hb, .rfl⟩) hvs hk rfl (fun _ _=>rfl) (by rw[hl.esc]) (fun _ _ _ hh=>hh)
theorem Sim.cut {x:Ctx} {s:St} {a:Act} {w:World} {m:Mem} (h:Sim x s a w m) (r n:Nat) (row:Row) (hr:s.rows r=some row) (hrz:row.sz≠0) (hp:row.pure=true) (he:s.esc r=false) (hn:n<=row.es.length):
 ∃A len cap,m.ρ r= .slice A len cap/\len=row.es.length/\n<=cap/\len<=cap/\(∀k,A.map (·.add k)=A.map (·.add k))/\(A=none\/ ∃g,A=some ⟨g,0,none⟩)/\Sim x (s.renew r { row with es:=row.es.take n } (s.esc r)) a w ⟨m.S,upd m.ρ r (.slice A n cap)⟩:=by
 have k:=(h.rows r row hr).cells hrz;obtain⟨xs,k1,k2,k3⟩:=k.own
 have h0:Sim x { s with rows:=upd s.rows r none } a w m:=h.less ⟨fun _=> .inl rfl,fun q=>by
  by_cases e:q=r
  ·right;simp[e,upd_same]
  ·left;simp[upd_ne _ _ _ e],rfl,rfl⟩
 have hr0: ∀q row',({ s with rows:=upd s.rows r none } :St).rows q=some row'->q≠r/\s.rows q=some row':=fun q row' hq=>by
  by_cases e:q=r
  ·subst e;simp[upd_same]at hq
  ·exact⟨e,by simpa[upd_ne _ _ _ e]using hq⟩
 have hst:({ s with rows:=upd s.rows r none } :St).renew r { row with es:=row.es.take n } (s.esc r)=s.renew r { row with es:=row.es.take n } (s.esc r):=by
  simp only[St.renew,St.mk.injEq,true_and,Ol]
  funext q
  by_cases e:q=r
  ·subst e;simp[upd_same]
  ·simp[upd_ne _ _ _ e]
 have hcell: ∀i j c,cellAt (row.es.take n) i j=some c->cellAt row.es i j=some c/\i<n:=fun i j c hc=>by
  unfold cellAt at hc |-;rw[Kz]at hc;split at hc
  ·rename_i hi;exact⟨hc,hi⟩
  ·simp at hc
 have hlen:(row.es.take n).length=n:=by rw[Kf];omega
 have main: ∀A len cap,m.ρ r= .slice A len cap->(∀b,(Value.slice A n cap).ownBlock=some b->(m.ρ r).ownBlock=some b)->w.ownsRow x.w.heap.size row.e row.sz (.slice A n cap) n (xs.take (n*row.sz))->Sim x (s.renew r { row with es:=row.es.take n } (s.esc r)) a w ⟨m.S,upd m.ρ r (.slice A n cap)⟩:=fun A len cap hm hblk hown=>by
  have h1:=h0.renew r { row with es:=row.es.take n } (s.esc r) (.slice A n cap) m.S (MM _ _) (fun b o hh=>⟨hh, .rfl⟩) (fun b o hh=> .inl hh) (fun q row' hq hrq g hg=>by
   obtain⟨e1,e2⟩:=hr0 q row' hrq
   exact⟨rfl,fun e=>h.inj r q row row' hr e2 (MJ e1) g (hblk g e) hg,fun o hh=>hh⟩)
   (.inl ⟨k.pos,(fun i e' hi=>by
    have hi:(row.es.take n)[i]? =some e':=hi;rw[Kz]at hi;split at hi
    ·exact k.len i e' hi
    ·cases hi),(by
    refine⟨xs.take (n*row.sz),by simp only[upd_same,hlen];exact hown,fun u hu=>k2 u (MK hu),fun i j c hc=> ?_⟩;obtain⟨c1,c2⟩:=hcell i j c hc;obtain⟨u,u1,u2⟩:=k3 i j c c1;rw[K0 hp]at u2
    have hj:j<row.sz:=by
     unfold cellAt at c1;cases hq:row.es[i]? with
     |none=>rw[hq]at c1;cases c1
     | some e'=>
       rw[hq]at c1;rw[<-k.len i e' hq];exact(KW.1 c1).1
    have hlt:i*row.sz+j<n*row.sz:=by
     calc i*row.sz+j<i*row.sz+row.sz:=by omega
      _=(i+1)*row.sz:=by rw[Ll,Mh]
      _<=n*row.sz:=LE _ c2
    exact⟨u,by rw[Kz,K0 hlt];exact u1,by rw[K0 hp];exact u2⟩),(fun hh g hg o ho=>by
    simp only[upd_same,St.renew]at hh hg;rw[he]at hh;cases hh),(fun g hg o ho=>by
    simp only[upd_same]at hg;exact k.fresh he g (hblk g hg) o),(fun hh g hg o=>by
    simp only[upd_same,St.renew]at hh hg
    exact k.fresh he g (hblk g hg) o)⟩) (fun b hf=>⟨rfl,fun _ hh=>hh,fun e=>h.nofx r row hr b (hblk b e) hf⟩)
  rw[hst]at h1;exact h1
 rcases k1.2 with⟨e,e0⟩|⟨g,cap,cur,e,e2,e3,e4,e5,e6,e7⟩
 ·have hn0:n=0:=by omega
  subst hn0;refine⟨none,0,0,e,e0.symm,K8 _,K8 _,fun _=>rfl, .inl rfl,main none 0 0 e (fun b hb=>by simp[Value.ownBlock]at hb) ?_⟩;rw[Mu];exact N5 _ _ _ _
 ·have hnl:row.es.length<=cap:=e4;refine⟨some ⟨g,0,none⟩,row.es.length,cap,e,rfl,by omega,hnl,fun _=>rfl, .inr ⟨g,rfl⟩,main _ _ cap e (fun b hb=>by rw[e];exact hb) ⟨?_, .inr ⟨g,cap,cur,rfl,e2,e3,by omega,e5,e6,?_⟩⟩⟩
  ·rw[Kf,k1.1,Mg (LE _ hn)]
  ·rw[<-e7,Ob,Mg (LE _ hn)]
theorem EP {t e:TypeId} {esz eb n:Nat} {z ez:List Value} {y:Operand} {lo hi:Option Operand} {r ver:Nat} {kk:IntKind} {i:Int} {row:Row} (ho:o.op= .slice t y lo hi none) (hS:Sim x s a w m) (hd:tyD P t=some ⟨.slice e esz eb ez,n,z⟩) (hy:RL w m s (a.eval y) (.row r ver)) (hlo:sP w m s (lo.map a.eval) none) (hhi:sP w m s (hi.map a.eval) (some (.lit (.int kk i))))
 (he:s.esc r=false) (hr:s.rows r=some row) (hver:s.vs r=ver) (hrz:row.sz≠0) (hp:row.pure=true) (hi0:0<=i) (hi1:i<=row.es.length) (hout:out=⟨.row r (ver+1),[.grow r { row with es:=row.es.take i.toNat }]⟩):dU P x s a w o out:=by
 obtain⟨hu,ie,ze,i1,i2,i3,i4,i5⟩:=ay hd;have hv:a.eval y=m.ρ r:=hy.row_.2 hver row hr;obtain⟨A,len,cap,q1,q2,q3,q4, -,q5,q6⟩:=hS.cut r i.toNat row hr hrz hp he (by omega)
 have hlo':lo.map a.eval=none:=by
  cases hh:lo.map a.eval with
  |none=>rfl
  |some u=>rw[hh]at hlo;exact hlo.elim
 have hhi':hi.map a.eval=some (.int kk i):=by
  cases hh:hi.map a.eval with
  |none=>rw[hh]at hhi;exact hhi.elim
  |some u=>rw[hh]at hhi;have hhi:RL w m s u (.lit (.int kk i)):=hhi;rw[hhi.lit_]
 obtain⟨hrun,p1,p2⟩:=j4 (P:=P) (w:=w) (isS:=true) (n:=len) (cap:=cap) (lo:=lo.map a.eval) (hi:=hi.map a.eval) (l:=0) (h:=i.toNat) q4
  (.inr ⟨kk,i,hhi',hi0,by omega,rfl⟩) (.inl ⟨hlo',rfl⟩)
 have hs:(sizeOf e).run P w= .ok esz w:=by simp[sizeOf,typeInfo,i1,i3]
 have hA:(if cap=0 then A else A.map (·.add (0*esz)))=A:=by
  split
  ·rfl
  ·rcases q5 with rfl|⟨g,rfl⟩
   ·rfl
   ·rw[Mu,Kg,add_plain]
 have hsl:(Instr.sliceAt t (.slice A len cap) (lo.map a.eval) (hi.map a.eval) none).run P w= .ok (.slice A i.toNat cap) w:=by
  have:(Instr.sliceAt t (.slice A len cap) (lo.map a.eval) (hi.map a.eval) none).run P w=(Instr.slice t (.slice A len cap) (lo.map a.eval) (hi.map a.eval) none).run P w:=by
   simp[Instr.sliceAt,Ka hu]
  rw[this];simp only[Instr.slice,Ka hu,Ks,Kc,hrun,hs,LO,OD];rw[hA]
 subst hout;refine⟨_,w,_, .slice A i.toNat cap,?_, .inl rfl,q6,?_⟩
 ·unfold execOp;simp only[ho,hv,q1,Ns,Ks,hsl,Kc,LO]
 ·subst hver;exact .row r (s.vs r+1) rfl (by simp[apps,Eff.app,St.renew,upd_same]) fun _ row' _=>by simp[upd_same]
theorem jQ {t e:TypeId} {esz eb n:Nat} {z ez:List Value} {y:Operand} {lo hi:Option Operand} (ho:o.op= .slice t y lo hi none) (hS:Sim x s a w m) (hd:tyD P t=some ⟨.slice e esz eb ez,n,z⟩) (hy:RL w m s (a.eval y) (gt x.env s.f y)) (hlo:sP w m s (lo.map a.eval) (lo.map (gt x.env s.f))) (hhi:sP w m s (hi.map a.eval) (hi.map (gt x.env s.f)))
 (h:(gz esz (gt x.env s.f y) (lo.map (gt x.env s.f)) (hi.map (gt x.env s.f))).run s=some out):dU P x s a w o out:=by
 obtain⟨hu,ie,ze,i1,i2,i3,i4,i5⟩:=ay hd;unfold gz at h;obtain⟨q,hq,h⟩:=run_bind h;split at h
 ·rename_i sz es e1;split at h
  ·rename_i hsz;subst hsz;cases hb:bound es.length es.length (hi.map (gt x.env s.f)) with
   |none=>rw[hb]at h;simp[Rd.run]at h
   | some hh=>
     rw[hb]at h;simp only at h;cases hb2:bound hh 0 (lo.map (gt x.env s.f)) with
     |none=>rw[hb2]at h;simp[Rd.run]at h
     | some l=>
       rw[hb2]at h;simp only[Rd.run,KX]at h;subst h;have b1:=nY hb hhi;have b2:=nY hb2 hlo;obtain⟨S',q1,q2,q3⟩:=nQ hq hS hy;rw[e1]at q3;generalize hv:a.eval y=vy at*;cases q3 with
       | seq A len cap sz es b p u hn hcap hA hz hcc hrv=>
         obtain⟨hrun,p1,p2⟩:=j4 (P:=P) (w:=w) (isS:=true) (n:=len) (cap:=cap) (lo:=lo.map a.eval) (hi:=hi.map a.eval) (l:=l) (h:=hh) hcap
          (by rcases b1 with⟨_,e1,e2⟩ | ⟨kk,i,e1,e2,e3,e4⟩
              ·exact .inl ⟨e1,by omega⟩
              ·exact .inr ⟨kk,i,e1,e2,by omega,e4⟩)
          (by rcases b2 with⟨_,e1,e2⟩ | ⟨kk,i,e1,e2,e3,e4⟩
              ·exact .inl ⟨e1,e2⟩
              ·exact .inr ⟨kk,i,e1,e2,e3,e4⟩)
         have hs:(sizeOf e).run P w= .ok esz w:=by simp[sizeOf,typeInfo,i1,i3]
         have hsl:(Instr.sliceAt t (.slice A len cap) (lo.map a.eval) (hi.map a.eval) none).run P w= .ok (.slice (if cap=l then A else A.map (·.add (l*esz))) (hh-l) (cap-l)) w:=by
          have:(Instr.sliceAt t (.slice A len cap) (lo.map a.eval) (hi.map a.eval) none).run P w=(Instr.slice t (.slice A len cap) (lo.map a.eval) (hi.map a.eval) none).run P w:=by
           simp[Instr.sliceAt,Ka hu]
          rw[this];simp only[Instr.slice,Ka hu,Ks,Kc,hrun,hs,LO]
         refine⟨_,w,_, .slice (if cap=l then A else A.map (·.add (l*esz))) (hh-l) (cap-l),?_, .inl rfl,q1, .val ?_⟩
         ·unfold execOp;simp only[ho,hv,Ns,Ks,hsl,Kc,LO]
         ·have hcell: ∀(i j:Nat) (c:AV),cellAt ((es.drop l).take (hh-l)) i j=some c->cellAt es (i+l) j=some c/\i<hh-l:=fun i j c hc=>by
           unfold cellAt at hc |-;rw[Kz]at hc;split at hc
           ·rename_i hi;rw[La,Ov l i]at hc;exact⟨hc,hi⟩
           ·simp at hc
          refine .seq _ (hh-l) (cap-l) esz ((es.drop l).take (hh-l)) b (p+l*esz) (fun i j=>u (i+l) j) (by simp;omega) (by omega) (fun h0=> ?_) (fun i e he=> ?_) (fun i j c hc=> ?_) (fun i j c hc=>hrv _ _ _ (hcell i j c hc).1)
          ·rw[KZ (by omega),hA (by omega),Kg,add_plain]
          ·rw[Kz]at he;split at he
           ·rw[La]at he;exact hz _ e he
           ·cases he
          ·obtain⟨h1,h2,h3⟩:=hcc _ _ _ (hcell i j c hc).1;have ea:p+((i+l)*esz+j)=p+l*esz+(i*esz+j):=by rw[Ll];omega
           rw[ea]at h1 h2;exact⟨h1,h2,h3⟩
  ·simp[Rd.run]at h
 ·simp[Rd.run]at h
theorem EO {t e:TypeId} {esz eb n:Nat} {z ez:List Value} {y:Operand} {lo hi:Option Operand} {r ver:Nat} {kk:IntKind} {i:Int} {row:Row} (ho:o.op= .slice t y lo hi none) (hS:Sim x s a w m) (hd:tyD P t=some ⟨.slice e esz eb ez,n,z⟩) (hy:RL w m s (a.eval y) (.row r ver)) (hlo:sP w m s (lo.map a.eval) (some (.lit (.int kk i)))) (hhi:sP w m s (hi.map a.eval) none)
 (hr:s.rows r=some row) (hver:s.vs r=ver) (hrz:row.sz≠0) (hez:esz=row.sz) (hi0:0<=i) (hi1:i<=row.es.length):dU P x s a w o ⟨.sub r ver i.toNat,[]⟩:=by
 obtain⟨hu,ie,ze,i1,i2,i3,i4,i5⟩:=ay hd;have hv:a.eval y=m.ρ r:=hy.row_.2 hver row hr;have k:=(hS.rows r row hr).cells hrz;obtain⟨xs,k1,_⟩:=k.own
 obtain⟨A,cap,hρ,hcap⟩: ∃A cap,m.ρ r= .slice A row.es.length cap/\row.es.length<=cap:=by
  rcases k1.2 with⟨e,e0⟩|⟨g,cap,cur,e,_,_,hle,_⟩
  ·exact⟨none,0,by rw[e,e0],by omega⟩
  ·exact⟨_,cap,e,hle⟩
 have hlo':lo.map a.eval=some (.int kk i):=by
  cases hh:lo.map a.eval with
  |none=>rw[hh]at hlo;exact hlo.elim
  |some u=>rw[hh]at hlo;have hlo:RL w m s u (.lit (.int kk i)):=hlo;rw[hlo.lit_]
 have hhi':hi.map a.eval=none:=by
  cases hh:hi.map a.eval with
  |none=>rfl
  |some u=>rw[hh]at hhi;exact hhi.elim
 obtain⟨hrun,p1,p2⟩:=j4 (P:=P) (w:=w) (isS:=true) (n:=row.es.length) (cap:=cap) (lo:=lo.map a.eval) (hi:=hi.map a.eval) (l:=i.toNat) (h:=row.es.length) hcap (.inl ⟨hhi',rfl⟩) (.inr ⟨kk,i,hlo',hi0,hi1,rfl⟩);have hs:(sizeOf e).run P w= .ok esz w:=by simp[sizeOf,typeInfo,i1,i3]
 have hsl:(Instr.sliceAt t (.slice A row.es.length cap) (lo.map a.eval) (hi.map a.eval) none).run P w= .ok (cutV (.slice A row.es.length cap) (i.toNat*esz) i.toNat) w:=by
  have:(Instr.sliceAt t (.slice A row.es.length cap) (lo.map a.eval) (hi.map a.eval) none).run P w=(Instr.slice t (.slice A row.es.length cap) (lo.map a.eval) (hi.map a.eval) none).run P w:=by
   simp[Instr.sliceAt,Ka hu]
  rw[this];simp only[Instr.slice,Ka hu,Ks,Kc,hrun,hs,LO,cutV]
 subst hver hez;refine .same hS (v:=cutV (m.ρ r) (i.toNat*row.sz) i.toNat) ?_ rfl (.sub r _ i.toNat (by rw[hρ];rfl) (K8 _) fun _ row' hr'=>by rw[hr]at hr';cases hr';rfl);rw[hρ];unfold execOp;simp only[ho,hv,hρ,Ns,Ks,hsl,Kc,LO]
theorem yB {t:TypeId} {y:Operand} {lo hi:Option Operand} (ho:o.op= .slice t y lo hi none) (hS:Sim x s a w m) (h:(aT P x.env s.f o).run s=some out):dU P x s a w o out:=by
 have hy:=ah hS y;have hlo:=xc hS lo;have hhi:=xc hS hi;unfold aT at h;simp only[ho]at h;unfold oF at h;split at h
 ·rename_i str n z e hd;rw[e]at hy;have hy:=hy.lit_;have hu:=ce hd;cases hb:bound (bG str).length (bG str).length (hi.map (gt x.env s.f)) with
  |none=>rw[hb]at h;simp[Rd.run]at h
  | some hh=>
    rw[hb]at h;simp only at h;cases hb2:bound hh 0 (lo.map (gt x.env s.f)) with
    |none=>rw[hb2]at h;simp[Rd.run]at h
    | some l=>
      rw[hb2]at h;simp only[Rd.run,KX]at h;subst h;have b1:=nY hb hhi;have b2:=nY hb2 hlo
      obtain⟨hrun,q1,q2⟩:=j4 (P:=P) (w:=w) (isS:=false) (n:=str.size) (cap:=str.size) (lo:=lo.map a.eval) (hi:=hi.map a.eval) (l:=l) (h:=hh) (K8 _)
       (by rcases b1 with⟨_,e1,e2⟩ | ⟨kk,i,e1,e2,e3,e4⟩
           ·exact .inl ⟨e1,by rw[iw];exact e2⟩
           ·exact .inr ⟨kk,i,e1,e2,by rw[iw];exact e3,e4⟩)
       (by rcases b2 with⟨_,e1,e2⟩ | ⟨kk,i,e1,e2,e3,e4⟩
           ·exact .inl ⟨e1,e2⟩
           ·exact .inr ⟨kk,i,e1,e2,e3,e4⟩)
      refine .same hS (v:= .string ⟨(((bG str).drop l).take (hh-l)).toArray⟩) ?_ rfl (.val (.lit _))
      have hx:str.extract l hh=⟨(((bG str).drop l).take (hh-l)).toArray⟩:=by
       have:=wK (bG str) l hh;rwa [<-qg]at this
      have hsl:(Instr.sliceAt t (.string str) (lo.map a.eval) (hi.map a.eval) none).run P w= .ok (.string (str.extract l hh)) w:=by
       rw[run_sliceAt_string w t _ _ _ _ hu];simp[Instr.slice,Ka hu,hrun]
      unfold execOp;simp only[ho,hy,Ns,Ks,hsl,Kc,LO,hx]
 ·rename_i e esz eb ez n z hd;split at h
  ·rename_i r ver kk i ex elo ehi;simp only[Rd.run]at h;by_cases hesc:s.esc r=true
   ·rw[K0 hesc]at h;exact jQ ho hS hd hy hlo hhi h
   ·have hesc:s.esc r=false:=by simpa using hesc
    rw[KZ (by simp[hesc])]at h;obtain⟨row,hr,hver,hrz,h⟩:=dV h;split at h
    ·rename_i hc;simp only[Rd.run,KX]at h;rw[ex]at hy;rw[elo]at hlo;rw[ehi]at hhi;exact EP ho hS hd hy hlo hhi hesc hr hver hrz hc.2.1 hc.2.2.1 hc.2.2.2 h.symm
    ·simp[Rd.run]at h
  ·rename_i r ver kk i ex elo ehi;simp only[Rd.run]at h;by_cases hesc:s.esc r=true
   ·rw[K0 hesc]at h;exact jQ ho hS hd hy hlo hhi h
   ·have hesc:s.esc r=false:=by simpa using hesc
    rw[KZ (by simp[hesc])]at h;obtain⟨row,hr,hver,hrz,h⟩:=dV h;split at h
    ·rename_i hc;simp only[Rd.run,KX]at h;subst h;rw[ex]at hy;rw[elo]at hlo;rw[ehi]at hhi;exact EO ho hS hd hy hlo hhi hr hver hrz hc.1 hc.2.2.1 hc.2.2.2
    ·simp[Rd.run]at h
  ·exact jQ ho hS hd hy hlo hhi h
 ·simp[Rd.run]at h
theorem oy {t:TypeId} {y mx:Operand} {lo hi:Option Operand} {e:TypeId} {esz eb:Nat} {ez zz:List Value} {nn:Nat} {k1 k2:IntKind} {j:Nat} {q:AV×List Nat} {es:List (List AV)}
 (ho:o.op= .slice t y lo hi (some mx)) (hS:Sim x s a w m) (hd:tyD P t=some ⟨.slice e esz eb ez,nn,zz⟩) (elo:lo.map (gt x.env s.f)=none) (ehi:hi.map (gt x.env s.f)=some (.lit (.int k1 (j:Int)))) (emx:gt x.env s.f mx= .lit (.int k2 (j:Int)))
 (hq:(fz (gt x.env s.f y)).run s=some q) (e1:q.1= .seq esz es) (hj:j<=es.length):dU P x s a w o ⟨.full esz (es.take j),shows q.2⟩:=by
 have hy:=ah hS y;have hlo:=xc hS lo;have hhi:=xc hS hi;have hmx:=ah hS mx;rw[elo]at hlo;rw[ehi]at hhi;rw[emx]at hmx;have hmx:=hmx.lit_;obtain⟨hu,ie,ze,i1,i2,i3,i4,i5⟩:=ay hd
 have hlo':lo.map a.eval=none:=by
  cases hh:lo.map a.eval with
  |none=>rfl
  |some u=>rw[hh]at hlo;exact hlo.elim
 have hhi':hi.map a.eval=some (.int k1 j):=by
  cases hh:hi.map a.eval with
  |none=>rw[hh]at hhi;exact hhi.elim
  |some u=>rw[hh]at hhi;have hhi:RL w m s u (.lit (.int k1 j)):=hhi;rw[hhi.lit_]
 obtain⟨S',q1,q2,q3⟩:=nQ hq hS hy;rw[e1]at q3;generalize hv:a.eval y=vy at*;have q4:=q3;cases q3 with
 | seq A len cap sz es b p u hn hcap hA hz hcc hrv=>
   subst hn;have hs:(sizeOf e).run P w= .ok esz w:=by simp[sizeOf,typeInfo,i1,i3]
   have hA2:(if j=0 then A else A.map (·.add (0*esz)))=A:=by
    split
    ·rfl
    ·rw[hA (by omega),Mu,Kg,add_plain];rfl
   have hb:(Instr.sliceBounds true es.length cap none (some (.int k1 j)) (some (.int k2 j))).run P w= .ok (0,j,j) w:=by
    simp[Instr.sliceBounds,Na w k2 (j:Int) cap _ (by omega) (by omega),Na w k1 (j:Int) j _ (by omega) (by omega)]
   have hsl:(Instr.sliceAt t (.slice A es.length cap) (lo.map a.eval) (hi.map a.eval) (some (a.eval mx))).run P w= .ok (.slice A j j) w:=by
    have:(Instr.sliceAt t (.slice A es.length cap) (lo.map a.eval) (hi.map a.eval) (some (a.eval mx))).run P w=(Instr.slice t (.slice A es.length cap) (lo.map a.eval) (hi.map a.eval) (some (a.eval mx))).run P w:=by
     simp[Instr.sliceAt,Ka hu]
    rw[this,hmx,hlo',hhi'];simp only[Instr.slice,Ka hu,Ks,Kc,hb,hs,LO,OD];rw[hA2]
   have hcell: ∀(i k:Nat) (c:AV),cellAt (es.take j) i k=some c->cellAt es i k=some c:=fun i k c hc=>by
    unfold cellAt at hc |-;by_cases h:i<j
    ·rwa [Ma h]at hc
    ·rw[Nb (by omega)]at hc;simp at hc
   refine⟨_,w,_, .slice A j j,?_, .inl rfl,q1, .val (.full A j _ (es.take j) ?_)⟩
   ·unfold execOp;simp only[ho,hv,Kg,Ks,hsl,Kc,LO]
   ·exact .seq A j j _ (es.take j) b p u (by rw[Kf];omega) (K8 _) (fun h=>hA (by omega)) (fun i e he=>hz i e (by
     by_cases h:i<j
     ·rwa [Ma h]at he
     ·rw[Nb (by omega)]at he
      simp at he)) (fun i k c hc=>hcc i k c (hcell i k c hc)) (fun i k c hc=>hrv i k c (hcell i k c hc))
theorem Ao {t:TypeId} {y mx:Operand} {lo hi:Option Operand} (ho:o.op= .slice t y lo hi (some mx)) (hS:Sim x s a w m) (h:(aT P x.env s.f o).run s=some out):dU P x s a w o out:=by
 unfold aT at h;simp only[ho]at h;unfold tx at h;split at h
 ·rename_i e esz eb ez n z k1 i k2 k hd elo ehi emx;obtain⟨q,hq,h⟩:=run_bind h;split at h
  ·rename_i sz es e1;split at h
   ·rename_i hc;simp only[Rd.run,KX]at h;subst h;obtain⟨rfl,rfl,rfl⟩:=hc;have:=oy ho hS hd elo ehi emx hq e1 (K8 _);rwa [Kp]at this
   ·split at h
    ·rename_i hc;simp only[Rd.run,KX]at h;subst h;obtain⟨rfl,rfl,h0,hl⟩:=hc;obtain⟨j,rfl⟩:=Ny h0;exact oy ho hS hd elo ehi emx hq e1 (by omega)
    ·simp[Rd.run]at h
  ·simp[Rd.run]at h
 ·simp[Rd.run]at h
theorem src_ok {S:Nat->Nat->Prop} {v:Value} {c:AV} {s0:St} {q:Nat×List (List AV)} (h:(iq c).run s0=some q) (hv:RV S w v c):
 ∃A n cap l,v= .slice A n cap/\n=q.2.length/\(0<n-> ∃b p,A=some ⟨b,p,none⟩/\ ∀(j:Nat) (u:Value),l[j]? =some u->w.cell? ⟨b,p+j,none⟩=some u)/\EsOk S w q.1 l q.2:=by
 cases c with
 | seq sz es=>
   simp only[iq,Rd.run,KX]at h;subst h;cases hv with
   | seq A n cap sz es b o u hn hcap hA hz hc hr=>
     have hl: ∀k,k<n*sz-> ∃i j c,i<n/\j<sz/\k=i*sz+j/\cellAt es i j=some c:=fun k hk=>by
      have hpos:0<sz:=Nat.pos_of_ne_zero fun e=>by subst e;omega
      have hi:k/sz<n:=(Nat.div_lt_iff_lt_mul hpos).2 hk;have hj:k%sz<sz:=N9 _ hpos;have hie:k/sz<es.length:=by omega
      refine⟨k/sz,k%sz,(es[k/sz])[k%sz]'(by rw[hz _ _ (KV hie)];exact hj),hi,hj,(Nf k sz).symm,?_⟩;unfold cellAt;rw[KV hie];simp
     have hat: ∀(k:Nat) (v:Value),((List.range (n*sz)).map fun k=>u (k/sz) (k%sz))[k]? =some v->k<n*sz/\v=u (k/sz) (k%sz):=fun k v hk=>by
      have hlt:k<n*sz:=by
       have:=(KW.1 hk).1;simpa using this
      rw[K5,Lx hlt]at hk;exact⟨hlt,by simpa using hk.symm⟩
     have hdm: ∀i j,j<sz->(i*sz+j)/sz=i/\(i*sz+j)%sz=j:=fun i j hj=>by
      have hpos:0<sz:=by omega
      exact⟨by rw[Mf,Nat.mul_add_div hpos,Nat.div_eq_of_lt hj,Md],by rw[Mf,Nat.mul_add_mod,OO hj]⟩
     refine⟨A,n,cap,(List.range (n*sz)).map fun k=>u (k/sz) (k%sz),rfl,hn.symm,fun h0=>⟨_,_,hA h0,fun j v hj=> ?_⟩,by simp[hn],fun v hv=> ?_,hz,fun i j c hc'=> ?_⟩
     ·obtain⟨hlt,rfl⟩:=hat j v hj;obtain⟨i,k,c,h1,h2,rfl,h3⟩:=hl j hlt;rw[(hdm i k h2).1,(hdm i k h2).2];exact(hc i k c h3).2.1
     ·obtain⟨k,hk,rfl⟩:=Lp hv;obtain⟨hlt,e⟩:=hat k _ (KV hk);obtain⟨i,j,c,h1,h2,rfl,h3⟩:=hl k hlt;rw[e,(hdm i j h2).1,(hdm i j h2).2];exact(hc i j c h3).2.2
     ·obtain⟨hi,hj⟩:=du hz hc';refine⟨u i j,?_,hr i j c hc'⟩;rw[K5,Lx (jk (by omega) hj)];simp only[Kg,(hdm i j hj).1,(hdm i j hj).2]
 | lit u=>
   cases hv;simp only[iq]at h;split at h
   ·rename_i e;cases e
   ·rename_i A k e;cases e;simp only[Rd.run,KX]at h;subst h;exact⟨A,0,k,[],rfl,rfl,fun h0=>absurd h0 (by omega),rfl,fun v hv=>by simp at hv,fun i e he=>by simp at he,fun i j c hc=>by simp[cellAt]at hc⟩
   ·rename_i e;cases e
   ·simp[Rd.run]at h
 |row=>cases hv
 |_=>simp[iq,Rd.run]at h
theorem EsOk.resize {S:Nat->Nat->Prop} {sz sz':Nat} {l:List Value} {es:List (List AV)} (h:EsOk S w sz l es) (he:sz=sz'\/es=[]):EsOk S w sz' l es:=by
 rcases he with rfl|rfl
 ·exact h
 ·exact⟨by simpa using h.len,h.one,fun i e he=>by simp at he,fun i j c hc=>by simp[cellAt]at hc⟩
theorem kC {t ty:TypeId} {y z:Operand} (ho:o.op= .call { callee:= .builtin .append,args:= #[y,z],argTypes:= #[t,t] }) (hty:o.type=ty) {v:Value} {w':World} (h:(Builtin.append_ #[t,t] ty #[a.eval y,a.eval z]).run P w= .ok v w'):
 (execOp a.eval o).run P w= .ok (.value v) w':=by
 subst hty;unfold execOp;simp only[ho,resolve,invoke,builtin,Ks,LO,Kc,OP,LI,Lt,h]
theorem Ff {t:TypeId} {y z:Operand} (ho:o.op= .call { callee:= .builtin .append,args:= #[y,z],argTypes:= #[t,t] }) (hS:Sim x s a w m) (h:(jN P o.dst t (gt x.env s.f y) (gt x.env s.f z)).run s=some out):dU P x s a w o out:=by
 have hy:=ah hS y;have hz:=ah hS z;unfold jN at h;split at h
 ·rename_i e esz eb ez n0 z0 hd;obtain⟨hu,ie,ze,i1,i2,i3,i4,i5⟩:=ay hd;split at h
  ·simp[Rd.run]at h
  ·rename_i hcond;obtain⟨hz1,hpos'⟩:=O1.1 hcond;have hz1:ez.length=esz:=OE.1 hz1;have hpos:0<esz:=by omega
   obtain⟨q,hq,h⟩:=run_bind h;obtain⟨r,hr,h⟩:=run_bind h;split at h
   ·simp[Rd.run]at h
   ·rename_i hsz;obtain⟨S',q1,q2,q3⟩:=nQ hq hS hz;obtain⟨A,n,cap,l,hv,hn,hA0,hE0⟩:=src_ok hr q3
    have hA:0<n-> ∃ad,A=some ad/\ ∀(j:Nat) (u:Value),l[j]? =some u->w.cell? (ad.add j)=some u:=fun h0=>by
     obtain⟨b,p,e,hc⟩:=hA0 h0;exact⟨_,e,fun j u hj=>by rw[add_plain];exact hc j u hj⟩
    have hE:EsOk S' w esz l r.2:=hE0.resize (by
     by_cases he:r.1=esz
     ·exact .inl he
     ·exact .inr (OE.1 fun hne=>hsz ⟨he,hne⟩))
    obtain⟨e1,e2,_⟩:=cL q.2 s
    have hzc:ze.cells.size=esz:=by
     have:ze.cells.toList.length=esz:=by rw[i5];exact hz1
     simpa using this
    split at h
    ·
     rename_i ey;rw[ey]at hy;have hy:=hy.lit_;split at h
     ·rename_i d hdst;split at h
      ·rename_i hb;obtain⟨hb1,hb2⟩:=hb;simp only[Rd.run,KX]at h;subst h;obtain⟨v',w',hrun,ho',hg⟩:=eQ (P:=P) w x.w.heap.size t o.type e ie ze esz eb hu i1 i2 i3 i4 hzc hpos (.slice none 0 0) 0 [] (N5 w x.w.heap.size e esz) A n cap l (by rw[hE.len,hn]) hA hE.one (by unfold maxLen;omega) (by rw[Lc,hn];exact hb1) q1.bel.size
       have hb':Below x.w.heap.size w w':=by
        rcases hg with⟨_,hg⟩|⟨_,hg⟩
        ·exact(MM _ _).grown hg q1.bel.size (fun q hq=>by simp[Value.ownBlock]at hq)
        ·exact(MM _ _).grown hg q1.bel.size (fun q hq=>by cases hq)
       have hblk: ∀k,k<w.heap.size->w'.heap[k]? =w.heap[k]? :=fun k hk=>by
        rcases hg with⟨_,hg⟩|⟨_,hg⟩
        ·exact hg.block k hk (by simp[Value.ownBlock])
        ·exact hg.block k hk (by simp)
       have hvb: ∀g,v'.ownBlock=some g->g=w.heap.size:=fun g hgv=>by
        rcases hg with⟨hv',_⟩|⟨hv',_⟩
        ·rw[hv']at hgv;simp[Value.ownBlock]at hgv
        ·rw[hv']at hgv;injection hgv with hgv;exact hgv.symm
       have hcell: ∀b o,S' b o->S' b o/\Stay w w' b o:=fun b o hh=>⟨hh, .block (hblk b (q1.low b o hh))⟩
       have hS2:=q1.renew d ⟨esz,r.2,e,true⟩ false v' S' hb' hcell (fun b o hh=> .inl hh) (fun k row' hk hrk g hgk=>by
        have hlt:=((q1.rows k row' hrk).blk hgk).2
        exact⟨hblk g hlt,fun hh=>by have:=hvb g hh;omega,fun o hh=>hh⟩)
        (.inl ⟨hpos,hE.els,⟨l,by simp only[upd_same];have:=ho';rw[Lc,Mc,hn]at this;exact this,hE.one,fun i j c hc=>by
         obtain⟨u,u1,u2⟩:=hE.cell i j c hc
         exact⟨u,u1,by simpa using u2.mono hcell⟩⟩,(fun he=>by simp[St.renew,upd_same]at he),(fun g hgv o ho2 hh=>by
          simp only[upd_same]at hgv;have:=hvb g hgv;have:=q1.low g o hh;omega),(fun _ g hgv o hh=>by
          simp only[upd_same]at hgv;have:=hvb g hgv;have:=q1.low g o hh
          omega)⟩) (fun b hf=>⟨hblk b (q1.fxlt hf),fun _ hh=>hh,fun e=>by have:=hvb b e;have:=q1.fxlt hf;omega⟩)
       have h1c:v'.oneCell'=true:=by
        rcases ho'.2 with⟨ee,_⟩|⟨g,cp,cur,ee,_⟩<;>rw[ee]<;>rfl
       refine⟨_,w',_,v',?_, .inl rfl,by rw[apps_append];exact hS2,?_⟩
       ·exact kC ho rfl (by rw[hy,hv];exact hrun)
       ·rw[apps_append];refine .row d (s.vs d+1) h1c ?_ fun _ row hr=> ?_
        ·simp[apps,Eff.app,St.renew,upd_same,e2]
        ·simp[upd_same]
      ·simp[Rd.run]at h
     ·simp[Rd.run]at h
    ·rename_i rr ver ey;rw[ey]at hy;obtain⟨row,hrow,hver,hrz,h⟩:=dV h;have hvy:=hy.row_.2 hver row hrow;split at h
     ·rename_i hb;obtain⟨hp,hsz2,hee,hb1,hb2⟩:=hb;simp only[Rd.run,KX]at h;subst h;have k:=(q1.rows rr row (by rw[e1];exact hrow)).cells hrz;obtain⟨xs,k1,k2,k3⟩:=k.own;obtain⟨v',w',hrun,ho',hg⟩:=eQ (P:=P) w x.w.heap.size t o.type e ie ze esz eb hu i1 i2 i3 i4 hzc hpos (m.ρ rr) row.es.length xs (by rw[<-hee, <-hsz2];exact k1) A n cap l (by rw[hE.len,hn]) hA hE.one (by unfold maxLen;omega) (by rw[hn];exact hb1) q1.bel.size
      obtain⟨S2,p1,p2⟩:=q1.grow rr row (by rw[e1];exact hrow) hrz hp r.2 xs l v' k1 k2 (fun i j c hc=>by
       obtain⟨u,u1,u2⟩:=k3 i j c hc;rw[K0 hp]at u2
       exact⟨u,u1,u2⟩) (by rw[hsz2];exact hE.els) hE.one (by rw[hsz2];exact hE.len) (fun i j c hc=>by rw[hsz2];exact hE.cell i j c hc) (by rw[hsz2,hee, <-hn];exact ho') hg
      have h1c:v'.oneCell'=true:=by
       rcases ho'.2 with⟨ee,_⟩|⟨g,cp,cur,ee,_⟩<;>rw[ee]<;>rfl
      refine⟨_,w',_,v',?_, .inl rfl,by rw[apps_append];exact p1,?_⟩
      ·exact kC ho rfl (by rw[hvy,hv];exact hrun)
      ·rw[apps_append];refine .row rr (ver+1) h1c ?_ fun _ row hr=> ?_
       ·simp[apps,Eff.app,St.renew,upd_same,e2,hver]
       ·simp[upd_same]
     ·simp[Rd.run]at h
    ·
     rename_i fsz fes ey;rw[ey]at hy;have hy:=hy.full_;split at h
     ·rename_i d hdst;split at h
      ·rename_i hb;obtain⟨rfl,hm0,hb1,hb2⟩:=hb;simp only[Rd.run,KX]at h;subst h;generalize hvy:a.eval y=vy at*;cases hy with
       | full A0 n0 sz0 es0 hy0=>
         obtain⟨A1,n1,cap1,l1,hv1,hn1,hA1,hE1⟩:=src_ok (c:= .seq fsz fes) (s0:=s) rfl (hy0.mono fun b o hh=>⟨q2 b o hh, .rfl⟩);cases hv1;have hE1:EsOk S' w fsz l1 fes:=hE1;have hn1:_=fes.length:=hn1
         obtain⟨v',w',hrun,ho',hg1,hg⟩:=pq (P:=P) w x.w.heap.size t o.type e ie ze fsz eb hu i1 i2 i3 i4 hzc A0 n0 l1 (by rw[hE1.len,hn1]) (fun h0=>by
          obtain⟨b,p,e,hc⟩:=hA1 h0
          exact⟨_,e,fun j u hj=>by rw[add_plain];exact hc j u hj⟩) A n cap l (by rw[hE.len,hn]) hA (by omega) (by rw[hn1,hn];unfold maxLen;omega) (by rw[hn1,hn];exact hb1) q1.bel.size
         have hb':Below x.w.heap.size w w':=(MM _ _).grown hg q1.bel.size (fun q hq=>by cases hq);have hblk: ∀k,k<w.heap.size->w'.heap[k]? =w.heap[k]? :=fun k hk=>hg.block k hk (by simp)
         have hvb: ∀g,v'.ownBlock=some g->g=w.heap.size:=fun g hgv=>by
          rw[hg1]at hgv;injection hgv with hgv;exact hgv.symm
         have hcell: ∀b o,S' b o->S' b o/\Stay w w' b o:=fun b o hh=>⟨hh, .block (hblk b (q1.low b o hh))⟩
         have hS2:=q1.renew d ⟨fsz,fes++r.2,e,true⟩ false v' S' hb' hcell (fun b o hh=> .inl hh) (fun k row' hk hrk g hgk=>by
          have hlt:=((q1.rows k row' hrk).blk hgk).2
          exact⟨hblk g hlt,fun hh=>by have:=hvb g hh;omega,fun o hh=>hh⟩)
          (.inl ⟨hpos,(fun i e' hi=>by
           have hi:(fes++r.2)[i]? =some e':=hi;by_cases hlt:i<fes.length
           ·rw[LB hlt]at hi;exact hE1.els i e' hi
           ·rw[Ku (by omega)]at hi;exact hE.els _ e' hi),⟨l1++l,by
            simp only[upd_same,K4];rw[hn1,hn]at ho'
            exact ho',(fun u hu=>by
             rcases Kt.1 hu with hu|hu
             ·exact hE1.one u hu
             ·exact hE.one u hu),fun i j c hc=>by
           have hc:cellAt (fes++r.2) i j=some c:=hc;rw[lV]at hc;split at hc
           ·rename_i hlt;obtain⟨u,u1,u2⟩:=hE1.cell i j c hc;exact⟨u,by rw[LB (KW.1 u1).1];exact u1,by simpa using u2.mono hcell⟩
           ·rename_i hlt;obtain⟨u,u1,u2⟩:=hE.cell _ j c hc;refine⟨u,?_,by simpa using u2.mono hcell⟩
            have hle:l1.length<=i*fsz+j:=by
             rw[hE1.len];exact Kh (LE _ (by omega)) (Om _ _)
            rw[Ku hle,hE1.len];rw[<-u1]
            congr 1
            have:i*fsz=(i-fes.length)*fsz+fes.length*fsz:=by rw[<-Ll];congr 1;omega
            show i*fsz+j-fes.length*fsz=_;omega⟩,(fun he=>by simp[St.renew,upd_same]at he),(fun g hgv o ho2 hh=>by
            simp only[upd_same]at hgv;have:=hvb g hgv;have:=q1.low g o hh;omega),(fun _ g hgv o hh=>by
            simp only[upd_same]at hgv;have:=hvb g hgv;have:=q1.low g o hh
            omega)⟩) (fun b hf=>⟨hblk b (q1.fxlt hf),fun _ hh=>hh,fun e=>by have:=hvb b e;have:=q1.fxlt hf;omega⟩)
         have h1c:v'.oneCell'=true:=by
          rcases ho'.2 with⟨ee,_⟩|⟨g,cp,cur,ee,_⟩<;>rw[ee]<;>rfl
         refine⟨_,w',_,v',?_, .inl rfl,by rw[apps_append];exact hS2,?_⟩
         ·exact kC ho rfl (by rw[hvy,hv];exact hrun)
         ·rw[apps_append];refine .row d (s.vs d+1) h1c ?_ fun _ row hr=> ?_
          ·simp[apps,Eff.app,St.renew,upd_same,e2]
          ·simp[upd_same]
      ·simp[Rd.run]at h
     ·simp[Rd.run]at h
    ·simp[Rd.run]at h
 ·simp[Rd.run]at h
end
end
section
/-! Maps of the call's own -/
theorem Hv (a b:List UInt8):((⟨⟨a⟩⟩:ByteArray) ==⟨⟨b⟩⟩)=(a==b):=by
 show ((⟨a⟩:Array UInt8) ==⟨b⟩)=_;simp
section
variable {P:Program} {x:Ctx} {s:St} {a:Act} {w:World} {m:Mem} {o:Oper} {out:Out}
theorem RL.mp_ {v:Value} {r ver:Nat} (h:RL w m s v (.mp r ver)):ver<=s.vs r/\(s.vs r=ver-> ∀row,s.rows r=some row-> ∃g,(m.ρ r).ownBlock=some g/\v= .map (some g)):=by
 cases h with
 |val h=>cases h
 |mp r ver h1 hle h=>exact⟨hle,h⟩
theorem run_map {α:Type} {r ver:Nat} {k:Row->Rd α} {y:α} (h:(Rd.map r ver k).run s=some y): ∃row,s.rows r=some row/\s.vs r=ver/\row.sz=0/\(k row).run s=some y:=by
 simp only[Rd.map,Rd.run]at h;cases hr:s.rows r with
 |none=>rw[hr]at h;simp[Rd.run]at h
 | some row=>
   rw[hr]at h;simp only at h;split at h
   ·rename_i hv;exact⟨row,rfl,hv.1,hv.2,h⟩
   ·simp[Rd.run]at h
theorem sE {t:TypeId} {c1 c2:AV} {b:Bool} {v:Value} (em:Bool) (n:Nat) (h:cG P t c1 c2=some b) (hv:RL w m s v c1): ∀w':World,(Instr.checkKey em (n+1) t v).run P w'= .ok () w':=by
 intro w';unfold cG at h;split at h
 ·split at h
  ·rename_i hd;rw[hv.lit_];have ht:=mi hd;simp[Instr.checkKey,Ka ht]
  ·cases h
 ·split at h
  ·rename_i hd;rw[hv.lit_];have ht:=ce hd;simp[Instr.checkKey,Ka ht]
  ·cases h
 ·split at h
  ·rename_i hd;rw[hv.lit_];have ht:=ku hd;simp[Instr.checkKey,Ka ht]
  ·cases h
 ·cases h
theorem jF {kt:TypeId} {c c':AV} {b:Bool} {v:Value} (em:Bool) (h:br P kt c c'=some b) (hv:RL w m s v c):(Instr.checkKey em 10000 kt v).run P w= .ok () w:=by
 unfold br at h;split at h
 ·rename_i fs n z hd;split at h
  ·rename_i xs ys;split at h
   ·rename_i hcond;obtain⟨f,hf,hm,he⟩:=de hd;have he:=he.symm;simp only[KY,L3]at he;obtain⟨us,rfl,hul,_,huc⟩:=hv.agg_;try clear hcond hd
    rw[show (10000:Nat)=9999+1 from rfl,Instr.checkKey];simp only[Ks,Ka hf,Kc];rw[<-Array.forIn_toList];have hn:=he.2;generalize f.toList=L at hm hn
    induction L generalizing fs b with
    |nil=>simp
    | cons q L ih=>
      simp only[N8,Nl,NZ]at hm;cases hi:P.info? q.type with
      |none=>simp[hi]at hm
      | some i=>
        cases hr:L.mapM (fun f=>(P.info? f.type).map fun i=>(f.offset,f.type,i.size)) with
        |none=>simp[hi,hr]at hm
        | some r=>
          simp only[hi,hr,Kg,LX,KX]at hm;subst hm;simp only[OS,KY]at hn;simp only[qN]at h;split at h
          ·rename_i c1 c2 h1 h2;split at h
           ·rename_i p q' hp hq;have hlu:q.offset<us.length:=by rw[hul];exact(KW.1 h1).1
            have gu:us[q.offset]? =some us[q.offset]:=KV hlu;have hp':=CJ hp (huc _ _ _ gu h1);have hc':=sE em 9998 hp (huc _ _ _ gu h1) w;have hne:q.name≠ "_" :=by simpa using hn.1
            simp only[List.forIn_cons,Ks,hne,ne_eq,not_false_eq_true,L4,Kc,hp' us.toArray q.offset _ w (by rw[OM];exact gu),hc',LO];first|exact ih _ hq hr hn.2|exact ih _ _ hq hr hn.2|exact ih _ hr hn.2 hq|exact ih _ _ hr hn.2 hq|exact ih _ hr hq hn.2|exact ih _ _ hr hq hn.2|exact ih _ hq hn.2 hr|exact ih _ _ hm hn.2 hq
           ·cases h
          ·cases h
   ·cases h
  ·cases h
 ·exact sE em 9999 h hv w
theorem Hf {kt:TypeId} {c c':AV} {b:Bool} {u v:Value} (h:br P kt c c'=some b) (hu:RL w m s u c) (hv:RL w m s v c'):(Op.equal kt u v).run P w= .ok b w:=by
 unfold br at h;split at h
 ·rename_i fs n z hd;split at h
  ·rename_i xs ys;split at h
   ·obtain⟨f,hf,hm,he⟩:=de hd;have he:=he.symm;simp only[KY,L3]at he;obtain⟨⟨h1,h2⟩,h3⟩:=he;have hfo:P.fieldsOf kt=f:=by simp[Program.fieldsOf,hf]
    obtain⟨us,rfl,hul,_,huc⟩:=hu.agg_;obtain⟨vs,rfl,hvl,_,hvc⟩:=hv.agg_;show (Op.equalIn 10000 kt _ _).run P w=_;rw[run_equalIn_agg w 9999 kt _ _ (by rw[hfo];exact hf) h2,hfo];exact xI hul hvl huc hvc 9998 _ _ _ hm h3 h
   ·cases h
  ·cases h
 ·exact(vW h hu hv).2 9999 w
theorem HQ {t:TypeId} {d:TypeDesc} {c c':AV} {b:Bool} {u v:Value} (hd:P.underlying t=some d) (h:cG P t c c'=some b) (hu:RL w m s u c) (hv:RL w m s v c'):Instr.sameNow d u v=some b:=by
 unfold cG at h;split at h
 ·split at h
  ·rename_i hd';split at h
   ·rename_i hk;cases h;rw[hu.lit_,hv.lit_];have ht:=mi hd';rw[hd]at ht;cases ht;simp[Instr.sameNow,hk]
   ·cases h
  ·cases h
 ·split at h
  ·rename_i hd';cases h;rw[hu.lit_,hv.lit_];have ht:=ce hd';rw[hd]at ht;cases ht;rename_i a b _ _ _;obtain⟨⟨a⟩⟩:=a;obtain⟨⟨b⟩⟩:=b;simp only[Instr.sameNow,bG,KX];exact Hv a b
  ·cases h
 ·split at h
  ·rename_i hd';cases h;rw[hu.lit_,hv.lit_];have ht:=ku hd';rw[hd]at ht;cases ht;simp[Instr.sameNow]
  ·cases h
 ·cases h
theorem DL {kt:TypeId} {d:TypeDesc} {c c':AV} {b:Bool} {u v:Value} (hd:P.underlying kt=some d) (h:br P kt c c'=some b) (hu:RL w m s u c) (hv:RL w m s v c'):Instr.sameNow d u v=none\/Instr.sameNow d u v=some b:=by
 unfold br at h;split at h
 ·rename_i fs n z hd';obtain⟨f,hf,_⟩:=de hd';rw[hd]at hf;cases hf;left;cases u<;>rfl
 ·exact .inr (HQ hd h hu hv)
theorem tl {kt:TypeId} {c c':AV} {b:Bool} (h:br P kt c c'=some b): ∃d,P.underlying kt=some d:=by
 cases hq:tyD P kt with
 | none=>
   have h0:cG P kt c c'=none:=by
    unfold cG;repeat' split
    all_goals simp_all
   simp only[br,hq,h0]at h;cases h
 | some dd=>
   obtain⟨i,td,zz,_,h2,_⟩:=fV hq;exact⟨td,h2⟩
theorem find_ok {kt:TypeId} {d:TypeDesc} {kv:Value} {k:AV} (hd:P.underlying kt=some d) (hk:RL w m s kv k): ∀(ents:List MapEntry) (es:List (List AV)) (i:Nat) (res:Option Nat),ents.length=es.length->
 (∀(j:Nat) (e:List AV),es[j]? =some e-> ∃en kc vc,ents[j]? =some en/\e=[kc,vc]/\RV m.S w en.key kc)->mfind P kt k es i=some res->
 ∃r:Option (Nat×Value),(Instr.findNow d kv ents i=none\/Instr.findNow d kv ents i=some r)/\(Instr.findAsking kt kv ents i).run P w= .ok r w/\
  match res with|none=>r=none|some j=> ∃en,i<=j/\ents[j-i]? =some en/\r=some (j,en.val)/\ ∃kc vc,es[j-i]? =some [kc,vc]/\br P kt k kc=some true
 | [],[],i,res,_,_,h=>by
   simp only[mfind,KX]at h;subst h;exact⟨none, .inr rfl,rfl,rfl⟩
 |[],_::_,i,res,hl,_,h=>by simp at hl
 |_::_,[],i,res,hl,_,h=>by simp at hl
 | en::ents,e::es,i,res,hl,he,h=>by
   obtain⟨en',kc,vc,h1,rfl,h3⟩:=he 0 e rfl;simp only[LM,KX]at h1;subst h1;simp only[mfind]at h;split at h
   ·rename_i hc;simp only[KX]at h;subst h;refine⟨some (i,en.val),?_,?_,⟨en,K8 _,by simp,rfl,kc,vc,by simp,hc⟩⟩
    ·rcases DL hd hc hk (RL.val h3) with q|q
     ·left;simp[Instr.findNow,q]
     ·right;simp[Instr.findNow,q]
    ·simp only[Instr.findAsking,Ks,Hf hc hk (RL.val h3),Kc,L4];rfl
   ·rename_i hc
    obtain⟨r,k1,k2,k3⟩:=find_ok hd hk ents es (i+1) res (by simpa using hl) (fun j e' hj=>by
     obtain⟨en2,kc2,vc2,q1,q2,q3⟩:=he (j+1) e' (by simpa using hj)
     exact⟨en2,kc2,vc2,by simpa using q1,q2,q3⟩) h
    refine⟨r,?_,?_,?_⟩
    ·rcases DL hd hc hk (RL.val h3) with q|q
     ·left;simp[Instr.findNow,q]
     ·rcases k1 with k1|k1
      ·left;simp[Instr.findNow,q,k1]
      ·right;simp[Instr.findNow,q,k1]
    ·simp only[Instr.findAsking,Ks,Hf hc hk (RL.val h3),Kc,LA,Lf];exact k2
    ·cases res with
     |none=>exact k3
     | some j=>
       obtain⟨en2,q1,q2,q3,kc2,vc2,q4,q5⟩:=k3;have e1:j-i=(j-(i+1))+1:=by omega
       exact⟨en2,by omega,by rw[e1];simpa using q2,q3,kc2,vc2,by rw[e1];simpa using q4,q5⟩
   ·cases h
theorem eI {kt:TypeId} {kv:Value} {k:AV} (hd: ∃d,P.underlying kt=some d) (hk:RL w m s kv k) {ents:Array MapEntry} {es:List (List AV)} {res:Option Nat} (hl:ents.size=es.length)
 (he: ∀(j:Nat) (e:List AV),es[j]? =some e-> ∃en kc vc,ents[j]? =some en/\e=[kc,vc]/\RV m.S w en.key kc) (h:mfind P kt k es 0=some res):
 ∃r:Option (Nat×Value),(Instr.findKey kt kv ents.toList).run P w= .ok r w/\
  match res with|none=>r=none|some j=> ∃en,ents[j]? =some en/\r=some (j,en.val)/\ ∃kc vc,es[j]? =some [kc,vc]/\br P kt k kc=some true:=by
 obtain⟨d,hd⟩:=hd
 obtain⟨r,k1,k2,k3⟩:=find_ok hd hk ents.toList es 0 res (by simpa using hl) (fun j e hj=>by
  obtain⟨en,kc,vc,q1,q2,q3⟩:=he j e hj
  exact⟨en,kc,vc,by simpa using q1,q2,q3⟩) h
 refine⟨r,?_,?_⟩
 ·unfold Instr.findKey;rcases k1 with k1|k1
  ·simp only[Ks,Ka hd,Kc,k1];exact k2
  ·simp only[Ks,Ka hd,Kc,k1];rfl
 ·cases res with
  |none=>exact k3
  | some j=>
    obtain⟨en,_,q2,q3,q4⟩:=k3;exact⟨en,by simpa using q2,q3,by simpa using q4⟩
theorem Dj {t:TypeId} {c c':AV} {u v:Value} (h:cG P t c c'=some true) (hu:RL w m s u c) (hv:RL w m s v c'):u=v/\ ∀n,Instr.sameBits n u u=true:=by
 unfold cG at h;split at h
 ·split at h
  ·split at h
   ·rename_i hk;simp only[KX,LW]at h;rw[hu.lit_,hv.lit_,hk,h];exact⟨rfl,fun n=>by cases n<;>simp[Instr.sameBits]⟩
   ·cases h
  ·cases h
 ·split at h
  ·rename_i a b _ _ _ _;obtain⟨⟨a⟩⟩:=a;obtain⟨⟨b⟩⟩:=b;simp only[bG,KX,LW]at h;rw[hu.lit_,hv.lit_,h];exact⟨rfl,fun n=>by cases n<;>simp[Instr.sameBits,Hv]⟩
  ·cases h
 ·split at h
  ·simp only[KX,LW]at h;rw[hu.lit_,hv.lit_,h];exact⟨rfl,fun n=>by cases n<;>simp[Instr.sameBits]⟩
  ·cases h
 ·cases h
theorem Hj {xs ys:List AV} : ∀ {fs:List (Nat×TypeId×Nat)} {i:Nat},qN P xs ys fs=some true->jK i fs=true-> ∀j,i<=j->j<i+fs.length-> ∃t a b,xs[j]? =some a/\ys[j]? =some b/\cG P t a b=some true
 |[],i,_,_,j,h1,h2=>by simp at h2;omega
 |(o,t,n)::fs,i,h,hc,j,h1,h2=>by
   simp only[jK,KY,LW]at hc;simp only[qN]at h;split at h
   ·rename_i a b ha hb;split at h
    ·rename_i p q hp hq;simp only[KX,KY]at h;obtain⟨rfl,rfl⟩:=h;by_cases e:j=i
     ·subst e;rw[hc.1]at ha hb;exact⟨t,a,b,ha,hb,hp⟩
     ·exact Hj hq hc.2 j (by omega) (by simp only[Kj]at h2;omega)
    ·cases h
   ·cases h
theorem xh {kt:TypeId} {c c':AV} {u v:Value} (h:br P kt c c'=some true) (hu:RL w m s u c) (hv:RL w m s v c'):u=v/\(Instr.keyThatStays u v).run P w= .ok v w:=by
 have fin:u=v->Instr.sameBits 10000 u u=true->u=v/\(Instr.keyThatStays u v).run P w= .ok v w:=fun e hb=>by
  subst e;exact⟨rfl,by unfold Instr.keyThatStays;rw[K0 hb];rfl⟩
 unfold br at h;split at h
 ·rename_i fs n z hd;split at h
  ·rename_i xs ys;split at h
   ·rename_i hc;simp only[KY,LW]at hc;obtain⟨⟨⟨c1,c2⟩,c3⟩,c4⟩:=hc;obtain⟨us,rfl,hul,_,huc⟩:=hu.agg_;obtain⟨vs,rfl,hvl,_,hvc⟩:=hv.agg_
    have each: ∀j,j<n-> ∃q,us[j]? =some q/\vs[j]? =some q/\ ∀k,Instr.sameBits k q q=true:=fun j hj=>by
     obtain⟨t,p,q,q1,q2,q3⟩:=Hj h c1 j (Ke _) (by omega);have g1:us[j]? =some (us[j]'(by omega)):=KV _;have g2:vs[j]? =some (vs[j]'(by omega)):=KV _;obtain⟨k1,k2⟩:=Dj q3 (huc _ _ _ g1 q1) (hvc _ _ _ g2 q2);exact⟨_,g1,by rw[g2,k1],k2⟩
    have e:us=vs:=by
     apply LQ;intro j;by_cases hj:j<n
     ·obtain⟨q,q1,q2,_⟩:=each j hj;rw[q1,q2]
     ·rw[K7 (by omega),K7 (by omega)]
    subst e;refine fin rfl ?_;rw[show (10000:Nat)=9999+1 from rfl];simp only[Instr.sameBits,On,LK,K2];rintro⟨p,q⟩ hpq;obtain⟨j,hj,e⟩:=Lp hpq;simp only[List.getElem_zip,NP]at e;simp only[List.length_zip]at hj;obtain⟨q',q1,_,q3⟩:=each j (by simp at hj;omega);have hjl:j<us.length:=by simp at hj;exact hj
    rw[KV hjl]at q1;simp only[KX]at q1;have e1:p=q':=by rw[<-e.1];simpa using q1
    have e2:q=q':=by rw[<-e.2];simpa using q1
    rw[e1,e2];exact q3 9999
   ·cases h
  ·cases h
 ·obtain⟨k1,k2⟩:=Dj h hu hv;exact fin k1 (k2 10000)
theorem tQ {t:TypeId} (ho:o.op= .makeMap t none) (hS:Sim x s a w m) (h:(aT P x.env s.f o).run s=some out):dU P x s a w o out:=by
 unfold aT at h;simp only[ho]at h;unfold jE at h;split at h
 ·rename_i k e z n z' d hd ed;simp only[Rd.run,KX]at h;subst h;have hsz:=hS.bel.size;have hcell: ∀b o,m.S b o->m.S b o/\Stay w (w.alloc (.map #[] 0)) b o:=fun b o hh=>⟨hh, .block (MH _ _ _ (hS.low b o hh))⟩
  have hS2:=hS.renew d ⟨0,[],t,xa z⟩ false (.slice (some ⟨w.heap.size,0,none⟩) 0 0) m.S ((MM _ _).alloc hsz _) hcell (fun b o hh=> .inl hh) (fun k' row' hk hr g hg=>by
   have:=((hS.rows k' row' hr).blk hg).2;refine⟨MH _ _ _ this,?_,fun o hh=>hh⟩;simp[Value.ownBlock]
   omega)
   (.inr ⟨rfl,⟨w.heap.size, #[],0,by simp[upd_same],hsz,by show (w.heap.push (.map #[] 0))[w.heap.size]? =some _;simp,⟨rfl,rfl,fun i en h=>by simp at h⟩,fun i e he=>by simp at he⟩,fun g hg o hh=>by simp[upd_same,Value.ownBlock]at hg;have:=hS.low g o hh;omega⟩) (fun b hf=>⟨MH _ _ _ (hS.fxlt hf),fun _ hh=>hh,fun e=>by have:=hS.fxlt hf;simp[Value.ownBlock]at e;omega⟩)
  refine⟨_,_,_, .map (some w.heap.size),?_, .inl rfl,hS2, .mp d (s.vs d+1) rfl (by simp[apps,Eff.app,St.renew,upd_same]) fun _ row hr=>⟨w.heap.size,by simp[upd_same,Value.ownBlock],rfl⟩⟩;unfold execOp;have hrun:(Instr.makeMap t none).run P w= .ok (.map (some w.heap.size)) (w.alloc (.map #[] 0)):=rfl;simp only[ho,Ns,Ks,hrun,Kc,LO]
 ·simp[Rd.run]at h
theorem Sim.mapAt (h:Sim x s a w m) {r ver:Nat} {row:Row} {v:Value} (hv:RL w m s v (.mp r ver)) (hrow:s.rows r=some row) (hver:s.vs r=ver) (hsz:row.sz=0):
 ∃g ents clock,v= .map (some g)/\m.ρ r= .slice (some ⟨g,0,none⟩) 0 0/\x.w.heap.size<=g/\w.heap[g]? =some (.map ents clock)/\Dense ents clock row.es.length/\
  ∀(i:Nat) (e:List AV),row.es[i]? =some e-> ∃en kc vc,ents[i]? =some en/\e=[kc,vc]/\RV m.S w en.key kc/\(if row.pure then RV m.S w en.val vc else RL w m s en.val vc):=by
 obtain⟨g,ents,clock,e1,e2,e3,e4,e5⟩:=((h.rows r row hrow).map hsz).own;obtain⟨g',hg',hv'⟩:=hv.mp_.2 hver row hrow;rw[e1]at hg';simp only[Value.ownBlock,KX]at hg';subst hg';exact⟨g,ents,clock,hv',e1,e2,e3,e4,e5⟩
theorem jZ {e:TypeId} {ie:TypeInfo} {z:Value} (hi:P.info? e=some ie) (hz:ie.zero=some z) (w:World):(zeroValue e).run P w= .ok z w:=by
 simp[zeroValue,run_typeInfo w hi,hz]
theorem gw {S:Nat->Nat->Prop} {w:World} (z:Value):RV S w z (AV.ofVal z):=by
 unfold AV.ofVal;split
 ·rename_i cs;split
  ·rename_i hc
   have:=RV.agg (S:=S) (w:=w) cs.toList (cs.toList.map .lit) (by simp) (fun v hv=>K2.1 hc v hv) fun i v c h1 h2=>by
    rw[K5,h1]at h2;cases h2;exact .lit _
   simpa using this
  ·exact .any _
 ·exact .lit _
theorem RV.fmapAt {S:Nat->Nat->Prop} {w:World} {v:Value} {es:List (List AV)} (h:RV S w v (.fmap es)):
 ∃g ents clock,v= .map (some g)/\w.heap[g]? =some (.map ents clock)/\ents.size=es.length/\
  ∀(i:Nat) (e:List AV),es[i]? =some e-> ∃en kc vc,ents[i]? =some en/\e=[kc,vc]/\RV S w en.key kc/\RV S w en.val vc:=by
 cases h with
 | fmap g ents clock es h0 hg hn hz hk hv=>
   refine⟨g,ents,clock,rfl,hg,hn,fun i e hi=> ?_⟩;have hil:i<ents.size:=by rw[hn];exact(KW.1 hi).1
   have he:=hz i e hi
   match e,he with
   |[kc,vc],_=>exact⟨ents[i],kc,vc,Ld hil,rfl,hk i _ kc (Ld hil) (by unfold cellAt;rw[hi];rfl),hv i _ vc (Ld hil) (by unfold cellAt;rw[hi];rfl)⟩
theorem vu {t:TypeId} {y k:Operand} {ok:Bool} (ho:o.op= .lookup t y k ok) (hS:Sim x s a w m) (h:(aT P x.env s.f o).run s=some out):dU P x s a w o out:=by
 have hy:=ah hS y;have hk:=ah hS k;unfold aT at h;simp only[ho]at h;unfold kR at h;split at h
 ·rename_i r ver kt et z n z' e1 hd;rw[e1]at hy;obtain⟨row,hrow,hver,hsz,h⟩:=run_map h;obtain⟨g,ents,clock,hv,_,_,hb,hD,hE⟩:=hS.mapAt hy hrow hver hsz;have hl:=hD.1;obtain⟨hu,ie,hi,hz⟩:=qC hd;split at h
  ·rename_i hcond;obtain⟨hc1,hc2⟩:=hcond;obtain⟨b,hb1⟩:=Mb.1 hc1;have hchk:=jF (P:=P) (w:=w) (em:=ents.isEmpty) hb1 hk
   have hE': ∀(j:Nat) (e:List AV),row.es[j]? =some e-> ∃en kc vc,ents[j]? =some en/\e=[kc,vc]/\RV m.S w en.key kc:=fun j e hj=>by
    obtain⟨en,kc,vc,q1,q2,q3,_⟩:=hE j e hj;exact⟨en,kc,vc,q1,q2,q3⟩
   have hkt:=tl hb1;split at h
   ·rename_i i hf;obtain⟨rr,hfr,en,q1,q2,kc,vc',q3,_⟩:=eI hkt hk hl hE' hf;rw[q3]at h;simp only[Rd.run,KX]at h;subst h;obtain⟨en2,kc2,vc2,p1,p2,_,p4⟩:=hE i _ q3;rw[q1]at p1;cases p1;simp only[Me,Ol]at p2;obtain⟨_,rfl⟩:=p2;rw[q2]at hfr
    have hval:RL w m s en.val vc':=by
     split at p4
     ·exact .val p4
     ·exact p4
    cases ok with
    | false=>
      refine .same hS (v:=en.val) ?_ rfl hval;unfold execOp;simp[ho,hv,Instr.lookup,Ka hu,L5 hb,hchk,hfr]
    | true=>
      have hp:row.pure=true:=by simpa using hc2
      rw[K0 hp]at p4;refine .same hS (v:= .tuple #[en.val, .bool true]) ?_ rfl (.val ?_)
      ·unfold execOp;simp[ho,hv,Instr.lookup,Ka hu,L5 hb,hchk,hfr]
      ·exact .tuple [en.val, .bool true] [vc', .lit (.bool true)] rfl fun i v c h1 h2=>by
        match i,h1,h2 with
        |0,h1,h2=>simp at h1 h2;subst h1 h2;exact p4
        |1,h1,h2=>simp at h1 h2;subst h1 h2;exact .lit _
        |i+2,h1,h2=>simp at h1
   ·rename_i hf;obtain⟨rr,hfr,q⟩:=eI hkt hk hl hE' hf;have q:rr=none:=q;subst q;simp only[Rd.run,KX]at h;subst h;have hzr:=jZ (P:=P) hi hz w;cases ok with
    | false=>
      refine .same hS (v:=z) ?_ rfl (.val (gw z));unfold execOp;simp[ho,hv,Instr.lookup,Ka hu,L5 hb,hchk,hfr,hzr]
    | true=>
      refine .same hS (v:= .tuple #[z, .bool false]) ?_ rfl (.val ?_)
      ·unfold execOp;simp[ho,hv,Instr.lookup,Ka hu,L5 hb,hchk,hfr,hzr]
      ·exact .tuple [z, .bool false] [.ofVal z, .lit (.bool false)] rfl fun i v c h1 h2=>by
        match i,h1,h2 with
        |0,h1,h2=>simp at h1 h2;subst h1 h2;exact gw z
        |1,h1,h2=>simp at h1 h2;subst h1 h2;exact .lit _
        |i+2,h1,h2=>simp at h1
   ·simp[Rd.run]at h
  ·simp[Rd.run]at h
 ·rename_i es kt et z n z' e1 hd;rw[e1]at hy;obtain⟨g,ents,clock,hv,hb,hl,hE⟩:=hy.fmap_.fmapAt;obtain⟨hu,ie,hi,hz⟩:=qC hd;split at h
  ·rename_i hc1;obtain⟨b,hb1⟩:=Mb.1 hc1;have hchk:=jF (P:=P) (w:=w) (em:=ents.isEmpty) hb1 hk
   have hE': ∀(j:Nat) (e:List AV),es[j]? =some e-> ∃en kc vc,ents[j]? =some en/\e=[kc,vc]/\RV m.S w en.key kc:=fun j e hj=>by
    obtain⟨en,kc,vc,q1,q2,q3,_⟩:=hE j e hj;exact⟨en,kc,vc,q1,q2,q3⟩
   have hkt:=tl hb1;split at h
   ·rename_i i hf;obtain⟨rr,hfr,en,q1,q2,kc,vc',q3,_⟩:=eI hkt hk hl hE' hf;rw[q3]at h;simp only[Rd.run,KX]at h;subst h;obtain⟨en2,kc2,vc2,p1,p2,_,p4⟩:=hE i _ q3;rw[q1]at p1;cases p1;simp only[Me,Ol]at p2;obtain⟨_,rfl⟩:=p2;rw[q2]at hfr;cases ok with
    | false=>
      refine .same hS (v:=en.val) ?_ rfl (.val p4);unfold execOp;simp[ho,hv,Instr.lookup,Ka hu,L5 hb,hchk,hfr]
    | true=>
      refine .same hS (v:= .tuple #[en.val, .bool true]) ?_ rfl (.val ?_)
      ·unfold execOp;simp[ho,hv,Instr.lookup,Ka hu,L5 hb,hchk,hfr]
      ·exact .tuple [en.val, .bool true] [vc', .lit (.bool true)] rfl fun i v c h1 h2=>by
        match i,h1,h2 with
        |0,h1,h2=>simp at h1 h2;subst h1 h2;exact p4
        |1,h1,h2=>simp at h1 h2;subst h1 h2;exact .lit _
        |i+2,h1,h2=>simp at h1
   ·rename_i hf;obtain⟨rr,hfr,q⟩:=eI hkt hk hl hE' hf;have q:rr=none:=q;subst q;simp only[Rd.run,KX]at h;subst h;have hzr:=jZ (P:=P) hi hz w;cases ok with
    | false=>
      refine .same hS (v:=z) ?_ rfl (.val (gw z));unfold execOp;simp[ho,hv,Instr.lookup,Ka hu,L5 hb,hchk,hfr,hzr]
    | true=>
      refine .same hS (v:= .tuple #[z, .bool false]) ?_ rfl (.val ?_)
      ·unfold execOp;simp[ho,hv,Instr.lookup,Ka hu,L5 hb,hchk,hfr,hzr]
      ·exact .tuple [z, .bool false] [.ofVal z, .lit (.bool false)] rfl fun i v c h1 h2=>by
        match i,h1,h2 with
        |0,h1,h2=>simp at h1 h2;subst h1 h2;exact gw z
        |1,h1,h2=>simp at h1 h2;subst h1 h2;exact .lit _
        |i+2,h1,h2=>simp at h1
   ·simp[Rd.run]at h
  ·simp[Rd.run]at h
 ·simp[Rd.run]at h
theorem Dense.modify {ents:Array MapEntry} {clock n:Nat} (h:Dense ents clock n) (i:Nat) (f:MapEntry->MapEntry) (hf: ∀e,(f e).born=e.born):Dense (ents.modify i f) clock n:=by
 refine⟨by simp[h.1],h.2.1,fun j en hj=> ?_⟩;rw[MC]at hj;by_cases e:i=j
 ·rw[K0 e]at hj;obtain⟨e0,h1,rfl⟩:=L1.1 hj;rw[hf];exact h.2.2 j e0 h1
 ·rw[KZ e]at hj;exact h.2.2 j en hj
theorem Dense.push {ents:Array MapEntry} {clock n:Nat} (h:Dense ents clock n) (k v:Value):Dense (ents.push { key:=k,val:=v,born:=clock }) (clock+1) (n+1):=by
 refine⟨by simp[h.1],by rw[h.2.1],fun j en hj=> ?_⟩;rw[Mn]at hj;by_cases e:j=ents.size
 ·rw[K0 e]at hj;cases hj;rw[h.2.1,e,h.1]
 ·rw[KZ e]at hj;exact h.2.2 j en hj
theorem Dense.find {ents:Array MapEntry} {clock n:Nat} (h:Dense ents clock n) {i:Nat} (hi:i<n):ents.findIdx? (fun e=>((e.born:Nat):Int)==((i:Nat):Int))=some i:=by
 rw[Array.findIdx?_eq_some_iff_getElem];refine⟨by rw[h.1];exact hi,?_,fun j hj=> ?_⟩
 ·have:=h.2.2 i _ (Ld (by rw[h.1];exact hi));simp[this]
 ·have:=h.2.2 j _ (Ld (by rw[h.1];omega));simp[this];omega
theorem Sim.remap (h:Sim x s a w m) {r g:Nat} {row row':Row} {ents ents':Array MapEntry} {clock clock':Nat} (hrow:s.rows r=some row) (hsz:row.sz=0) (hsz':row'.sz=0) (hρ:m.ρ r= .slice (some ⟨g,0,none⟩) 0 0) (hg:x.w.heap.size<=g) (hb:w.heap[g]? =some (.map ents clock))
 (hl:Dense ents' clock' row'.es.length) (hE: ∀(i:Nat) (e:List AV),row'.es[i]? =some e-> ∃en kc vc,ents'[i]? =some en/\e=[kc,vc]/\RV m.S w en.key kc/\(if row'.pure then RV m.S w en.val vc else RL w m s en.val vc)):
 Sim x (s.setRow r row') a { w with heap:=w.heap.setIfInBounds g (.map ents' clock') } m:=by
 have hgl:g<w.heap.size:=(Kq.1 hb).1;have hoth: ∀k,k≠g->({ w with heap:=w.heap.setIfInBounds g (.map ents' clock') } :World).heap[k]? =w.heap[k]? :=fun k hk=>by simp[MJ hk]
 have hat:({ w with heap:=w.heap.setIfInBounds g (.map ents' clock') } :World).heap[g]? =some (.map ents' clock'):=by simp[hgl]
 have hown:(m.ρ r).ownBlock=some g:=by rw[hρ];rfl
 have hnS:=((h.rows r row hrow).map hsz).fresh g hown;have hcell: ∀b o,m.S b o->Stay w ({ w with heap:=w.heap.setIfInBounds g (.map ents' clock') } :World) b o:=fun b o hh=> .block (hoth b fun e=>hnS o (e ▸ hh));have hS': ∀b o,m.S b o->m.S b o/\Stay w ({ w with heap:=w.heap.setIfInBounds g (.map ents' clock') } :World) b o:=fun b o hh=>⟨hh,hcell b o hh⟩;refine h.reset r row row' hrow (by rw[hsz,hsz']) ⟨rfl,rfl,rfl,by simp,fun q hq=>hoth q (by omega)⟩ hcell (fun k row1 hne hk g' hg'=>hoth g' fun e=>h.inj r k row row1 hrow hk (MJ hne) g hown (e ▸ hg')) (.inr ⟨hsz',⟨g,ents',clock',hρ,hg,hat,hl,fun i e hi=> ?_⟩,fun g' hg'=>by rw[hown]at hg';cases hg';exact hnS⟩) fun b hf=>hoth b fun e=>h.nofx r row hrow g hown (e ▸ hf);obtain⟨en,kc,vc,q1,q2,q3,q4⟩:=hE i e hi;refine⟨en,kc,vc,q1,q2,q3.mono hS',?_⟩;split at q4
 ·rename_i hp;rw[K0 hp];exact q4.mono hS'
 ·rename_i hp;rw[KZ hp];refine q4.mono hS' (fun _=>K8 _) fun k row2 _ hh=> ?_;by_cases e:k=r
  ·subst e;simp only[St.setRow,upd_same,KX]at hh;subst hh;exact⟨row,hrow,by rw[hsz,hsz'],rfl⟩
  ·simp only[St.setRow,upd_ne _ _ _ e]at hh;exact⟨row2,hh,rfl,rfl⟩
theorem pg {t:TypeId} {y k v:Operand} (ho:o.op= .mapUpdate t y k v) (hS:Sim x s a w m) (h:(aT P x.env s.f o).run s=some out):dU P x s a w o out:=by
 have hy:=ah hS y;have hk:=ah hS k;have hvv:=ah hS v;unfold aT at h;simp only[ho]at h;unfold fI at h;split at h
 ·rename_i r ver kt et z n z' e1 hd;rw[e1]at hy;obtain⟨row,hrow,hver,hsz,h⟩:=run_map h;obtain⟨g,ents,clock,hv,hρ,hbase,hb,hD,hE⟩:=hS.mapAt hy hrow hver hsz;have hl:=hD.1;obtain⟨hu,ie,hi,hz⟩:=qC hd;split at h
  ·rename_i hcond;obtain⟨hc1,hc2,hc3⟩:=hcond;obtain⟨b,hb1⟩:=Mb.1 hc1;have hchk:=jF (P:=P) (w:=w) (em:=false) hb1 hk
   have hE': ∀(j:Nat) (e:List AV),row.es[j]? =some e-> ∃en kc vc,ents[j]? =some en/\e=[kc,vc]/\RV m.S w en.key kc:=fun j e hj=>by
    obtain⟨en,kc,vc,q1,q2,q3,_⟩:=hE j e hj;exact⟨en,kc,vc,q1,q2,q3⟩
   have hkt:=tl hb1;have hkr:=hk.bare hc2
   have hvr:if row.pure then RV m.S w (a.eval v) (gt x.env s.f v) else RL w m s (a.eval v) (gt x.env s.f v):=by
    cases hp:row.pure with
    | true=>
      rw[hp]at hc3;simp only[L4];exact hvv.bare (by simpa using hc3)
    |false=>simp only[LA,Lf];exact hvv
   split at h
   ·rename_i i hf;obtain⟨rr,hfr,en,q1,q2,kc,vc',q3,q4⟩:=eI hkt hk hl hE' hf;simp only[Rd.run,KX]at h;subst h;rw[q2]at hfr;obtain⟨en2,kc2,vc2,p1,p2,p3,p4⟩:=hE i _ q3;rw[q1]at p1;cases p1;simp only[Me,Ol]at p2;obtain⟨rfl,rfl⟩:=p2;obtain⟨hsame,_⟩:=xh q4 hk (RL.val p3);have hst:=(xh (P:=P) (w:=w) q4 hk (RL.val p3)).2;have hil:i<ents.size:=(Kq.1 q1).1;have hstay:(Instr.keyThatStays en.key (a.eval k)).run P w= .ok (a.eval k) w:=by rw[<-hsame];rw[<-hsame]at hst;exact hst
    have hrun:(Instr.mapUpdate t (.map (some g)) (a.eval k) (a.eval v)).run P w= .ok () { w with heap:=w.heap.setIfInBounds g (.map (ents.modify i fun e=>{ e with key:=a.eval k,val:=a.eval v }) clock) } :=by
     unfold Instr.mapUpdate;simp only[Ks,Ka hu,Kc,L5 hb,hchk,hfr,q1,Kg,Ls,hstay];rw[Mj _ hb]
    have hS2:=hS.remap (ents':=ents.modify i fun e=>{ e with key:=a.eval k,val:=a.eval v }) (clock':=clock) (row':={ row with es:=row.es.set i [gt x.env s.f k,gt x.env s.f v] }) hrow hsz hsz hρ hbase hb (by simpa using hD.modify i (fun e=>{ e with key:=a.eval k,val:=a.eval v }) fun _=>rfl) fun j e hj=>by
     have hj:(row.es.set i [gt x.env s.f k,gt x.env s.f v])[j]? =some e:=hj;rw[Ln]at hj;by_cases e0:i=j
     ·subst e0;rw[K0 rfl,K0 (by omega)]at hj;cases hj;exact⟨{ en with key:=a.eval k,val:=a.eval v },_,_,by simp[MC,q1],rfl,hkr,hvr⟩
     ·rw[KZ e0]at hj;obtain⟨en3,kc3,vc3,r1,r2,r3,r4⟩:=hE j e hj;exact⟨en3,kc3,vc3,by simp[MC,e0,r1],r2,r3,r4⟩
    refine⟨.skip,_,m,undef,?_, .inr ⟨rfl,rfl⟩,hS2, .val (.any _)⟩;unfold execOp;simp only[ho,hv,Ks,hrun,Kc,LO]
   ·rename_i hf;obtain⟨rr,hfr,q⟩:=eI hkt hk hl hE' hf;have q:rr=none:=q;subst q;simp only[Rd.run,KX]at h;subst h
    have hrun:(Instr.mapUpdate t (.map (some g)) (a.eval k) (a.eval v)).run P w= .ok () { w with heap:=w.heap.setIfInBounds g (.map (ents.push { key:=a.eval k,val:=a.eval v,born:=clock }) (clock+1)) } :=by
     unfold Instr.mapUpdate;simp only[Ks,Ka hu,Kc,L5 hb,hchk,hfr];rw[Mj _ hb]
    have hS2:=hS.remap (ents':=ents.push { key:=a.eval k,val:=a.eval v,born:=clock }) (clock':=clock+1) (row':={ row with es:=row.es++[[gt x.env s.f k,gt x.env s.f v]] }) hrow hsz hsz hρ hbase hb (by simpa using hD.push (a.eval k) (a.eval v)) fun j e hj=>by
     have hj:(row.es++[[gt x.env s.f k,gt x.env s.f v]])[j]? =some e:=hj;by_cases hjl:j<row.es.length
     ·rw[LB hjl]at hj;obtain⟨en3,kc3,vc3,r1,r2,r3,r4⟩:=hE j e hj;exact⟨en3,kc3,vc3,by rw[Mn,KZ (by omega)];exact r1,r2,r3,r4⟩
     ·have hje:j=row.es.length:=by
       have:=(KW.1 hj).1;simp at this;omega
      subst hje;simp at hj;subst hj;exact⟨{ key:=a.eval k,val:=a.eval v,born:=clock },_,_,by rw[Mn,K0 hl.symm],rfl,hkr,hvr⟩
    refine⟨.skip,_,m,undef,?_, .inr ⟨rfl,rfl⟩,hS2, .val (.any _)⟩;unfold execOp;simp only[ho,hv,Ks,hrun,Kc,LO]
   ·simp[Rd.run]at h
  ·simp[Rd.run]at h
 ·simp[Rd.run]at h
theorem qU {t:TypeId} {y k:Operand} (ho:o.op= .mapEntry t y k) (hS:Sim x s a w m) (h:(aT P x.env s.f o).run s=some out):dU P x s a w o out:=by
 have hy:=ah hS y;have hk:=ah hS k;unfold aT at h;simp only[ho]at h;unfold ga at h;split at h
 ·rename_i r ver kt et z n z' e1 hd;rw[e1]at hy;obtain⟨row,hrow,hver,hsz,h⟩:=run_map h;obtain⟨g,ents,clock,hv,hρ,hbase,hb,hD,hE⟩:=hS.mapAt hy hrow hver hsz;have hl:=hD.1;obtain⟨hu,ie,hi,hz⟩:=qC hd;split at h
  ·rename_i hcond;obtain⟨hc1,hc2⟩:=hcond;obtain⟨b,hb1⟩:=Mb.1 hc1;have hchk:=jF (P:=P) (w:=w) (em:=false) hb1 hk
   have hE': ∀(j:Nat) (e:List AV),row.es[j]? =some e-> ∃en kc vc,ents[j]? =some en/\e=[kc,vc]/\RV m.S w en.key kc:=fun j e hj=>by
    obtain⟨en,kc,vc,q1,q2,q3,_⟩:=hE j e hj;exact⟨en,kc,vc,q1,q2,q3⟩
   have hkt:=tl hb1;have hkr:=hk.bare hc2;split at h
   ·rename_i i hf;obtain⟨rr,hfr,en,q1,q2,kc,vc',q3,q4⟩:=eI hkt hk hl hE' hf;rw[q3]at h;simp only[Rd.run,KX]at h;subst h;rw[q2]at hfr;obtain⟨en2,kc2,vc2,p1,p2,p3,p4⟩:=hE i _ q3;rw[q1]at p1;cases p1;simp only[Me,Ol]at p2;obtain⟨rfl,rfl⟩:=p2;obtain⟨hsame,_⟩:=xh q4 hk (RL.val p3);have hst:=(xh (P:=P) (w:=w) q4 hk (RL.val p3)).2;have hil:i<ents.size:=(Kq.1 q1).1;have hstay:(Instr.keyThatStays en.key (a.eval k)).run P w= .ok (a.eval k) w:=by rw[<-hsame];rw[<-hsame]at hst;exact hst
    have hborn:en.born=i:=hD.2.2 i en q1
    have hrun:(Instr.mapEntry t (.map (some g)) (a.eval k)).run P w= .ok (.tuple #[en.val, .int .i64 (i:Nat)]) { w with heap:=w.heap.setIfInBounds g (.map (ents.modify i fun e=>{ e with key:=a.eval k }) clock) } :=by
     unfold Instr.mapEntry;simp only[Ks,Ka hu,Kc,L5 hb,hchk,hfr,q1,Kg,Ls,hstay];rw[Mj _ hb];simp[goInt,hborn]
    have hS2:=hS.remap (ents':=ents.modify i fun e=>{ e with key:=a.eval k }) (clock':=clock) (row':={ row with es:=row.es.set i [gt x.env s.f k,vc'] }) hrow hsz hsz hρ hbase hb (by simpa using hD.modify i (fun e=>{ e with key:=a.eval k }) fun _=>rfl) fun j e hj=>by
     have hj:(row.es.set i [gt x.env s.f k,vc'])[j]? =some e:=hj;rw[Ln]at hj;by_cases e0:i=j
     ·subst e0;rw[K0 rfl,K0 (by omega)]at hj;cases hj;exact⟨{ en with key:=a.eval k },_,_,by simp[MC,q1],rfl,hkr,p4⟩
     ·rw[KZ e0]at hj;obtain⟨en3,kc3,vc3,r1,r2,r3,r4⟩:=hE j e hj;exact⟨en3,kc3,vc3,by simp[MC,e0,r1],r2,r3,r4⟩
    have hval:RL w m s en.val vc':=by
     split at p4
     ·exact .val p4
     ·exact p4
    refine⟨.value (.tuple #[en.val, .int .i64 (i:Nat)]),_,m, .tuple #[en.val, .int .i64 (i:Nat)],?_, .inl rfl,hS2,?_⟩
    ·unfold execOp;simp only[ho,hv,Ks,hrun,Kc,LO]
    ·have hS': ∀b o,m.S b o->m.S b o/\Stay w ({ w with heap:=w.heap.setIfInBounds g (.map (ents.modify i fun e=>{ e with key:=a.eval k }) clock) } :World) b o:=fun b o hh=>⟨hh, .block (by
      have hne:b≠g:=fun e=>((hS.rows r row hrow).map hsz).fresh g (by rw[hρ];rfl) o (e ▸ hh)
      simp[MJ hne])⟩
     refine RL.tuple [en.val, .int .i64 (i:Nat)] [vc', .lit (.int .i64 (i:Nat))] rfl fun j v c h1 h2=> ?_
     match j,h1,h2 with
     | 0,h1,h2=>
       simp at h1 h2;subst h1 h2;refine hval.mono hS' (fun _=>K8 _) fun k row2 _ hh=> ?_;by_cases e:k=r
       ·subst e;simp only[apps,Eff.app,St.setRow,upd_same,KX]at hh;subst hh;exact⟨row,hrow,rfl,rfl⟩
       ·simp only[apps,Eff.app,St.setRow,upd_ne _ _ _ e]at hh;exact⟨row2,hh,rfl,rfl⟩
     |1,h1,h2=>simp at h1 h2;subst h1 h2;exact .val (.lit _)
     |j+2,h1,h2=>simp at h1
   ·rename_i hf;obtain⟨rr,hfr,q⟩:=eI hkt hk hl hE' hf;have q:rr=none:=q;subst q;simp only[Rd.run,KX]at h;subst h;have hzr:=jZ (P:=P) hi hz w
    have hrun:(Instr.mapEntry t (.map (some g)) (a.eval k)).run P w= .ok (.tuple #[z, .int .i64 (row.es.length:Nat)]) { w with heap:=w.heap.setIfInBounds g (.map (ents.push { key:=a.eval k,val:=z,born:=clock }) (clock+1)) } :=by
     unfold Instr.mapEntry;simp only[Ks,Ka hu,Kc,L5 hb,hchk,hfr,hzr];rw[Mj _ hb];simp[goInt,hD.2.1]
    have hS2:=hS.remap (ents':=ents.push { key:=a.eval k,val:=z,born:=clock }) (clock':=clock+1) (row':={ row with es:=row.es++[[gt x.env s.f k, .ofVal z]] }) hrow hsz hsz hρ hbase hb (by simpa using hD.push (a.eval k) z) fun j e hj=>by
     have hj:(row.es++[[gt x.env s.f k, .ofVal z]])[j]? =some e:=hj;by_cases hjl:j<row.es.length
     ·rw[LB hjl]at hj;obtain⟨en3,kc3,vc3,r1,r2,r3,r4⟩:=hE j e hj;exact⟨en3,kc3,vc3,by rw[Mn,KZ (by omega)];exact r1,r2,r3,r4⟩
     ·have hje:j=row.es.length:=by
       have:=(KW.1 hj).1;simp at this;omega
      subst hje;simp at hj;subst hj;refine⟨{ key:=a.eval k,val:=z,born:=clock },_,_,by rw[Mn,K0 hl.symm],rfl,hkr,?_⟩;cases hp:row.pure with
      |true=>exact gw z
      |false=>exact .val (gw z)
    refine⟨.value (.tuple #[z, .int .i64 (row.es.length:Nat)]),_,m, .tuple #[z, .int .i64 (row.es.length:Nat)],?_, .inl rfl,hS2, .val ?_⟩
    ·unfold execOp;simp only[ho,hv,Ks,hrun,Kc,LO]
    ·exact .tuple [z, .int .i64 (row.es.length:Nat)] [.ofVal z, .lit (.int .i64 (row.es.length:Nat))] rfl fun i v c h1 h2=>by
      match i,h1,h2 with
      |0,h1,h2=>simp at h1 h2;subst h1 h2;exact gw z
      |1,h1,h2=>simp at h1 h2;subst h1 h2;exact .lit _
      |i+2,h1,h2=>simp at h1
   ·simp[Rd.run]at h
  ·simp[Rd.run]at h
 ·simp[Rd.run]at h
theorem nh {t:TypeId} {y n v:Operand} (ho:o.op= .entryStore t y n v) (hS:Sim x s a w m) (h:(aT P x.env s.f o).run s=some out):dU P x s a w o out:=by
 have hy:=ah hS y;have hn:=ah hS n;have hvv:=ah hS v;unfold aT at h;simp only[ho]at h;unfold eA at h;split at h
 ·rename_i r ver ik n e1 e2;rw[e1]at hy;rw[e2]at hn;have hn:=hn.lit_;obtain⟨row,hrow,hver,hsz,h⟩:=run_map h;obtain⟨g,ents,clock,hv,hρ,hbase,hb,hD,hE⟩:=hS.mapAt hy hrow hver hsz;have hl:=hD.1;split at h
  ·rename_i hcond;obtain⟨h0,hc3⟩:=hcond;split at h
   ·rename_i kc vc0 q3;simp only[Rd.run,KX]at h;subst h;have hil:n.toNat<row.es.length:=(KW.1 q3).1;have hfi:=hD.find hil;rw[show ((n.toNat:Nat):Int)=n by omega]at hfi
    have hvr:if row.pure then RV m.S w (a.eval v) (gt x.env s.f v) else RL w m s (a.eval v) (gt x.env s.f v):=by
     cases hp:row.pure with
     | true=>
       rw[hp]at hc3;simp only[L4];exact hvv.bare (by simpa using hc3)
     |false=>simp only[LA,Lf];exact hvv
    have hrun:(Instr.entryStore t (.map (some g)) (.int ik n) (a.eval v)).run P w= .ok () { w with heap:=w.heap.setIfInBounds g (.map (ents.modify n.toNat fun e=>{ e with val:=a.eval v }) clock) } :=by
     have hai:(asInt (.int ik n)).run P w= .ok n w:=rfl;unfold Instr.entryStore;simp only[Ks,L5 hb,Kc,hai,hfi];rw[Mj _ hb]
    have hS2:=hS.remap (ents':=ents.modify n.toNat fun e=>{ e with val:=a.eval v }) (clock':=clock) (row':={ row with es:=row.es.set n.toNat [kc,gt x.env s.f v] }) hrow hsz hsz hρ hbase hb (by simpa using hD.modify n.toNat (fun e=>{ e with val:=a.eval v }) fun _=>rfl) fun j e hj=>by
     have hj:(row.es.set n.toNat [kc,gt x.env s.f v])[j]? =some e:=hj;rw[Ln]at hj;by_cases e0:n.toNat=j
     ·subst e0;rw[K0 rfl,K0 hil]at hj;cases hj;obtain⟨en3,kc3,vc3,r1,r2,r3,r4⟩:=hE _ _ q3;simp only[Me,Ol]at r2;obtain⟨rfl,rfl⟩:=r2;exact⟨{ en3 with val:=a.eval v },_,_,by simp[MC,r1],rfl,r3,hvr⟩
     ·rw[KZ e0]at hj;obtain⟨en3,kc3,vc3,r1,r2,r3,r4⟩:=hE j e hj;exact⟨en3,kc3,vc3,by simp[MC,e0,r1],r2,r3,r4⟩
    refine⟨.skip,_,m,undef,?_, .inr ⟨rfl,rfl⟩,hS2, .val (.any _)⟩;unfold execOp;simp only[ho,hv,hn,Ks,hrun,Kc,LO]
   ·simp[Rd.run]at h
  ·simp[Rd.run]at h
 ·simp[Rd.run]at h
theorem yb {t t':TypeId} {y k:Operand} (ho:o.op= .call { callee:= .builtin .delete,args:= #[y,k],argTypes:= #[t,t'] }) {v:Value} {w':World} (h:(Builtin.delete_ #[t,t'] o.type #[a.eval y,a.eval k]).run P w= .ok v w'):(execOp a.eval o).run P w= .ok (.value v) w':=by
 unfold execOp;simp only[ho,resolve,invoke,builtin,Ks,LO,Kc,OP,LI,Lt,h]
theorem F3 {t t':TypeId} {y k:Operand} (ho:o.op= .call { callee:= .builtin .delete,args:= #[y,k],argTypes:= #[t,t'] }) (hS:Sim x s a w m) (h:(jM P t (gt x.env s.f y) (gt x.env s.f k)).run s=some out):dU P x s a w o out:=by
 have hy:=ah hS y;have hk:=ah hS k;unfold jM at h;split at h
 ·rename_i r ver kt et z n z' e1 hd;rw[e1]at hy;obtain⟨row,hrow,hver,hsz,h⟩:=run_map h;obtain⟨g,ents,clock,hv,hρ,hbase,hb,hD,hE⟩:=hS.mapAt hy hrow hver hsz;have hl:=hD.1;obtain⟨hu,ie,hi,hz⟩:=qC hd;split at h
  ·rename_i hc1;obtain⟨b,hb1⟩:=Mb.1 hc1;have hchk:=jF (P:=P) (w:=w) (em:=ents.isEmpty) hb1 hk
   have hE': ∀(j:Nat) (e:List AV),row.es[j]? =some e-> ∃en kc vc,ents[j]? =some en/\e=[kc,vc]/\RV m.S w en.key kc:=fun j e hj=>by
    obtain⟨en,kc,vc,q1,q2,q3,_⟩:=hE j e hj;exact⟨en,kc,vc,q1,q2,q3⟩
   have hkt:=tl hb1;split at h
   ·rename_i hf;obtain⟨rr,hfr,q⟩:=eI hkt hk hl hE' hf;have q:rr=none:=q;subst q;simp only[Rd.run,KX]at h;subst h;have hgl:g<w.heap.size:=(Kq.1 hb).1
    have hw:({ w with heap:=w.heap.setIfInBounds g (.map ents clock) } :World)=w:=by
     have:w.heap.setIfInBounds g (.map ents clock)=w.heap:=by
      apply Array.ext_getElem?;intro q;rw[Array.getElem?_setIfInBounds];by_cases e:g=q
      ·subst e;rw[K0 rfl,K0 hgl,hb]
      ·rw[KZ e]
     rw[this]
    have hrun:(Builtin.delete_ #[t,t'] o.type #[.map (some g),a.eval k]).run P w= .ok (.tuple #[]) w:=by
     simp[Builtin.delete_,Ka hu,L5 hb,hchk,hfr,Mj _ hb,hw]
    exact⟨.value (.tuple #[]),w,m, .tuple #[],yb ho (by rw[hv];exact hrun), .inl rfl,hS, .val (.any _)⟩
   ·simp[Rd.run]at h
   ·simp[Rd.run]at h
  ·simp[Rd.run]at h
 ·simp[Rd.run]at h
end
section
variable {P:Program} {x:Ctx} {s:St} {a:Act} {w:World} {m:Mem} {o:Oper} {out:Out}
theorem pj {t:TypeId} {l c:Operand} (ho:o.op= .makeSlice t l c) (hS:Sim x s a w m) (h:(aT P x.env s.f o).run s=some out):dU P x s a w o out:=by
 have hl:=ah hS l;have hc:=ah hS c;unfold aT at h;simp only[ho]at h;unfold tv at h;split at h
 ·rename_i e esz eb ez n0 z0 k n k' n' d hd el ec hdst;rw[el]at hl;rw[ec]at hc;have hl:=hl.lit_;have hc:=hc.lit_;obtain⟨hu,ie,ze,i1,i2,i3,i4,i5⟩:=ay hd;split at h
  ·simp[Rd.run]at h
  ·rename_i hcond;simp only[O1,OE]at hcond;obtain⟨c1,c2,rfl,c4,c5,c6,c7⟩:=hcond;simp only[Rd.run,KX]at h;subst h;have hpos:0<esz:=by omega
   have hze: ∀v∈ez,v.oneCell'=true:=fun v hv=>(K2.1 c7) v hv;have hE:=EsOk.rep (S:=m.S) (w:=w) n.toNat c1 hze hpos;obtain⟨m',p1,p2⟩:=pI (d:=d) (e:=e) hS hpos (by simp[maxLen];omega) hE;have hlen:(List.replicate n.toNat (ez.map AV.lit)).length=n.toNat:=by simp
   rw[hlen]at p2;have hzc:ze.cells=ez.toArray:=by simp[<-i5]
   have hrun:(Instr.makeSlice t (.int k n) (.int k' n)).run P w= .ok (.slice (some ⟨w.heap.size,0,none⟩) n.toNat n.toNat) (w.alloc (.cells ((Array.range (n.toNat*esz)).map (ez.toArray[· % ez.toArray.size]!)) e)):=by
    have:=run_make (P:=P) w t e ie ze hu i1 i2 k k' n n (by omega) (OV _) (by rw[i4];omega) (by omega);rw[hzc,i3]at this;exact this
   refine⟨_,_,m',_,?_, .inl rfl,p1,p2⟩;have hcells:((Array.range (n.toNat*esz)).map (ez.toArray[· % ez.toArray.size]!))=((Array.range (n.toNat*esz)).map (ez.toArray[· % ez.toArray.size]!)).toList.toArray:=LU.symm;rw[hcells]at hrun;unfold execOp;simp only[ho,hl,hc,Ks,hrun,Kc,LO]
 ·simp[Rd.run]at h
theorem gA {src dst:TypeId} {y:Operand} (ho:o.op= .convert src dst y) {v:Value} {w':World} (h:(convert src dst (a.eval y)).run P w= .ok v w'):(execOp a.eval o).run P w= .ok (.value v) w':=by
 unfold execOp;simp only[ho,Ks,h,Kc,LO]
theorem pY: ∀(es:List (List AV)) (l:List UInt8),bytesOf es=some l->es.length=l.length/\ ∀(i:Nat) (b:UInt8),l[i]? =some b->cellAt es i 0=some (.lit (.int .u8 (b.toNat:Int)))
 | [],l,h=>by
   simp only[bytesOf,KX]at h;subst h;exact⟨rfl,fun i b hb=>by simp at hb⟩
 | e::es,l,h=>by
   simp only[bytesOf]at h;split at h
   ·rename_i b l' hb hl;cases h;obtain⟨h1,h2⟩:=pY es l' hl;refine⟨by simp[h1],fun i c hc=> ?_⟩;cases i with
    | zero=>
      simp only[LM,KX]at hc;subst hc;unfold byteOf at hb;split at hb
      ·rename_i n;split at hb
       ·rename_i hn;cases hb;simp only[cellAt,LM,LX]
        congr 3
        simp;omega
       ·cases hb
      ·cases hb
    | succ i=>
      have:=h2 i c (by simpa using hc);unfold cellAt at this |-;simpa using this
   ·cases h
theorem sG (l:List UInt8) (i j:Nat) (c:AV) (h:cellAt (l.map bAV) i j=some c):j=0/\ ∃b,l[i]? =some b/\c= .lit (.int .u8 (b.toNat:Int)):=by
 unfold cellAt at h;rw[K5]at h;cases hb:l[i]? with
 |none=>rw[hb]at h;cases h
 | some b=>
   rw[hb]at h;cases j with
   |zero=>simp[bAV]at h;exact⟨rfl,b,rfl,h.symm⟩
   |succ j=>simp[bAV]at h
theorem tW {src dst:TypeId} {y:Operand} (ho:o.op= .convert src dst y) (hS:Sim x s a w m) (h:(aT P x.env s.f o).run s=some out):dU P x s a w o out:=by
 have hy:=ah hS y;unfold aT at h;simp only[ho]at h;unfold tz at h;split at h
 ·rename_i k n d k' n' z' e1 hd1 hd2;simp only[Rd.run,KX]at h;subst h;rw[e1]at hy;have hy:=hy.lit_;have hu2:=mi hd2;obtain⟨i1,td1,z1,hi1,hu1,_⟩:=fV hd1;refine .same hS (v:= .int k' (k'.wrap n)) (gA ho ?_) rfl (.val (.lit _));rw[hy];cases td1<;>simp[convert,Ka hu1,Ka hu2,Conv.intToInt]
 ·rename_i str d n' z' e1 hd1 hd2;simp only[Rd.run,KX]at h;subst h;rw[e1]at hy;have hy:=hy.lit_;have hu2:=ce hd2;obtain⟨i1,td1,z1,hi1,hu1,_⟩:=fV hd1;refine .same hS (v:= .string str) (gA ho ?_) rfl (.val (.lit _));rw[hy];cases td1<;>simp[convert,Ka hu1,Ka hu2]
 ·rename_i str n1 z1 e esz eb ez n2 z2 e1 hd1 hd2;rw[e1]at hy;have hy:=hy.lit_;split at h
  ·rename_i n3 z3 hd3;simp only[Rd.run,KX]at h;subst h;obtain⟨hu2,_⟩:=ay hd2;have hu1:=ce hd1;have hu3:=mi hd3;obtain⟨c,w1,hrun,hb,hr⟩:=Bw (P:=P) w src dst e (bG str) hu1 hu2 hu3;rw[<-qg]at hrun;obtain⟨S',hS'⟩: ∃S':Nat->Nat->Prop,S'=fun b o=>m.S b o\/(b=w.heap.size/\b<w1.heap.size/\o< (bG str).length):=⟨_,rfl⟩
   have hS2:Sim x s a w1 ⟨S',m.ρ⟩:=hS.move rfl (hb.mono hS.bel.size) (fun b o hh=>⟨by rw[hS'];exact .inl hh,hb.stay (hS.low b o hh)⟩) (fun b o hh=>by
    rw[hS']at hh;rcases hh with hh|⟨rfl,hh,_⟩
    ·exact .inl hh
    ·exact .inr ⟨K8 _,hh⟩) (fun r row hrr g hg=>by
    exact hb.block g ((hS.rows r row hrr).blk hg).2) (fun b hf=>hb.block b (hS.fxlt hf))
   refine⟨_,w1,⟨S',m.ρ⟩,_,gA ho (by rw[hy];exact hrun), .inl rfl,hS2, .val ?_⟩
   have hlt:0< (bG str).length->w.heap.size<w1.heap.size:=fun h0=>by
    obtain⟨b,off,e2,_,hc⟩:=hr.2 h0;cases e2;have:=hc 0 _ (by rw[KV (by rw[Jn];exact h0)]);rcases Mt w.heap.size w1.heap.size with q|q
    ·exact q
    ·simp[World.cell?,NE q]at this
   have hcap:(bG str).length<=c:=by
    have:=run_bytes_of_string w src dst e str hu1 hu2 hu3;rw[hrun]at this;injection this with e3 _
    injection e3 with _ _ e4
    rw[e4, <-iw];exact PE _ _ _ _
   refine .seq _ _ c 1 _ w.heap.size 0 (fun i _=> .int .u8 (((bG str).getD i 0).toNat:Int)) (by simp) hcap (fun _=>rfl) (fun i e he=> ?_) (fun i j c' hc=> ?_) fun i j c' hc=> ?_
   ·rw[K5]at he;cases hq:(bG str)[i]? with
    |none=>rw[hq]at he;cases he
    |some b=>rw[hq]at he;cases he;rfl
   ·obtain⟨rfl,b,hb',rfl⟩:=sG _ i j c' hc;have hi:i< (bG str).length:=(KW.1 hb').1;obtain⟨b',off,e2,_,hcl⟩:=hr.2 (by omega);cases e2;refine⟨by rw[hS'];exact .inr ⟨rfl,hlt (by omega),by omega⟩,?_,rfl⟩;have hu:(bv (bG str))[i]? =some (.int .u8 (b.toNat:Int)):=by unfold bv;rw[K5,hb'];rfl
    have:=hcl i _ hu;have hg:(bG str).getD i 0=b:=by simp[List.getD,hb']
    rw[hg];simpa using this
   ·obtain⟨rfl,b,hb',rfl⟩:=sG _ i j c' hc;have hg:(bG str).getD i 0=b:=by simp[List.getD,hb']
    rw[hg];exact .lit _
  ·simp[Rd.run]at h
 ·rename_i e esz eb ez n1 z1 n2 z2 hd1 hd2 hno;split at h
  ·rename_i n3 z3 hd3;obtain⟨hu1,_⟩:=ay hd1;have hu2:=ce hd2;have hu3:=mi hd3;obtain⟨q,hq,h⟩:=run_bind h;obtain⟨r,hr,h⟩:=run_bind h;split at h
   ·rename_i hsz;cases hbs:bytesOf r.2 with
    |none=>rw[hbs]at h;simp[Rd.run]at h
    | some l=>
      rw[hbs]at h;simp only[Rd.run,KX]at h;subst h;obtain⟨S',q1,q2,q3⟩:=nQ hq hS hy;obtain⟨A,n,cap,cl,hv,hn,hA,hE0⟩:=src_ok hr q3;have hE:EsOk S' w 1 cl r.2:=hE0.resize (by rcases hsz with e|e;exact .inl e;exact .inr e);obtain⟨hl,hcell⟩:=pY r.2 l hbs;refine⟨_,w,_, .string ⟨l.toArray⟩,gA ho ?_, .inl rfl,q1, .val (.lit _)⟩;rw[hv];by_cases h0:n=0
      ·have hl0:l=[]:=LJ (by omega);subst hl0;subst h0;cases A with
       |none=>exact run_convert_bytes_nil w src e hu1 hu3 0 cap dst hu2
       |some ad=>simp[convert,Ka hu1,Ka hu2,Ka hu3,Conv.bytesToString,loadCells,loadCellsFrom];rfl
      ·obtain⟨b,p,rfl,hcl⟩:=hA (by omega)
       have hrun:=run_convert_bytes_arg (P:=P) w src e hu1 hu3 b p n cap (l.map fun b=>(b.toNat:Int)) (by simp;omega) (fun i hi=>by
        have hil:i<l.length:=by omega
        have hc:=hcell i l[i] (KV hil);obtain⟨u,h1,h2⟩:=hE.cell i 0 _ hc;cases h2;have:=hcl i _ (by simpa using h1);rw[this]
        simp[List.getD,hil]) dst hu2
       rw[hrun]
       congr 2
       unfold strOfNums
       congr 2
       rw[Mk]
       conv=>rhs;rw[<-List.map_id l]
       apply MF;intro b _;simp
   ·simp[Rd.run]at h
  ·simp[Rd.run]at h
 ·simp[Rd.run]at h
theorem tC {t:TypeId} {y:Operand} (ho:o.op= .call { callee:= .builtin .len,args:= #[y],argTypes:= #[t] }) {v:Value} (h:(Builtin.len_ #[t] o.type #[a.eval y]).run P w= .ok v w):(execOp a.eval o).run P w= .ok (.value v) w:=by
 unfold execOp;simp only[ho,resolve,invoke,builtin,Ks,LO,Kc,OP,LI,Lt,h]
theorem J9 {t:TypeId} {y:Operand} (ho:o.op= .call { callee:= .builtin .len,args:= #[y],argTypes:= #[t] }) (hS:Sim x s a w m) (h:(xl P t (gt x.env s.f y)).run s=some out):dU P x s a w o out:=by
 have hy:=ah hS y;unfold xl at h;split at h
 ·rename_i str n z e hd;rw[e]at hy;have hy:=hy.lit_;have hu:=ce hd;simp only[Rd.run,KX]at h;subst h;exact .same hS (v:= .int .i64 (bG str).length) (tC ho (by rw[hy];simp[Builtin.len_,Ka hu,goInt,iw])) rfl (.val (.lit _))
 ·rename_i r ver kt et zv n z e hd;rw[e]at hy;obtain⟨row,hrow,hver,hsz,h⟩:=run_map h;obtain⟨g,ents,clock,hv,_,_,hb,hD,_⟩:=hS.mapAt hy hrow hver hsz;have hl:=hD.1;obtain⟨hu,_⟩:=qC hd;simp only[Rd.run,KX]at h;subst h;exact .same hS (v:= .int .i64 row.es.length) (tC ho (by rw[hv];simp[Builtin.len_,Ka hu,goInt,L5 hb,hl])) rfl (.val (.lit _))
 ·rename_i e esz eb ez n z _ hd;obtain⟨hu,_⟩:=ay hd;obtain⟨q,hq,h⟩:=run_bind h;simp only[Rd.run,KX]at h;subst h
  have key: ∃A c,a.eval y= .slice A q.2.length c:=by
   generalize gt x.env s.f y=cy at*;cases cy with
   | seq sz es=>
     simp only[iq,Rd.run,KX]at hq;subst hq;have hr:=hy.seq_;generalize a.eval y=vy at*;cases hr with
     |seq A n cap sz es b o u hn=>exact⟨A,cap,by rw[hn]⟩
   | lit u=>
     have:=hy.lit_;rw[this];cases u with
     | slice A n c=>
       cases n with
       |zero=>simp only[iq,Rd.run,KX]at hq;subst hq;exact⟨A,c,rfl⟩
       |succ n=>simp[iq,Rd.run]at hq
     |_=>simp[iq,Rd.run]at hq
   | row r ver=>
     simp only[iq]at hq;obtain⟨row,hrow,hver,hrz,hq⟩:=dV hq;simp only[Rd.run,KX]at hq;subst hq;rw[hy.row_.2 hver row hrow];obtain⟨xs,k1,_⟩:=((hS.rows r row hrow).cells hrz).own;obtain⟨A,c,e,_⟩:=uc k1;exact⟨A,c,e⟩
   |_=>simp[iq,Rd.run]at hq
  obtain⟨A,c,hv⟩:=key;exact .same hS (v:= .int .i64 q.2.length) (tC ho (by rw[hv];simp[Builtin.len_,Ka hu,goInt])) rfl (.val (.lit _))
 ·simp[Rd.run]at h
theorem J6 {ts:Array TypeId} {y z:Operand} {k:IntKind} {p q:Int} (ho:o.op= .call { callee:= .builtin .min,args:= #[y,z],argTypes:=ts }) (hS:Sim x s a w m) (hy:gt x.env s.f y= .lit (.int k p)) (hz:gt x.env s.f z= .lit (.int k q)):
 dU P x s a w o ⟨.lit (.int k (if q<p then q else p)),[]⟩:=by
 have h1:=ah hS y;have h2:=ah hS z;rw[hy]at h1;rw[hz]at h2;have h1:=h1.lit_;have h2:=h2.lit_;refine .same hS (v:= .int k (if q<p then q else p)) ?_ rfl (.val (.lit _));unfold execOp;simp[ho,resolve,invoke,builtin,h1,h2,Builtin.min_,Builtin.min2]
theorem J8 {ts:Array TypeId} {y z:Operand} {k:IntKind} {p q:Int} (ho:o.op= .call { callee:= .builtin .max,args:= #[y,z],argTypes:=ts }) (hS:Sim x s a w m) (hy:gt x.env s.f y= .lit (.int k p)) (hz:gt x.env s.f z= .lit (.int k q)):
 dU P x s a w o ⟨.lit (.int k (if p<q then q else p)),[]⟩:=by
 have h1:=ah hS y;have h2:=ah hS z;rw[hy]at h1;rw[hz]at h2;have h1:=h1.lit_;have h2:=h2.lit_;refine .same hS (v:= .int k (if p<q then q else p)) ?_ rfl (.val (.lit _));unfold execOp;simp[ho,resolve,invoke,builtin,h1,h2,Builtin.max_,Builtin.max2]
theorem ul (hS:Sim x s a w m): ∀(l:List Operand) (vs:List Value),qD (l.map (gt x.env s.f))=some vs->l.map a.eval=vs
 |[],vs,h=>by cases h;rfl
 | y::l,vs,h=>by
   have hy:=ah hS y;rw[LI]at h;cases hg:gt x.env s.f y with
   | lit v=>
     rw[hg]at h hy;unfold qD at h;obtain⟨vs',h1,rfl⟩:=L1.1 h;rw[LI,ul hS l vs' h1,hy.lit_]
   |_=>rw[hg]at h;cases h
theorem qV {fn:Fn} {first captured:Array Operand} (ho:o.op= .makeFunc fn first captured) (hS:Sim x s a w m) (h:(aT P x.env s.f o).run s=some out):dU P x s a w o out:=by
 unfold aT at h;simp only[ho]at h;cases fn with
 | func g=>
   simp only at h;split at h
   ·rename_i hc;have hf:first= #[]:=by simpa using hc.1
    subst hf;obtain rfl:=ax h;refine .same hS (v:= .func (.func g) #[] (captured.map a.eval)) ?_ rfl ?_
    ·unfold execOp;simp[ho,Instr.makeFunc]
    ·have:=RL.clo (w:=w) (m:=m) (s:=s) g (captured.toList.map a.eval) (captured.toList.map (gt x.env s.f)) (by simp) fun i v c hv hc=>by
      rw[K5]at hv hc;cases hi:captured.toList[i]? with
      |none=>rw[hi]at hv;cases hv
      |some y=>rw[hi]at hv hc;cases hv;cases hc;exact ah hS y
     rwa [show (captured.toList.map a.eval).toArray=captured.map a.eval by rw[<-OQ,LU]]at this
   ·rename_i hc;split at h
    ·rename_i hf0;have hf:first= #[]:=by simpa using hf0
     have hcap:captured= #[]:=by
      by_cases e:captured.isEmpty=true
      ·simpa using e
      ·exact absurd ⟨hf0,by simpa using e⟩ hc
     subst hf hcap;obtain rfl:=ax h;refine .same hS (v:= .func (.func g) #[] #[]) ?_ rfl (.val (.lit _));unfold execOp;simp[ho,Instr.makeFunc]
    ·unfold lM at h;split at h
     ·rename_i vs e1 e2;have hcap:captured= #[]:=by simpa using e1
      subst hcap;obtain rfl:=ax h;refine .same hS (v:= .func (.func g) (first.map a.eval) #[]) ?_ rfl ?_
      ·unfold execOp;simp[ho,Instr.makeFunc]
      ·rw[show first.map a.eval=(first.toList.map a.eval).toArray by rw[<-OQ,LU],ul hS _ vs e2];exact .val (.lit _)
     ·simp[Rd.run]at h
 |_=>simp[Rd.run]at h
theorem rl {t:TypeId} {y:Operand} (ho:o.op= .call { callee:= .builtin .clear,args:= #[y],argTypes:= #[t] }) {v:Value} {w':World} (h:(Builtin.clear_ #[t] o.type #[a.eval y]).run P w= .ok v w'):(execOp a.eval o).run P w= .ok (.value v) w':=by
 unfold execOp;simp[ho,resolve,invoke,builtin,h]
theorem qQ (zs:List Value) (n:Nat):(Builtin.zeroCells zs.toArray n).toList=(List.replicate n zs).flatten:=by
 have hlen:(List.replicate n zs).flatten.length=n*zs.length:=by simp
 apply LQ;intro k;by_cases hk:k<n*zs.length
 ·have hpos:0<zs.length:=Nat.pos_of_ne_zero fun e=>by rw[e]at hk;omega
  have hm:k%zs.length<zs.length:=N9 _ hpos
  have h1:(Builtin.zeroCells zs.toArray n).toList[k]? =some zs[k%zs.length]:=by
   simp[Builtin.zeroCells,hk,hm]
  have h2:(List.replicate n zs).flatten[k/zs.length*zs.length+k%zs.length]? =some zs[k%zs.length]:=by
   have hd:k/zs.length<n:=(Nat.div_lt_iff_lt_mul hpos).2 hk;refine kB (List.replicate n zs) (fun l hl=>by rw[Nn hl]) _ _ zs _ (by simp[hd]) (KV hm)
  rw[h1, <-h2,Nf]
 ·rw[K7 (by simp[Builtin.zeroCells];omega),K7 (by omega)]
theorem HP {t:TypeId} {y:Operand} (ho:o.op= .call { callee:= .builtin .clear,args:= #[y],argTypes:= #[t] }) (hS:Sim x s a w m) (h:(lR P t (gt x.env s.f y)).run s=some out):dU P x s a w o out:=by
 have hy:=ah hS y;unfold lR at h;split at h
 ·rename_i r ver lo e esz eb ez n0 z0 ex hd;rw[ex]at hy;obtain⟨hu,ie,ze,i1,i2,i3,i4,i5⟩:=ay hd;simp only[Rd.run]at h;by_cases hesc:s.esc r=true
  ·rw[K0 hesc]at h;simp[Rd.run]at h
  have hesc:s.esc r=false:=by simpa using hesc
  rw[KZ (by simp[hesc])]at h;obtain⟨row,hr,hver,hrz,h⟩:=dV h;split at h
  ·rename_i hc;obtain⟨⟨c1,c2,c3⟩,c4,c5⟩:=hc;simp only[Rd.run,KX]at h;subst h;have hv:=hy.sub_.2 hver row hr;have k:=(hS.rows r row hr).cells hrz;obtain⟨xs,k1,k2,k3⟩:=k.own;have hz1: ∀v∈ez,v.oneCell'=true:=fun v hv=>(K2.1 c3) v hv;have hzv:=jZ (P:=P) i1 i2;have hxl:=k1.1
   have hes: ∀(i:Nat) (e:List AV),(row.es.take lo++List.replicate (row.es.length-lo) (ez.map AV.lit))[i]? =some e->(i<lo/\row.es[i]? =some e)\/(lo<=i/\i<row.es.length/\e=ez.map .lit):=fun i e he=>by
    rw[List.getElem?_append,Kf,Mg c5]at he;split at he
    ·rename_i hi;rw[Kz,K0 hi]at he;exact .inl ⟨hi,he⟩
    ·rename_i hi;rw[NR]at he;split at he
     ·cases he;exact .inr ⟨by omega,by omega,rfl⟩
     ·cases he
   have hlen:(row.es.take lo++List.replicate (row.es.length-lo) (ez.map AV.lit)).length=row.es.length:=by simp;omega
   have hzl: ∀(i:Nat) (e:List AV),(row.es.take lo++List.replicate (row.es.length-lo) (ez.map AV.lit))[i]? =some e->e.length=row.sz:=fun i e he=>by
    rcases hes i e he with⟨_,q⟩|⟨_,_,rfl⟩
    ·exact k.len i e q
    ·simp;omega
   have hze:ze.cells=ez.toArray:=by rw[<-i5]
   by_cases hn:row.es.length=lo
   ·
    have hrun:(Builtin.clear_ #[t] o.type #[a.eval y]).run P w= .ok (.tuple #[]) w:=by
     rw[hv];rcases k1.2 with⟨e1,e0⟩|⟨g,cap,cur,e1,_⟩
     ·rw[e1];simp[Builtin.clear_,Ka hu,cutV]
     ·rw[e1];simp only[cutV,hn,Ow];split
      ·simp[Builtin.clear_,Ka hu]
      ·simp[Builtin.clear_,Ka hu]
    have hrow:({ row with es:=row.es.take lo++List.replicate (row.es.length-lo) (ez.map AV.lit) } :Row)=row:=by
     rw[<-hn,Ow,List.replicate_zero,Lm,Kp]
    have hst:apps ([.set r { row with es:=row.es.take lo++List.replicate (row.es.length-lo) (ez.map AV.lit) }]:List Eff) s=s:=by
     rw[hrow];simp only[apps,Eff.app,St.setRow]
     have:upd s.rows r (some row)=s.rows:=by
      funext q
      by_cases e:q=r
      ·rw[e,upd_same,hr]
      ·rw[upd_ne _ _ _ e]
     rw[this]
    refine⟨_,w,m, .tuple #[],rl ho hrun, .inl rfl,by rw[hst];exact hS, .val (.any _)⟩
   ·rcases k1.2 with⟨e1,e0⟩|⟨g,cap,cur,e1,e2,e3,e4,e5,e6,e7⟩
    ·omega
    have hown:(m.ρ r).ownBlock=some g:=by rw[e1];rfl
    have hnS:=k.fresh hesc g hown;have hcur:row.es.length*row.sz<=cur.size:=by rw[e6];exact LE _ e4
    obtain⟨vs,hvs⟩: ∃vs:List Value,vs=(List.replicate (row.es.length-lo) ez).flatten:=⟨_,rfl⟩;have hvl:vs.length=(row.es.length-lo)*row.sz:=by rw[hvs];simp[c2,c1]
    have hv1: ∀v∈vs,v.oneCell'=true:=fun v hv=>by
     rw[hvs]at hv;obtain⟨l,hl,hvl⟩:=Oo.1 hv;rw[Nn hl]at hvl;exact hz1 v hvl
    have hfit:lo*row.sz+vs.length=row.es.length*row.sz:=by rw[hvl, <-Ll];congr 1;omega
    have hst:=Of P g (lo*row.sz) row.e vs 0 cur w e3 (by omega) hv1;simp only[Md]at hst
    have hrun:(Builtin.clear_ #[t] o.type #[a.eval y]).run P w= .ok (.tuple #[]) (w.setRow g (splice cur.toList (lo*row.sz) vs).toArray):=by
     rw[hv,e1];simp only[cutV];rw[KZ (by omega),Kg,sO,Lc];obtain⟨q,hq⟩: ∃q,row.es.length-lo=q+1:=⟨row.es.length-lo-1,by omega⟩;have hzz:(Builtin.zeroCells ze.cells (row.es.length-lo)).toList=vs:=by rw[hze,qQ,hvs]
     rw[hq]at hzz |-;simp[Builtin.clear_,Ka hu,hzv,hzz,hst,splice]
    have hb:Below x.w.heap.size w (w.setRow g (splice cur.toList (lo*row.sz) vs).toArray):=⟨rfl,rfl,rfl,by simp,fun q hq=>MX w g q _ (by omega)⟩;have hS': ∀b o,m.S b o->m.S b o/\Stay w (w.setRow g (splice cur.toList (lo*row.sz) vs).toArray) b o:=fun b o hh=>⟨hh, .block (MX w g b _ fun e=>hnS o (e ▸ hh))⟩;have hx: ∀q,q<row.es.length*row.sz->xs[q]? =cur.toList[q]? :=fun q hq=>by rw[<-e7,Kz,K0 hq]
    refine⟨_,_,m, .tuple #[],rl ho hrun, .inl rfl,?_, .val (.any _)⟩;refine hS.reset r row _ hr rfl hb (fun b o hh=>(hS' b o hh).2) (fun q row1 hne hq gq hgq=>MX w g gq _ (fun e=>hS.inj r q row row1 hr hq (MJ hne) g hown (e ▸ hgq))) ?_ fun b hf=>MX w g b _ fun e=>hS.nofx r row hr g hown (e ▸ hf);refine .inl ⟨k.pos,hzl,⟨splice xs (lo*row.sz) vs,⟨?_, .inr ⟨g,cap,_,by rw[hlen];exact e1,e2,NU w g cur _ row.e _ e3,by rw[hlen];exact e4,e5,?_,?_⟩⟩,?_,?_⟩,fun he=> ?_,fun gq hgq o _=> ?_,fun _ gq hgq o=> ?_⟩
    ·rw[cz _ _ _ (by omega),hlen];exact hxl
    ·show (splice cur.toList (lo*row.sz) vs).toArray.size=cap*row.sz;rw[MQ,cz _ _ _ (by simp;omega),L9,e6]
    ·show (splice cur.toList (lo*row.sz) vs).toArray.toList.take ((row.es.take lo++List.replicate (row.es.length-lo) (ez.map AV.lit)).length*row.sz)=splice xs (lo*row.sz) vs;apply LQ;intro q;rw[hlen,Nk,Kz,bb cur.toList _ _ (by simp;omega),bb xs _ _ (by omega)];split
     ·rename_i hq;split
      ·exact(hx q hq).symm
      ·split
       ·rfl
       ·exact(hx q hq).symm
     ·rename_i hq;rw[KZ (by omega),KZ (by omega),K7 (by omega)]
    ·intro u hu;simp only[splice,Kt]at hu;rcases hu with(hu|hu)|hu
     ·exact k2 u (MK hu)
     ·exact hv1 u hu
     ·exact k2 u (Mi hu)
    ·intro i j c hcc;have hlt:=du hzl hcc;rw[hlen]at hlt;show ∃u,(splice xs (lo*row.sz) vs)[i*row.sz+j]? =some u/\(if row.pure=true then _ else _);simp only[c4,L4];rw[bb _ _ _ (by omega)];unfold cellAt at hcc;cases he:(row.es.take lo++List.replicate (row.es.length-lo) (ez.map AV.lit))[i]? with
     |none=>rw[he]at hcc;cases hcc
     | some e=>
       rw[he]at hcc;have hcc:e[j]? =some c:=hcc;rcases hes i e he with⟨q1,q2⟩|⟨q1,q2,rfl⟩
       ·obtain⟨u,u1,u2⟩:=k3 i j c (by unfold cellAt;rw[q2];exact hcc);rw[K0 c4]at u2;have:=jk (n:=lo) q1 hlt.2;exact⟨u,by rw[K0 this];exact u1,u2.mono hS'⟩
       ·rw[K5]at hcc;cases hj:ez[j]? with
        |none=>rw[hj]at hcc;cases hcc
        | some v=>
          rw[hj]at hcc;cases hcc;refine⟨v,?_, .lit v⟩;have h1:lo*row.sz<=i*row.sz:=LE _ q1;have h2:=jk q2 hlt.2;rw[KZ (by omega),K0 (by omega),hvs];have:=kB (List.replicate (row.es.length-lo) ez) (fun l hl=>by rw[Nn hl,c2,c1]) (i-lo) j ez v (by rw[NR,K0 (by omega)]) hj;rw[<-this]
          congr 1
          rw[Nat.sub_mul];omega
    ·simp only[St.setRow]at he;rw[hesc]at he;cases he
    ·rw[hown]at hgq;cases hgq;exact hnS o
    ·rw[hown]at hgq;cases hgq;exact hnS o
  ·simp[Rd.run]at h
 ·simp[Rd.run]at h
theorem Bn (hS:Sim x s a w m) (h:(aT P x.env s.f o).run s=some out):dU P x s a w o out:=by
 cases ho:o.op with
 |move y=>exact Al ho hS h
 |assign y=>exact vv ho hS h
 |pick c y z=>exact Ak ho hS h
 |alloc t=>exact yG ho hS h
 |box t y=>exact EQ ho hS h
 |build t ps=>exact yE ho hS h
 |buildSlice t n ps=>exact ni ho hS h
 |load t y=>exact Am ho hS h
 |store t y z=>exact yA ho hS h
 |nilCheck y=>exact qT ho hS h
 |binOp op t y z ty=>exact yF ho hS h
 |unOp op t y=>exact Aj ho hS h
 |convert src dst y=>exact tW ho hS h
 |makeInterface t y=>exact kH ho hS h
 |makeSlice t l c=>exact pj ho hS h
 | makeMap t rs=>
   cases rs with
   |none=>exact tQ ho hS h
   |some y=>unfold aT at h;simp[ho,Rd.run]at h
 |lookup t y k ok=>exact vu ho hS h
 |makeFunc fn first captured=>exact qV ho hS h
 |mapUpdate t y k v=>exact pg ho hS h
 |mapEntry t y k=>exact qU ho hS h
 |entryStore t y n v=>exact nh ho hS h
 | slice t y lo hi mx=>
   cases mx with
   |none=>exact yB ho hS h
   |some mx=>exact Ao ho hS h
 |fieldAddr t y i=>exact pm ho hS h
 |field t y i=>exact yD ho hS h
 |indexAddr t y i=>exact pk ho hS h
 |index t y i=>exact yC ho hS h
 |extract y i=>exact tV ho hS h
 | call c=>
   obtain⟨callee,args,argTypes⟩:=c;cases callee with
   | builtin b=>
     unfold aT at h;simp only[ho]at h;split at h
     ·rename_i y t e1 e2;have ea:args= #[y]:=by rw[<-LU (xs:=args),e1]
      have et:argTypes= #[t]:=by rw[<-LU (xs:=argTypes),e2]
      subst ea et;exact J9 ho hS h
     ·rename_i y z t t' e1 e2;have ea:args= #[y,z]:=by rw[<-LU (xs:=args),e1]
      have et:argTypes= #[t,t']:=by rw[<-LU (xs:=argTypes),e2]
      subst ea et;split at h
      ·rename_i e;subst e;exact Ff ho hS h
      ·simp[Rd.run]at h
     ·rename_i y z e1;have ea:args= #[y,z]:=by rw[<-LU (xs:=args),e1]
      subst ea;unfold Bp at h;split at h
      ·rename_i k p k' q ey ez;split at h
       ·rename_i e;subst e;obtain rfl:=ax h;exact J6 ho hS ey ez
       ·simp[Rd.run]at h
      ·simp[Rd.run]at h
     ·rename_i y z e1;have ea:args= #[y,z]:=by rw[<-LU (xs:=args),e1]
      subst ea;unfold Bq at h;split at h
      ·rename_i k p k' q ey ez;split at h
       ·rename_i e;subst e;obtain rfl:=ax h;exact J8 ho hS ey ez
       ·simp[Rd.run]at h
      ·simp[Rd.run]at h
     ·rename_i y t e1 e2;have ea:args= #[y]:=by rw[<-LU (xs:=args),e1]
      have et:argTypes= #[t]:=by rw[<-LU (xs:=argTypes),e2]
      subst ea et;exact HP ho hS h
     ·rename_i y z t t' e1 e2;have ea:args= #[y,z]:=by rw[<-LU (xs:=args),e1]
      have et:argTypes= #[t,t']:=by rw[<-LU (xs:=argTypes),e2]
      subst ea et;exact F3 ho hS h
     ·simp[Rd.run]at h
   |value f=>unfold aT at h;simp[ho,Rd.run]at h
   |invoke r n=>unfold aT at h;simp[ho,Rd.run]at h
 |_=>unfold aT at h;simp[ho,Rd.run]at h
end
end
section
def Rd.log {α:Type} :Rd α->St->List Nat×List Nat
 | .ret _,_=>([],[])
 | .fail,_=>([],[])
 | .look r k,s=>(r::((k (s.rows r) (s.vs r)).log s).1,((k (s.rows r) (s.vs r)).log s).2)
 | .esc r k,s=>(((k (s.esc r)).log s).1,r::((k (s.esc r)).log s).2)
theorem Rd.frame {α:Type} (q:Rd α) (s s':St) (h1: ∀r∈(q.log s).1,s'.rows r=s.rows r/\s'.vs r=s.vs r) (h2: ∀r∈(q.log s).2,s'.esc r=s.esc r):q.run s'=q.run s/\q.log s'=q.log s:=by
 induction q with
 |ret a=>exact⟨rfl,rfl⟩
 |fail=>exact⟨rfl,rfl⟩
 | look r k ih=>
   obtain⟨e1,e2⟩:=h1 r (by simp[Rd.log]);have:=ih (s.rows r) (s.vs r) (fun q hq=>h1 q (by simp[Rd.log,hq])) (fun q hq=>h2 q (by simpa[Rd.log]using hq));simp only[Rd.run,Rd.log,e1,e2,this.1,this.2,Kn]
 | esc r k ih=>
   have e1:=h2 r (by simp[Rd.log]);have:=ih (s.esc r) (fun q hq=>h1 q (by simpa[Rd.log]using hq)) (fun q hq=>h2 q (by simp[Rd.log,hq]));simp only[Rd.run,Rd.log,e1,this.1,this.2,Kn]
def wrs:List Eff->List Nat
 |[]=>[]
 | .renew r _::l | .grow r _::l | .set r _::l=>r::wrs l
 | .show _::l=>wrs l
def wes:List Eff->List Nat
 |[]=>[]
 | .show r::l=>r::wes l
 |_::l=>wes l
structure Foot where
 rd:List Nat
 re:List Nat
 wr:List Nat
 we:List Nat
def eD:Foot:=⟨[],[],[],[]⟩
def qE (q:Rd Out) (s:St) (out:Out):Foot:=⟨(q.log s).1,(q.log s).2,wrs out.effs,wes out.effs⟩
def disj (a b:List Nat):Bool:=a.all fun x=> !b.contains x
def Foot.apart (a b:Foot):Bool:=disj a.wr (b.rd++b.re++b.wr++b.we)&&disj b.wr (a.rd++a.re++a.wr++a.we)&&disj a.we b.re&&disj b.we a.re
theorem dr {a b:List Nat} (h:disj a b=true) {r:Nat} (ha:r∈a) (hb:r∈b):False:=by
 have:=(K2.1 h) r ha;simp[hb]at this
/-! Effects change places -/
theorem eC {s s':St} (h1:s.f=s'.f) (h2:s.rows=s'.rows) (h3:s.vs=s'.vs) (h4:s.esc=s'.esc):s=s':=by
 cases s;cases s';simp_all
theorem Jq (l:List Eff) (s:St):(apps l s).f=s.f:=by
 induction l generalizing s with
 |nil=>rfl
 |cons e l ih=>rw[apps,ih];cases e<;>rfl
theorem Fc (l:List Eff) (s:St) (r:Nat) (h:r∉wrs l):(apps l s).rows r=s.rows r/\(apps l s).vs r=s.vs r:=by
 induction l generalizing s with
 |nil=>exact⟨rfl,rfl⟩
 | cons e l ih=>
   cases e with
   | renew q row=>
     simp only[wrs,Kk,O1]at h;obtain⟨h1,h2⟩:=ih (s.renew q row false) h.2;rw[apps];exact⟨h1.trans (upd_ne _ _ _ h.1),h2.trans (upd_ne _ _ _ h.1)⟩
   | grow q row=>
     simp only[wrs,Kk,O1]at h;obtain⟨h1,h2⟩:=ih (s.renew q row (s.esc q)) h.2;rw[apps];exact⟨h1.trans (upd_ne _ _ _ h.1),h2.trans (upd_ne _ _ _ h.1)⟩
   | set q row=>
     simp only[wrs,Kk,O1]at h;obtain⟨h1,h2⟩:=ih (s.setRow q row) h.2;rw[apps];exact⟨h1.trans (upd_ne _ _ _ h.1),h2⟩
   | «show» q=>
     simp only[wrs]at h;obtain⟨h1,h2⟩:=ih (s.show q) h;rw[apps];exact⟨h1,h2⟩
theorem HX (l:List Eff) (s:St) (r:Nat) (h:r∉wrs l) (h':r∉wes l):(apps l s).esc r=s.esc r:=by
 induction l generalizing s with
 |nil=>rfl
 | cons e l ih=>
   cases e with
   | renew q row=>
     simp only[wrs,wes,Kk,O1]at h h';rw[apps];exact(ih (s.renew q row false) h.2 h').trans (upd_ne _ _ _ h.1)
   | grow q row=>
     simp only[wrs,wes,Kk,O1]at h h';rw[apps];exact(ih (s.renew q row (s.esc q)) h.2 h').trans (upd_ne _ _ _ h.1)
   | set q row=>
     simp only[wrs,wes,Kk,O1]at h h';rw[apps];exact ih (s.setRow q row) h.2 h'
   | «show» q=>
     simp only[wrs,wes,Kk,O1]at h h';rw[apps];exact(ih (s.show q) h h'.2).trans (upd_ne _ _ _ h'.1)
theorem am {α:Type} (f:Nat->α) {i j:Nat} (u v:α) (h:i≠j):upd (upd f i u) j v=upd (upd f j v) i u:=by
 funext t
 simp only[upd];by_cases h1:t=j
 ·subst h1;rw[K0 rfl,KZ (MJ h),K0 rfl]
 ·rw[KZ h1];split<;>rfl
theorem HD (e:Eff) (l:List Eff) (s:St) (h1:disj (wrs [e]) (wrs l++wes l)=true) (h2:disj (wrs l) (wes [e])=true):apps l (e.app s)=e.app (apps l s):=by
 induction l generalizing s with
 |nil=>rfl
 | cons k l ih=>
   have h1':disj (wrs [e]) (wrs l++wes l)=true:=by
    refine K2.2 fun r hr=> ?_;have:=(K2.1 h1) r hr;cases k<;>simp_all[wrs,wes]
   have h2':disj (wrs l) (wes [e])=true:=by
    refine K2.2 fun r hr=> ?_;exact(K2.1 h2) r (by cases k<;>simp[wrs,hr])
   have sw:k.app (e.app s)=e.app (k.app s):=by
    have k1: ∀r∈wrs [e],∀q∈wrs [k]++wes [k],r≠q:=fun r hr q hq e'=>by
     subst e';refine dr h1 hr ?_;rcases Kt.1 hq with hq|hq
     ·cases k<;>simp_all[wrs,wes]
     ·cases k<;>simp_all[wrs,wes]
    have k2: ∀r∈wrs [k],∀q∈wes [e],r≠q:=fun r hr q hq e'=>by
     subst e';refine dr h2 ?_ hq;cases k<;>simp_all[wrs]
    cases e with
    | renew r row=>
      cases k with
      | renew q row'=>
        have hne:r≠q:=k1 r (by simp[wrs]) q (by simp[wrs]);exact eC rfl (am _ _ _ hne) (by simp only[Eff.app,St.renew,upd_ne _ _ _ hne,upd_ne _ _ _ (MJ hne)];exact am _ _ _ hne) (am _ _ _ hne)
      | grow q row'=>
        have hne:r≠q:=k1 r (by simp[wrs]) q (by simp[wrs]);exact eC rfl (am _ _ _ hne) (by simp only[Eff.app,St.renew,upd_ne _ _ _ hne,upd_ne _ _ _ (MJ hne)];exact am _ _ _ hne) (by simp only[Eff.app,St.renew,upd_ne _ _ _ (MJ hne)];exact am _ _ _ hne)
      | set q row'=>
        have hne:r≠q:=k1 r (by simp[wrs]) q (by simp[wrs]);exact eC rfl (am _ _ _ hne) rfl rfl
      | «show» q=>
        have hne:r≠q:=k1 r (by simp[wrs]) q (by simp[wes]);exact eC rfl rfl rfl (am _ _ _ hne)
    | grow r row=>
      cases k with
      | renew q row'=>
        have hne:r≠q:=k1 r (by simp[wrs]) q (by simp[wrs]);exact eC rfl (am _ _ _ hne) (by simp only[Eff.app,St.renew,upd_ne _ _ _ hne,upd_ne _ _ _ (MJ hne)];exact am _ _ _ hne) (by simp only[Eff.app,St.renew,upd_ne _ _ _ hne];exact am _ _ _ hne)
      | grow q row'=>
        have hne:r≠q:=k1 r (by simp[wrs]) q (by simp[wrs]);exact eC rfl (am _ _ _ hne) (by simp only[Eff.app,St.renew,upd_ne _ _ _ hne,upd_ne _ _ _ (MJ hne)];exact am _ _ _ hne) (by simp only[Eff.app,St.renew,upd_ne _ _ _ hne,upd_ne _ _ _ (MJ hne)];exact am _ _ _ hne)
      | set q row'=>
        have hne:r≠q:=k1 r (by simp[wrs]) q (by simp[wrs]);exact eC rfl (am _ _ _ hne) rfl rfl
      | «show» q=>
        have hne:r≠q:=k1 r (by simp[wrs]) q (by simp[wes]);exact eC rfl rfl rfl (by simp only[Eff.app,St.renew,St.show,upd_ne _ _ _ hne];exact am _ _ _ hne)
    | set r row=>
      cases k with
      | renew q row'=>
        have hne:r≠q:=k1 r (by simp[wrs]) q (by simp[wrs]);exact eC rfl (am _ _ _ hne) rfl rfl
      | grow q row'=>
        have hne:r≠q:=k1 r (by simp[wrs]) q (by simp[wrs]);exact eC rfl (am _ _ _ hne) rfl rfl
      | set q row'=>
        have hne:r≠q:=k1 r (by simp[wrs]) q (by simp[wrs]);exact eC rfl (am _ _ _ hne) rfl rfl
      | «show» q=>rfl
    | «show» r=>
      cases k with
      | renew q row'=>
        have hne:q≠r:=k2 q (by simp[wrs]) r (by simp[wes]);exact eC rfl rfl rfl (am _ _ _ (MJ hne))
      | grow q row'=>
        have hne:q≠r:=k2 q (by simp[wrs]) r (by simp[wes]);exact eC rfl rfl rfl (by simp only[Eff.app,St.renew,St.show,upd_ne _ _ _ hne];exact am _ _ _ (MJ hne))
      |set q row'=>rfl
      | «show» q=>
        by_cases hne:r=q
        ·subst hne;rfl
        ·exact eC rfl rfl rfl (am _ _ _ hne)
   show apps l (k.app (e.app s))=e.app (apps l (k.app s));rw[sw,ih _ h1' h2']
theorem Fe (a b:List Eff) (s:St) (h1:disj (wrs a) (wrs b++wes b)=true) (h2:disj (wrs b) (wes a)=true):apps b (apps a s)=apps a (apps b s):=by
 induction a generalizing s with
 |nil=>rfl
 | cons e a ih=>
   have q1:disj (wrs [e]) (wrs b++wes b)=true:=K2.2 fun r hr=>(K2.1 h1) r (by cases e<;>simp_all[wrs]);have q2:disj (wrs a) (wrs b++wes b)=true:=K2.2 fun r hr=>(K2.1 h1) r (by cases e<;>simp_all[wrs])
   have q3:disj (wrs b) (wes [e])=true:=K2.2 fun r hr=>by
    have:=(K2.1 h2) r hr;cases e<;>simp_all[wes]
   have q4:disj (wrs b) (wes a)=true:=K2.2 fun r hr=>by
    have:=(K2.1 h2) r hr;cases e<;>simp_all[wes]
   show apps b (apps a (e.app s))=apps a (e.app (apps b s));rw[ih _ q2 q4,HD e b s q1 q3]
theorem zK (l:List Eff) (s:St) (d:Option Nat) (c:AV):apps l (s.put d c)=(apps l s).put d c:=by
 cases d with
 |none=>rfl
 | some d=>
   induction l generalizing s with
   |nil=>rfl
   | cons e l ih=>
     have:e.app (s.put (some d) c)=(e.app s).put (some d) c:=by cases e<;>rfl
     rw[apps,this,ih];rfl
theorem put_comm (s:St) {d d':Option Nat} (c c':AV) (h: ∀t,d=some t->d'≠some t):(s.put d c).put d' c'=(s.put d' c').put d c:=by
 cases d with
 |none=>rfl
 | some d=>
   cases d' with
   |none=>rfl
   |some d'=>exact eC (am _ _ _ (fun e=>h d rfl (by rw[e]))) rfl rfl rfl
theorem zJ (s:St) (d:Option Nat) (c:AV):(s.put d c).rows=s.rows/\(s.put d c).vs=s.vs/\(s.put d c).esc=s.esc:=by
 cases d<;>exact⟨rfl,rfl,rfl⟩
theorem KB (s:St) (d:Option Nat) (c:AV) (t:Nat) (h:d≠some t):(s.put d c).f t=s.f t:=by
 cases d with
 |none=>rfl
 |some d=>exact upd_ne _ _ _ (fun e=>h (by rw[e]))
/-! An operation's reading hangs on its operands alone -/
theorem Bo {P:Program} {env:Env} {f f':Nat->AV} (o:Oper) (h: ∀y∈o.op.operands,gt env f y=gt env f' y):aT P env f o=aT P env f' o:=by
 obtain⟨dst,op,type,pos,after,guard⟩:=o
 have pairs: ∀ps:Array (Nat×Operand),(∀y∈(ps.toList.map (·.2)).toArray,gt env f y=gt env f' y)->(ps.toList.map fun p=>(p.1,gt env f p.2))=ps.toList.map fun p=>(p.1,gt env f' p.2):=fun ps hp=>
  MF fun p hm=>by rw[hp p.2 (by simp;exact⟨p.1,by simpa using hm⟩)]
 cases op<;>simp only[Op.operands]at h<;>simp only[aT]
 case makeMap t rs=>cases rs<;>rfl
 case makeFunc fn first captured=>
  cases fn with
  | func g=>
    have:captured.toList.map (gt env f)=captured.toList.map (gt env f'):=MF fun y hy=>h y (by simp;exact .inr (by simpa using hy));have h2:first.toList.map (gt env f)=first.toList.map (gt env f'):=MF fun y hy=>h y (by simp;exact .inl (by simpa using hy));simp only[this,h2]
  |_=>rfl
 case build t ps=>rw[pairs ps h]
 case buildSlice t n ps=>rw[pairs ps h]
 case slice t y lo hi mx=>
  cases mx with
  |some mx=>cases lo<;>cases hi<;>simp_all
  |none=>cases lo<;>cases hi<;>simp_all
 case call c=>
  obtain⟨callee,args,ts⟩:=c;cases callee with
  | builtin b=>
    simp only[Call.operands]at h;have ha: ∀y∈args.toList,gt env f y=gt env f' y:=fun y hy=>h y (by simpa using hy);simp only;split<;>simp_all
  |_=>rfl
 all_goals (first|rfl|(simp_all;done))
end

end Go.Proofs.YtbjldjekgepopaaGreatDoor