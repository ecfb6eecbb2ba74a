/- Contracts of the program's checks of a state's parent and shape: by the walk without memory. -/
import Derived.Test.YtfcdkaolcdglmaaGreatDoorP11
import Derived.Test.YtfcdkaolcdglmaaGreatDoorP6
import Derived.Test.YtfcdkaolcdglmaaGreatDoorP9
set_option maxRecDepth 100000
set_option maxHeartbeats 8000000
set_option linter.unusedSimpArgs false
set_option linter.defProp false
namespace Go.Proofs.YtfcdkaolcdglmaaGreatDoor
open Go.Proofs.Tryz
section
open Go.RowKit
attribute [go_sem] l5 th iE Row.see AV.see AV.see.seeL Option.getD_none Option.getD_some List.any_cons List.any_nil
def L6:List (Nat×Nat):=[(1000,1000),(1001,1001),(1002,1002),(1003,1003),(1004,1004),(1005,1005)]
attribute [go_sem] L6
def Us{e:Nat->Bool}{a b:Nat}(h: ∀k∈[a,b],e k=false):e a=false/\e b=false:=by simpa using h
def Vf{e:Nat->Bool}{a b c:Nat}(h: ∀k∈[a,b,c],e k=false):e a=false/\e b=false/\e c=false:=by simpa using h
def UB{e:Nat->Bool}{a b c d f g:Nat}(h: ∀k∈[a,b,c,d,f,g],e k=false):e a=false/\e b=false/\e c=false/\e d=false/\e f=false/\e g=false:=by simpa using h
def Wz{e:Nat->Bool}{a b c d f g i:Nat}(h: ∀k∈[a,b,c,d,f,g,i],e k=false):e a=false/\e b=false/\e c=false/\e d=false/\e f=false/\e g=false/\e i=false:=by simpa using h
section
variable {P:Program} {env:b7} {nt:Nat} {Q:Exit->St->Prop} {s:St}
theorem Ww{o:Oper}{f:FuncId}{args:List AV}{rest:List Ty}{s1:St}{ft:ff}{K:St->List ff->Prop}{grown:Nat->Bool}{cs:(Nat->Nat)->List AV}{pre post:(Nat->Nat)->List (Nat×Row)}{res:(Nat->Nat)->AV}(L:List (Nat×Nat))(hcon:g6 P env f (L.map (·.1)) grown cs pre post res)(k:jn P env rest s1 fun s2 fts=>K s2 (ft::fts))(hc:bH env s.f o=some (f,args):=by exact rfl)(hk:(L.map (·.1)).Nodup:=by decide)(hr:(L.map (·.2)).Nodup:=by decide)
 (h1:AV.ren.renL (UQ (fO L)) args=cs (UA L s.vs):=by simp only[go_sem]<;>rfl)(h2:zV L s.rows (pre (UA L s.vs)):=by simp only[go_sem,O8]<;>trivial)(he:zW s L:=by simp only[go_sem,O8]<;>trivial)
 (h3: ∀o:Nat->Nat,rV L grown s.vs o (post o) (post fun _=>0) L:=by intro o;simp only[go_sem,behind,O8]<;>trivial)(h4: ∀o:Nat->Nat,(res o).ren (Bk (de L) o (Pl L grown s.vs))=(res fun _=>0).ren (Bk (de L) (fun _=>0) (Pl L grown s.vs)):=by intro o;simp only[go_sem]<;>rfl)
 (h5:Is ((⟨(res fun _=>0).ren (Bk (de L) (fun _=>0) (Pl L grown s.vs)),L.map (lay grown (behind L grown s.vs (post fun _=>0)))⟩:Out).app o.dst s) s1:=by simp only[go_sem,behind];exact iR)(h6:Is (⟨L.map (·.2),L.map (·.2),o3 (L.map (lay grown (behind L grown s.vs (post fun _=>0)))),Es (L.map (lay grown (behind L grown s.vs (post fun _=>0))))⟩:ff) ft:=by simp only[go_sem,behind];exact iR):jn P env (⟨o, .always⟩::rest) s K:=iY L hc hcon hk hr h1 h2 he h3 h4 h5 h6 k
theorem iL{o:Oper}{f:FuncId}{args:List AV}{rest:List Ty}{s1:St}{ft:ff}{K:St->List ff->Prop}{grown:Nat->Bool}{cs:(Nat->Nat)->List AV}{pre post:(Nat->Nat)->List (Nat×Row)}{res:(Nat->Nat)->AV}(L:List (Nat×Nat))(hcon:g6 P env f (L.map (·.1)) grown cs pre post res)(k:jn P env rest s1 fun s2 fts=>K s2 (ft::fts))(hc:bH env s.f o=some (f,args):=by exact rfl)(hk:(L.map (·.1)).Nodup:=by decide)(hr:(L.map (·.2)).Nodup:=by decide)
 (h1:AV.ren.renL (UQ (fO L)) args=cs (UA L s.vs):=by simp only[go_sem,F]<;>rfl)(h2:zV L s.rows (pre (UA L s.vs)):=by simp only[go_sem,F,O8]<;>trivial)(he:zW s L:=by simp only[go_sem,F,O8]<;>trivial)
 (h3: ∀o:Nat->Nat,rV L grown s.vs o (post o) (post fun _=>0) L:=by intro o;simp only[go_sem,F,behind,O8]<;>trivial)(h4: ∀o:Nat->Nat,(res o).ren (Bk (de L) o (Pl L grown s.vs))=(res fun _=>0).ren (Bk (de L) (fun _=>0) (Pl L grown s.vs)):=by intro o;simp only[go_sem,F]<;>rfl)
 (h5:Is ((⟨(res fun _=>0).ren (Bk (de L) (fun _=>0) (Pl L grown s.vs)),L.map (lay grown (behind L grown s.vs (post fun _=>0)))⟩:Out).app o.dst s) s1:=by simp only[go_sem,F,behind];exact iR)(h6:Is (⟨L.map (·.2),L.map (·.2),o3 (L.map (lay grown (behind L grown s.vs (post fun _=>0)))),Es (L.map (lay grown (behind L grown s.vs (post fun _=>0))))⟩:ff) ft:=by simp only[go_sem,F,behind];exact iR):jn P env (⟨o, .always⟩::rest) s K:=iY L hc hcon hk hr h1 h2 he h3 h4 h5 h6 k
theorem VP{c:Code}{s1:St}{row:Row}{e:List AV}(r r2 i j:Nat)(ty:TypeId)(sz:Nat)(h:gu P env nt c Q s1)(hr:Is (s.rows r) (some row):=by simp only[go_sem];exact iR)(hi:row.es[i]? =some e:=by exact rfl)(hj:e[j]? =some (.lit (.slice none 0 0)):=by exact rfl)
 (h1:Is ((s.renew r2 ⟨sz,[],ty,true⟩ false).setRow r { row with es:=row.es.set i (e.set j (.row r2 (s.vs r2+1))) }) s1:=by simp only[go_sem];exact iR)(hne:r2≠r:=by decide)(hsz:0<sz:=by decide)(hrz:row.sz≠0:=by exact PD _)(hp:row.pure=false:=by exact rfl):gu P env nt c Q s:=qv r r2 i j row e ty sz hne hsz hrz hp hi hj hr h1 h
theorem nC{c:Code}{s1:St}{row:Row}{e:List AV}(r r2 i j:Nat)(ty:TypeId)(sz:Nat)(h:gu P env nt c Q s1)(hr:Is (s.rows r) (some row):=by simp only[go_sem,F];exact iR)(hi:row.es[i]? =some e:=by exact rfl)(hj:e[j]? =some (.lit (.slice none 0 0)):=by exact rfl)
 (h1:Is ((s.renew r2 ⟨sz,[],ty,true⟩ false).setRow r { row with es:=row.es.set i (e.set j (.row r2 (s.vs r2+1))) }) s1:=by simp only[go_sem,F];exact iR)(hne:r2≠r:=by decide)(hsz:0<sz:=by decide)(hrz:row.sz≠0:=by exact PD _)(hp:row.pure=false:=by exact rfl):gu P env nt c Q s:=qv r r2 i j row e ty sz hne hsz hrz hp hi hj hr h1 h
theorem rI{p:Prop}(h:p:=by
 refine aO ?_;try simp only[bR,bf, ↓reduceIte,Nat.reduceEqDiff,reduceCtorEq]
 refine sO ?_ ?_<;>simp only[go_sem,F,Sr,O8,To,Sf,AV.tuple.injEq,SJ,ne_eq]):p:=h
theorem rN{p:Prop}(h:p:=by refine JE ?_ ?_<;>simp only[go_sem,F,Sr,O8,To,Sf,AV.tuple.injEq,SJ,ne_eq]):p:=h
theorem qi{f:FuncId}{fn:Func}{c:Code}{n:Nat}{rs:Array ResultVar}{ids:List Nat}{grown:Nat->Bool}{cs:(Nat->Nat)->List AV}{pre post:(Nat->Nat)->List (Nat×Row)}{res:(Nat->Nat)->AV}(hf:P.funcs[f]? =some fn)(hc: ∀(args:Array Value)(w:World),(callFunc f args).run P w= .ok (.enter f args) w)(hn:fn.ntmps=n)(hr:fn.results=rs)
 (h: ∀vs esc,(∀k∈ids,esc k=false)->gu P env n c (Km P rs.toList ids grown vs post res) ⟨fun t=>(cs vs).getD t .any,an (pre vs),vs,esc⟩)(hb:fn.body=some c:=by exact rfl)(hl: ∀vs,(cs vs).length<=n:=by intro _;simp):g6 P env f ids grown cs pre post res:=⟨hc,fn,c,hf,hb,(by rw[hn];exact hl),(by rw[hn,hr];exact h)⟩
end
end
section
open Go.RowKit Go.Extern.Stop Go.Stop Go.Extern
end
section
open Go.RowKit
abbrev VT(k:Int):Array Value:= #[.string ⟨#[97]⟩, .int .i64 1, .int .i64 (-1), .int .i64 k, .slice none 0 0, .slice none 0 0, .string ⟨#[98]⟩, .int .i64 1, .int .i64 0, .int .i64 (-1), .slice none 0 0, .slice none 0 0]
def yp(w:World)(g:Nat)(k:Int):Prop:= ∀i v,(VT k)[i]? =some v->w.cell? ⟨g,i,none⟩=some v
def yp.below{w w':World}{g:Nat}{k:Int}(h:yp w g k)(a:Below w.heap.size w w'):yp w' g k:=fun i v b=>hH (h i v b) a
def zE.all{env:b7}{S:Nat->Nat->Prop}{w:World}(h:zE env S w):zE env (fun b _=>b<w.heap.size) w:=⟨h.inv,fun _ _ h=>h,fun g c j=>by
 obtain⟨u,a,d,e,f⟩:=h.env g c j
 exact⟨u,a,d,h.low _ _ e,f.mono fun b o i=>⟨h.low _ _ i, .rfl⟩⟩⟩
def zE.belowA{env:b7}{w w':World}(h:zE env (fun b _=>b<w.heap.size) w)(a:Below w.heap.size w w'):zE env (fun b _=>b<w'.heap.size) w':=⟨env.up _ _ h.inv a,fun _ _ h=>h,fun g c k=>by
 obtain⟨u,e,f,i,j⟩:=h.env g c k
 exact⟨u,hH e a,f,PX i a.size,j.mono fun b o (d:b<_)=>⟨PX d a.size,a.stay d⟩⟩⟩
def KR{P:Program}{env:b7}{f:FuncId}{cs:List AV}{a:AV}{w:World}{vs:List Value}(h:cy P env f cs a)(j:zE env (fun b _=>b<w.heap.size) w)(c: ∀e sz es,a≠ .own e sz es)(q:VX (fun b _=>b<w.heap.size) w vs cs):
 Calls P f vs.toArray w fun e w'=> ∃v,e= .returned v/\Below w.heap.size w w'/\zE env (fun b _=>b<w'.heap.size) w'/\RV (fun b _=>b<w'.heap.size) w' v a:=by
 obtain⟨m,n⟩:=q.at_;refine(h.calls w _ vs j m n).mono ?_;rintro e w' ⟨v,rfl,k,l,_,_,g,p⟩;refine⟨v,rfl,k,j.belowA k,?_⟩
 have i:RV l w' v a:=by
  cases a with
  |own e sz es=>exact(c e sz es rfl).elim
  |_=>exact p
 exact i.mono fun b o d=>⟨g b o d, .rfl⟩
structure fk(env:b7)(a1 a8:Addr):Prop where
 e1:env 0=some (b6 a1)
 e8:env 2=some (b6 a8)
def gw(a b:Addr)(l:List mw)(vs ss:Int):AV:=if iu l vs ss=0 then gc else if iu l vs ss=8 then dj (-1) (b6 b) else dj (-1) (b6 a)
def tX{l:List mw}(vs ss:Int)(h:32<l.length):iu l vs ss=8:=by unfold iu;rw[OL h]
def xD{l:List mw}{vs ss:Int}(h: ¬32<l.length)(a:um vs ss l 0=some 1):iu l vs ss=0:=by unfold iu;rw[OK h,OL a]
def oy{l:List mw}{vs ss:Int}(h: ¬32<l.length)(a:um vs ss l 0≠some 1):iu l vs ss=1:=by unfold iu;rw[OK h,OK a]
def vi{vs ss n:Int}{o:mw}(h:bp vs ss n o=true): ¬aC o.kind<0/\ ¬n<aC o.kind/\nk o vs ss=true:=by
 simp only[bp,OJ,OR]at h;exact⟨by omega,by omega,h.2⟩
def sD{vs ss n:Int}{o:mw}(h:bp vs ss n o=false):aC o.kind<0\/(¬aC o.kind<0/\n<aC o.kind)\/(¬aC o.kind<0/\ ¬n<aC o.kind/\nk o vs ss=false):=by
 by_cases a:aC o.kind<0
 ·exact .inl a
 by_cases b:n<aC o.kind
 ·exact .inr (.inl ⟨a,b⟩)
 refine .inr (.inr ⟨a,b,?_⟩);have c:0<=aC o.kind:=by omega
 have d:aC o.kind<=n:=by omega
 simpa[bp,c,d]using h
def gY(env:b7)(a c:Addr)(v:fk env a c)(l:List mw)(vs ss:Int):cy prog env 167 [DP l,I vs,I ss] (gw a c l vs ss):=by
 have m:=gS v.e1;have x:=gS v.e8;refine qf func167 call167 ntmps167 results167 ?_;by_cases q:32<l.length
 ·have t:(32:Int)<l.length:=by omega
  rw[show gw a c l vs ss=dj (-1) (b6 c) by unfold gw;rw[tX vs ss q];rfl];have F:=ai t x;repeat (first|refine st ?_|refine cC (bW env _ c) ?_)
  exact aR
 have t: ¬(32:Int)<l.length:=by omega
 have F:=t;repeat refine st ?_
 refine lp (D:=Nat×Int) (fun d _=>[(1,I vs),(2,I ss),(7,I d.2),(16,DP l),(17,I l.length),(18,I d.1)]) (fun _ _=>[]) (fun d _ _=>d.1<=l.length/\um vs ss l 0=um vs ss (l.drop d.1) d.2/\0<=d.2/\d.2<=d.1) (fun d=>l.length-d.1) (0,0) ⟨O6 _,rfl,Si _,Si _⟩ ?_;rintro⟨i,n⟩ H w ⟨z,u,y,A⟩;simp only at z u y A;by_cases g:i<l.length
 ·obtain⟨o,p,_⟩:=aT g;obtain⟨up,C⟩:=ot p u;have h:=mc g;have j:=aD g (by omega);have B:=nj o.kind;cases b:bp vs ss n o with
  | true=>
    obtain⟨f,k,r⟩:=vi b;have E:IntKind.i64.wrap (1-aC o.kind)=1-aC o.kind:=bB (by omega) (by omega);have G:IntKind.i64.wrap (n+(1-aC o.kind))=n+(1-aC o.kind):=bB (by omega) (by omega);have F:=y' h j p WO f k r E G;repeat refine PJ (fU env o.kind) (ij env o vs ss) ?_
    refine⟨(i+1,n+(1-aC o.kind)),⟨by simp only;omega,?_,by simp only;omega,by simp only;omega⟩,?_,?_,?_⟩
    ·simp only;rw[up b]
     congr 1
     omega
    ·exact qe
    ·exact qe
    simp only;omega
  | false=>
    rw[show gw a c l vs ss=dj (-1) (b6 a) by unfold gw;rw[oy q (by rw[C b];simp)];rfl];rcases sD b with f|⟨f,k⟩|⟨f,k,r⟩
    ·have F:=pf h j p WO f m;repeat (first|refine st ?_|refine cC (fU env o.kind) ?_|refine cC (ij env o vs ss) ?_|refine cC (bW env _ a) ?_)
     exact aR
    ·have F:=vb h j p WO f k m;repeat (first|refine st ?_|refine cC (fU env o.kind) ?_|refine cC (ij env o vs ss) ?_|refine cC (bW env _ a) ?_)
     exact aR
    have F:=L7 h j p WO f k r m;repeat (first|refine st ?_|refine cC (fU env o.kind) ?_|refine cC (ij env o vs ss) ?_|refine cC (bW env _ a) ?_)
    exact aR
 have h: ¬(i:Int)< (l.length:Int):=by omega
 have e:=tE (by omega) u;by_cases s:n=1
 ·subst s;rw[show gw a c l vs ss=gc by unfold gw;rw[xD q e];rfl];have F:=ai h m;repeat (first|refine st ?_|refine cC (bW env _ a) ?_)
  exact aR
 rw[show gw a c l vs ss=dj (-1) (b6 a) by unfold gw;rw[oy q (by rw[e];simpa using s)];rfl];have j:(n != 1)=true:=by simpa using s
 have F:=jw h j m;repeat (first|refine st ?_|refine cC (bW env _ a) ?_)
 exact aR
def rh(env:b7)(l:List mw)(vs ss:Int):cy prog env 129 [DP l,I vs,I ss] (I (iu l vs ss)):=by
 refine qf func129 call129 ntmps129 results129 ?_;by_cases k:32<l.length
 ·have q:(32:Int)<l.length:=by omega
  rw[tX vs ss k];have F:=q;exact fl
 have q: ¬(32:Int)<l.length:=by omega
 have F:=q;repeat refine st ?_
 refine lp (D:=Nat×Int) (fun d _=>[(0,DP l),(1,I vs),(2,I ss),(7,I d.2),(8,I d.1)]) (fun _ _=>[]) (fun d _ _=>d.1<=l.length/\um vs ss l 0=um vs ss (l.drop d.1) d.2/\0<=d.2/\d.2<=d.1) (fun d=>l.length-d.1) (0,0) ⟨O6 _,rfl,Si _,Si _⟩ ?_;rintro⟨i,n⟩ A s ⟨u,r,t,v⟩;simp only at u r t v;by_cases e:i<l.length
 ·obtain⟨o,j,_⟩:=aT e;obtain⟨up,x⟩:=ot j r;have f:=mc e;have g:=aD e (by omega);have w:=nj o.kind;cases a:bp vs ss n o with
  | true=>
    obtain⟨c,h,m⟩:=vi a;have y:IntKind.i64.wrap (n-aC o.kind)=n-aC o.kind:=bB (by omega) (by omega);have z:IntKind.i64.wrap (n-aC o.kind+1)=n-aC o.kind+1:=bB (by omega) (by omega);have F:=y' f g j WO c h m y z;repeat refine PJ (fQ env o.kind) (ic env o vs ss) ?_
    refine⟨(i+1,n-aC o.kind+1),⟨by simp only;omega,up a,by simp only;omega,by simp only;omega⟩,?_,?_,?_⟩
    ·exact qe
    ·exact qe
    simp only;omega
  | false=>
    rw[oy k (by rw[x a];simp)];rcases sD a with c|⟨c,h⟩|⟨c,h,m⟩
    ·have F:=ld f g j WO c;exact po (fQ env o.kind) (ic env o vs ss)
    ·have F:=pf f g j WO c h;exact po (fQ env o.kind) (ic env o vs ss)
    have F:=vb f g j WO c h m;exact po (fQ env o.kind) (ic env o vs ss)
 have f: ¬(i:Int)< (l.length:Int):=by omega
 have b:=tE (by omega) r;by_cases p:n=1
 ·subst p;rw[xD k b];have F:=f;exact fl
 rw[oy k (by rw[b];simpa using p)];have g:(n != 1)=true:=by simpa using p
 have F:=ai f g;exact fl
def aB(k:Nat):List AV:=[I k]
def WJ:=@aB.eq_1
abbrev U9(l:List Nat):AV:= .seq 1 (l.map aB)
def idxFrom:List Nat->Int->Nat->Int
 |[],_,_=> -1
 |x::l,v,k=>if (x:Int)=v then k else idxFrom l v (k+1)
def D5(l:List Nat)(v:Int):Int:=idxFrom l v 0
def Ba{l:List Nat}{v:Int}{k x:Nat}(h:l[k]? =some x)(a:D5 l v=idxFrom (l.drop k) v k):((x:Int)=v->D5 l v=k)/\((x:Int)≠v->D5 l v=idxFrom (l.drop (k+1)) v (k+1)):=by
 have b:k<l.length:=(OG.1 h).1
 have c:l.drop k=x::l.drop (k+1):=by
  rw[QM b]
  congr 1
  rw[OE b]at h;exact Pq h
 rw[c]at a;simp only[idxFrom]at a;exact⟨fun e=>by rw[a,OL e],fun e=>by rw[a,OK e]⟩
def FE{l:List Nat}{v:Int}{k:Nat}(h:l.length<=k)(a:D5 l v=idxFrom (l.drop k) v k):D5 l v= -1:=by
 rw[a,SX h];rfl
def ET(v:Int): ∀(l:List Nat)(k:Nat),decide (0<=idxFrom l v k)=Uw l v
 |[],k=>rfl
 | x::l,k=>by
   have c:=ET v l (k+1);have b:Uw (x::l) v=(((x:Int)==v)||Uw l v):=rfl;rw[b, <-c];by_cases e:(x:Int)=v
   ·have a:idxFrom (x::l) v k=k:=OL e;rw[PC];simp[a,e]
   have a:idxFrom (x::l) v k=idxFrom l v (k+1):=OK e;rw[PC];simp[a,e]
def He(env:b7)(l:List Nat)(v:Int)(o:l.length<=1000000):cy prog env 181 [U9 l,I v] (I (D5 l v)):=by
 refine qf func181 call181 ntmps181 results181 ?_;repeat refine sm ?_
 refine UC l.length (by omega) (fun k _=>[(0,U9 l),(1,I v),(7,I l.length),(8,I k)]) (fun _ _=>[]) (fun k _ _=>D5 l v=idxFrom (l.drop k) v k) rfl ?_ ?_
 ·rintro k n c a b j d;obtain⟨x,f,_⟩:=aT a;obtain⟨i,m⟩:=Ba f d;by_cases e:(x:Int)=v
  ·rw[i e];have g:(v==(x:Int))=true:=by simp[e]
   have F:=ld b j g f WJ;exact fl
  have g:(v==(x:Int))=false:=by simpa using fun h=>e h.symm
  have F:=ld b j g f WJ;repeat refine st ?_
  exact qn (k+1) ⟨a,m e⟩
 rintro n c b d;rw[FE (by omega) d];have F:=b;exact fl
def kC(env:b7)(l:List Nat)(v:Int)(a:l.length<=1000000):cy prog env 157 [U9 l,I v] (B (Uw l v)):=by
 have h:=ET v l 0;refine qf func157 call157 ntmps157 results157 ?_;repeat refine nf (He env l v a) ?_
 (refine aO ?_;show (au _ _ _).run _=some _;simp only[go_sem])
 exact Oj B h
def Eh(env:b7)(l:List Nat)(v:Int)(n:l.length<=1000000):cy prog env 85 [U9 l,I v] (B (Uw l v)):=by
 rw[<-ET v l 0,show idxFrom l v 0=D5 l v from rfl];refine qf func85 call85 ntmps85 results85 ?_;repeat refine sm ?_
 refine UC l.length (by omega) (fun k _=>[(0,U9 l),(1,I v),(5,I k)]) (fun _ _=>[]) (fun k _ _=>D5 l v=idxFrom (l.drop k) v k) rfl ?_ ?_
 ·rintro k m c a b i d;obtain⟨x,f,_⟩:=aT a;obtain⟨h,j⟩:=Ba f d;by_cases e:(x:Int)=v
  ·rw[h e,Ou (Int.natCast_nonneg k)];have g:((x:Int)==v)=true:=by simp[e]
   have F:=ld b i g f WJ;exact fl
  have g:((x:Int)==v)=false:=by simpa using e
  have F:=ld b i g f WJ;repeat refine st ?_
  exact qn (k+1) ⟨a,j e⟩
 rintro m c b d;rw[FE (by omega) d];have F:=b;exact fl
/-! Kids -/
def uR{c:aq}{k:Nat}{s:pc}(b:c.Z9[k]? =some s)(i:Int)(a:Bool):dJ c i a k=((s.parent==i)&&(!a|| !ab s)):=by unfold dJ;rw[b]
def l9{c:aq}{i:Int}{a:Bool}{k:Nat}(h:dJ c i a k=true):(b9 c i a (k+1)).map aB=(b9 c i a k).map aB++[[I k]]:=by
 rw[qb,h,OL rfl,Oa];rfl
def j6{c:aq}{i:Int}{a:Bool}{k:Nat}(h:dJ c i a k=false):(b9 c i a (k+1)).map aB=(b9 c i a k).map aB:=by
 rw[qb,h];simp
def gf(env:b7)(c:aq)(i:Int)(r:c.Z9.length<=1000000):cy prog env 42 [.agg (aA c),I i] (.own 3 1 ((aw c i true).map aB)):=by
 refine qf func42 call42 ntmps42 results42 ?_;have F:=aA.eq_1;repeat refine st ?_
 refine am 5 5 3 1 ?_;refine aN (D:=Nat) (fun k q=>[(1,I i),(5, .row 5 (q 5)),(9,u6 c.Z9),(10,I c.Z9.length),(11,I k)]) (fun k _=>[(5,⟨1,(b9 c i true k).map aB,3,true⟩)]) (fun k _ m=>k<=c.Z9.length/\m 5=false) (fun k=>c.Z9.length-k) 0 ?_ ?_ ?_ ?_
 ·exact⟨O6 _,rfl⟩
 ·exact qe
 ·(simp only[go_sem,F])
  simp[b9]
 rintro k u m ⟨t,n⟩;by_cases b:k<c.Z9.length
 ·obtain⟨s,h,_⟩:=aT b;have f:=mc b;have l:=aD b (by omega);have d:=uR h i true;have o:=dR c i true k;have p:ek ((b9 c i true k).length+1) 8:=⟨by omega,by omega⟩;cases e:(s.parent==i) with
  | false=>
    have a:=j6 (show dJ c i true k=false by rw[d,e];rfl);have F:=ld f l h WI e;repeat refine g8 (jy env s) ?_
    refine⟨k+1,⟨b,by simp only[go_sem,n]⟩,?_,?_,?_⟩
    ·exact qe
    ·have F:=pf f l h WI e a;exact qe
    omega
  | true=>
    cases j:ab s with
    | true=>
      have a:=j6 (show dJ c i true k=false by rw[d,e,j];rfl);have F:=pf f l h WI e j;repeat refine g8 (jy env s) ?_
      refine⟨k+1,⟨b,by simp only[go_sem,n]⟩,?_,?_,?_⟩
      ·exact qe
      ·have F:=vb f l h WI e j a;exact qe
      omega
    | false=>
      have g:=l9 (show dJ c i true k=true by rw[d,e,j];rfl);have F:=vb f l h WI e j p;repeat refine g8 (jy env s) ?_
      refine⟨k+1,⟨b,by simp only[go_sem,n]⟩,?_,?_,?_⟩
      ·exact qe
      ·have F:=vb f l h WI e j g;exact qe
      omega
 have f: ¬(k:Int)< (c.Z9.length:Int):=by omega
 obtain rfl:k=c.Z9.length:=by omega
 have F:=ai f n;repeat refine st ?_
 (refine aO ?_;show (au _ _ _).run _=some _;simp only[go_sem,F])
 rfl
def pY(env:b7)(c:aq)(i:Int)(q:c.Z9.length<=1000000):cy prog env 103 [.agg (aA c),I i] (.own 3 1 ((aw c i false).map aB)):=by
 refine qf func103 call103 ntmps103 results103 ?_;have F:=aA.eq_1;repeat refine st ?_
 refine am 5 5 3 1 ?_;refine aN (D:=Nat) (fun k p=>[(1,I i),(5, .row 5 (p 5)),(9,u6 c.Z9),(10,I c.Z9.length),(11,I k)]) (fun k _=>[(5,⟨1,(b9 c i false k).map aB,3,true⟩)]) (fun k _ h=>k<=c.Z9.length/\h 5=false) (fun k=>c.Z9.length-k) 0 ?_ ?_ ?_ ?_
 ·exact⟨O6 _,rfl⟩
 ·exact qe
 ·(simp only[go_sem,F])
  simp[b9]
 rintro k t h ⟨r,m⟩;by_cases a:k<c.Z9.length
 ·obtain⟨s,j,_⟩:=aT a;have g:=mc a;have l:=aD a (by omega);have b:=uR j i false;have n:=dR c i false k;have o:ek ((b9 c i false k).length+1) 8:=⟨by omega,by omega⟩;cases f:(s.parent==i) with
  | false=>
    have e:=j6 (show dJ c i false k=false by rw[b,f];rfl);have F:=ld g l j WI f;repeat refine st ?_
    refine⟨k+1,⟨a,by simp only[go_sem,m]⟩,?_,?_,?_⟩
    ·exact qe
    ·have F:=pf g l j WI f e;exact qe
    omega
  | true=>
    have d:=l9 (show dJ c i false k=true by rw[b,f];rfl);have F:=pf g l j WI f o;repeat refine st ?_
    refine⟨k+1,⟨a,by simp only[go_sem,m]⟩,?_,?_,?_⟩
    ·exact qe
    ·have F:=pf g l j WI f d;exact qe
    omega
 have g: ¬(k:Int)< (c.Z9.length:Int):=by omega
 obtain rfl:k=c.Z9.length:=by omega
 have F:=ai g m;repeat refine st ?_
 (refine aO ?_;show (au _ _ _).run _=some _;simp only[go_sem,F])
 rfl
def pW(env:b7)(c:aq)(i:Int)(a:Bool)(t:c.Z9.length<=1000000):cy prog env 84 [.agg (aA c),I i,B a] (.own 3 1 ((aw c i a).map aB)):=by
 refine qf func84 call84 ntmps84 results84 ?_;have F:=aA.eq_1;repeat refine st ?_
 refine aN (D:=Nat) (fun k r=>[(1,I i),(2,B a),(3, .loc 3 (r 3) 0 0),(7, .row 9 (r 9)),(8,I k)]) (fun k _=>[(3,⟨5,[aA c],26,false⟩),(9,⟨1,(b9 c i a k).map aB,3,true⟩)]) (fun k _ n=>k<=c.Z9.length/\n 9=false) (fun k=>c.Z9.length-k) 0 ?_ ?_ ?_ ?_
 ·exact⟨O6 _,rfl⟩
 ·exact qe
 ·(simp only[go_sem,F])
  simp[b9]
 rintro k v n ⟨u,o⟩;by_cases b:k<c.Z9.length
 ·obtain⟨s,j,_⟩:=aT b;have h:=mc b;have l:=aD b (by omega);have f:=uR j i a;have q:=dR c i a k;have p:ek ((b9 c i a k).length+1) 8:=⟨by omega,by omega⟩;cases g:(s.parent==i) with
  | false=>
    have e:=j6 (show dJ c i a k=false by rw[f,g];rfl);have F:=pf WH h l j WI g;repeat refine g8 (fo env s) ?_
    refine⟨k+1,⟨b,by simp only[go_sem,o]⟩,?_,?_,?_⟩
    ·exact qe
    ·have F:=vb WH h l j WI g e;exact qe
    omega
  | true=>
    cases a with
    | false=>
      have d:=l9 (show dJ c i false k=true by rw[f,g];rfl);have F:=vb WH h l j WI g p;repeat refine g8 (fo env s) ?_
      refine⟨k+1,⟨b,by simp only[go_sem,o]⟩,?_,?_,?_⟩
      ·exact qe
      ·have F:=vb WH h l j WI g d;exact qe
      omega
    | true=>
      cases m:ab s with
      | true=>
        have e:=j6 (show dJ c i true k=false by rw[f,g,m];rfl);have F:=vb WH h l j WI g m;repeat refine g8 (fo env s) ?_
        refine⟨k+1,⟨b,by simp only[go_sem,o]⟩,?_,?_,?_⟩
        ·exact qe
        ·have F:=L7 WH h l j WI g m e;exact qe
        omega
      | false=>
        have d:=l9 (show dJ c i true k=true by rw[f,g,m];rfl);have F:=L7 WH h l j WI g m p;repeat refine g8 (fo env s) ?_
        refine⟨k+1,⟨b,by simp only[go_sem,o]⟩,?_,?_,?_⟩
        ·exact qe
        ·have F:=L7 WH h l j WI g m d;exact qe
        omega
 have h: ¬(k:Int)< (c.Z9.length:Int):=by omega
 obtain rfl:k=c.Z9.length:=by omega
 have F:=jw WH h o;repeat refine st ?_
 (refine aO ?_;show (au _ _ _).run _=some _;simp only[go_sem,F])
 rfl
/-! The state of a name -/
def Gi(env:b7)(c:aq)(a:List UInt8)(l:c.Z9.length<=1000000):cy prog env 134 [.agg (aA c),Sg a] (I (vT c a)):=by
 refine qf func134 call134 ntmps134 results134 ?_;have F:=aA.eq_1;repeat refine st ?_
 refine lq c.Z9.length (by omega) (fun k _=>[(1,Sg a),(8,u6 c.Z9),(9,I c.Z9.length),(10,I k)]) (fun _ _=>[]) (fun k _ _=>eX c a k= -1) rfl ?_ ?_
 ·rintro k j h b g i e;obtain⟨s,f,_⟩:=aT b;cases d:(s.name==a) with
  | true=>
    rw[wi c a b e s f (by simpa using d)];have F:=ld g i f WI d;exact fl
  | false=>
    have F:=ld g i f WI d;repeat refine st ?_
    exact qn (k+1) ⟨b,qm c a e s f (by simpa using d)⟩
 rintro j h g e;rw[show vT c a= -1 from e];have F:=g;exact fl
def G9(env:b7)(c:aq)(a:List UInt8)(m:c.Z9.length<=1000000):cy prog env 82 [.agg (aA c),Sg a] (I (vT c a)):=by
 refine qf func82 call82 ntmps82 results82 ?_;have F:=aA.eq_1;repeat refine st ?_
 refine lq c.Z9.length (by omega) (fun k j=>[(1,Sg a),(2, .loc 2 (j 2) 0 0),(5,I k)]) (fun _ _=>[(2,⟨5,[aA c],26,false⟩)]) (fun k _ _=>eX c a k= -1) rfl ?_ ?_
 ·rintro k l h b g i e;obtain⟨s,f,_⟩:=aT b;cases d:(s.name==a) with
  | true=>
    rw[wi c a b e s f (by simpa using d)];have F:=pf WH g i f WI d;exact fl
  | false=>
    have F:=pf WH g i f WI d;repeat refine st ?_
    exact qn (k+1) ⟨b,qm c a e s f (by simpa using d)⟩
 rintro l h g e;rw[show vT c a= -1 from e];have F:=ai WH g;exact fl
def wD(env:b7)(d e:Addr)(g:fk env d e)(c:aq)(l:List mw):cy prog env 138 [.agg (aA c),DP l] (B (cP l c.vars.length c.Z9.length)):=by
 have a:=gY env d e g l c.vars.length c.Z9.length;unfold gw at a;refine qf func138 call138 ntmps138 results138 ?_;by_cases b:iu l c.vars.length c.Z9.length=0
 ·rw[OL b]at a;rw[show cP l c.vars.length c.Z9.length=true by simp[cP,b]];have F:=aA.eq_1;exact nb a
 rw[OK b]at a;rw[show cP l c.vars.length c.Z9.length=false by simp[cP,b]];by_cases f:iu l c.vars.length c.Z9.length=8
 ·rw[OL f]at a;have F:=aA.eq_1;exact nb a
 rw[OK f]at a;have F:=aA.eq_1;exact nb a
def dY{a b:Int}(h:a≠b):(a==b)=false:=by simpa using h
def JM(env:b7)(g i:Addr)(z:fk env g i)(c:aq)(a:n9)(y:a.name.length<=9223372036854775807):cy prog env 166 [.agg (aA c), .agg (bg a)] (B (iM c.vars.length c.Z9.length a)):=by
 obtain⟨k,n,m,co⟩:=a;have b:=wD env g i z c co;have d:=dL env m y;refine qf func166 call166 ntmps166 results166 ?_
 have e:((co.length:Int)==0)=(co == []):=by
  rw[PC];simp
 have A: ∀p q:Prop,[Decidable p]->[Decidable q]->decide (p/\q)=(decide p&&decide q):=fun p q=>Sm p q;by_cases f:k=1\/k=2\/k=3\/k=4\/k=5
 ·rcases f with rfl|rfl|rfl|rfl|rfl
  all_goals
   have F:=ld WH WU iM.eq_1 e A;exact po b d
 simp only[TA]at f;obtain⟨j,l,o,r,s⟩:=f;rw[show iM c.vars.length c.Z9.length ⟨k,n,m,co⟩=false by unfold iM;rw[OK j,OK (fun h=>h.elim l r),OK o,OK s]];have t:=dY j;have u:=dY l;have v:=dY o;have w:=dY r;have x:=dY s;have F:=vb WH WU t u v w x;exact fl
def dt{a:Type}{l:List a}{p:a->Bool}{i:Nat}{x:a}(h:(l.take i).all p=true)(e:l[i]? =some x)(d:p x=true):(l.take (i+1)).all p=true:=by
 obtain⟨b,c⟩:=OG.1 e;rw[PG b,SI,h,c];simp[d]
def mW{a:Type}{l:List a}{p:a->Bool}{i:Nat}{x:a}(c:l[i]? =some x)(b:p x=false):l.all p=false:=by
 rw[Qj];intro h;rw[OP]at h;rw[h _ (OM c)]at b;cases b
def tm{a:Type}{l:List a}{p:a->Bool}{i:Nat}(h:(l.take i).all p=true)(hi:l.length<=i):l.all p=true:=by
 rwa [PI hi]at h
def pa(env:b7)(i j:Addr)(q:fk env i j)(c:aq)(l:List n9)(r:l.length<=9223372036854775807)(p: ∀a∈l,a.name.length<=9223372036854775807):cy prog env 137 [.agg (aA c),oj l] (B (eR c.vars.length c.Z9.length l)):=by
 refine qf func137 call137 ntmps137 results137 ?_;have F:=aA.eq_1;repeat refine st ?_
 refine lp (D:=Nat) (fun k t=>[(1,oj l),(2, .loc 2 (t 2) 0 0),(7,oj l),(8,I l.length),(9,I k)]) (fun _ _=>[(2,⟨5,[aA c],26,false⟩)]) (fun k _ _=>k<=l.length/\(l.take k).all (iM c.vars.length c.Z9.length)=true) (fun k=>l.length-k) 0 ⟨O6 _,rfl⟩ ?_;rintro k v n ⟨u,e⟩;by_cases b:k<l.length
 ·obtain⟨a,g,s⟩:=aT b;have h:=mc b;have m:=aD b r;have d:=JM env i j q c a (p a s);cases f:iM c.vars.length c.Z9.length a with
  | true=>
    have F:=pf WH h m g WU f;repeat refine g8 d ?_
    exact qn (k+1) ⟨b,dt e g f⟩
  | false=>
    rw[show eR c.vars.length c.Z9.length l=false by unfold eR;rw[mW g f];simp];have F:=pf WH h m g WU f;exact nb d
 have h: ¬(k:Int)< (l.length:Int):=by omega
 have o:decide ((l.length:Int)<=32)=decide (l.length<=32):=by rw[PC];simp;omega
 rw[show eR c.vars.length c.Z9.length l=decide (l.length<=32) by unfold eR;rw[tm e (by omega)];simp];have F:=ai WH h;repeat refine st ?_
 (refine aO ?_;show (au _ _ _).run _=some _;simp only[go_sem,F])
 exact Oj B o
def yE(env:b7)(c:aq)(i:Int):cy prog env 98 [.agg (aA c),I i] (B (decide (0<=i)&&decide (i<c.Z9.length))):=by
 refine qf func98 call98 ntmps98 results98 ?_;by_cases a:0<=i<;>by_cases b:i< (c.Z9.length:Int)<;>
 ·have F:=jw WH a b;exact fl
def Tu.ifl(t:TypeId)(v:Value):Tu (.lit (.iface t v)) (.iface t (.lit v)):=fun S w u h=>by
 obtain rfl:=h.lit_inv;exact .iface t v (.lit v) (.lit v)
def Tu.lfi(t:TypeId)(v:Value):Tu (.iface t (.lit v)) (.lit (.iface t v)):=fun S w u h=>by
 cases h with
 | iface _ a _ h=>
   obtain rfl:=h.lit_inv;exact .lit _
def lj(s p:AV)(q:Int)(c:p=I q)(e a:AV)(b:Tu a e):i8 (.iface 120 (.ref 3 [[s,p,a]] 0 0)) (dj q e):=by
 subst c;exact .of (.iface (.ref1 (cs:=[.any,I q,e]) (.cons (.any _) (.cons (.refl _) (.cons b .nil))))) (fun _ _ _ h=>by cases h) (fun _ _ _ h=>by cases h)
def yb(env:b7)(s:List UInt8)(p:Int)(a:Addr)(c: -1<=p):cy prog env 133 [Sg s,I p,b6 a] (dj p (b6 a)):=by
 refine cy.args (cs:=[Sg s,I p, .iface 307 (.lit (.pointer (some a)))]) ?_ (.cons (.refl _) (.cons (.refl _) (.cons (.ifl _ _) .nil)));have b: ¬p< -1:=by omega
 refine qw func133 call133 ntmps133 results133 ?_;have F:=b;repeat refine st ?_
 (refine aO ?_;refine⟨_,(by show (au _ _ _).run _=some _;simp only[go_sem,F];rfl),?_⟩)
 exact lj _ _ _ rfl _ _ (.lfi _ _)
def og(env:b7)(a b:Addr)(d:fk env a b)(p:Int)(e: -1<=p):cy prog env 95 [I p] (dj p (b6 a)):=by
 have c:=gS d.e1;refine qf func95 call95 ntmps95 results95 ?_;have F:=c;repeat (first|refine st ?_|refine cC (yb env _ p a e) ?_)
 exact aR
def kQ{c:aq}{m:Nat}{q:pc}(h:c.Z9[m]? =some q):ar c (m:Int)=eO q:=by unfold ar;rw[bO,h]
def gk{n:Int}(h:0<=n): ∃m:Nat,n=m:=⟨n.toNat,by omega⟩
def AB(env:b7)(c:aq)(i:Nat)(s:pc)(a:c.Z9[i]? =some s):cy prog env 135 [.agg (aA c),I i] (B (dA c i s)):=by
 have k:i<c.Z9.length:=(OG.1 a).1;have d:=mc k;refine qf func135 call135 ntmps135 results135 ?_;by_cases e:0<=s.parent/\s.parent<i
 ·obtain⟨m,l⟩:=gk e.1;obtain⟨q,f,_⟩:=aT (show m<c.Z9.length by omega);have n:(0:Int)<=m:=by omega
  have o:(m:Int)<i:=by omega
  have p:=mc (show m<c.Z9.length by omega);have r:=kQ f;have g:((m:Int) == -1)=false:=dY (by omega);have fn:=il env q;have F:=fb WH d a WI l g n o p r f Xh;exact nb fn
 by_cases b:0<=s.parent
 ·have j: ¬s.parent<i:=fun h=>e ⟨b,h⟩;have F:=vb WH d a WI b j Xh;exact fl
 have F:=pf WH d a WI b Xh;exact fl
def Cr(env:b7)(c:aq)(s:pc)(g:s.parent<c.Z9.length):cy prog env 165 [.agg (aA c), .agg (aP s)] (B (cu c s)):=by
 refine qf func165 call165 ntmps165 results165 ?_;by_cases b:0<=s.parent
 ·obtain⟨m,d⟩:=gk b;have a:m<c.Z9.length:=by omega
  obtain⟨q,e,_⟩:=aT a;have f:=mc a;rw[show cu c s=(q.kind==1) by unfold cu;rw[d,bO,e]];have F:=ld WH WI d f e;exact fl
 rw[show cu c s=false by unfold cu at_;rw[OK b]];have F:=jw WH WI b;exact fl
def Fl{a b:Nat}(c:a<=9223372036854775807)(d:b<=9223372036854775807):IntKind.i64.wrap ((a:Int)+(b:Int))=0↔a+b=0:=by
 by_cases h:a+b<9223372036854775808
 ·rw[bB (by omega) (by omega)];omega
 have:IntKind.i64.wrap ((a:Int)+(b:Int))=(a:Int)+(b:Int)-18446744073709551616:=by
  simp[IntKind.wrap,IntKind.bits,IntKind.signed];omega
 omega
def fJ{a:Type} [DecidableEq a](l:List a):((l.length:Int)==0)=(l == []):=by
 rw[PC];simp
def Ge{c:aq}{i:Nat}{s:pc}(hi:i<c.Z9.length)(h:dA c i s=true):s.parent<c.Z9.length:=by
 unfold dA at h;simp only[PS,P4,OJ,OR]at h;omega
def MA{c:aq}{i:Int}{a:Bool}{j k:Nat}(h:(aw c i a)[j]? =some k): ∃q,c.Z9[k]? =some q/\k<c.Z9.length:=by
 have b:=pm (OM h);obtain⟨q,d,_⟩:=aT b.1;exact⟨q,d,b.1⟩
def Cq(env:b7)(c:aq)(i:Nat)(s:pc)(w:c.Z9[i]? =some s)(z:c.Z9.length<=1000000)(W:s.parent<c.Z9.length)(H:s.ZW.length<=9223372036854775807)(J:s.out.length<=9223372036854775807):cy prog env 136 [.agg (aA c),I i] (B (dX c i s)):=by
 have V:i<c.Z9.length:=(OG.1 w).1;have A:=mc V;have a:=gf env c i z;have o:=gf env c s.parent z;have l:=pY env c i z;have e:=Cr env c s W;have K:(aw c i true).length<=1000000:=O3 (dR c i true _) z;have x:(aw c s.parent true).length<=1000000:=O3 (dR c s.parent true _) z;have y:=kC env (aw c i true) s.initial K;have u:=kC env (aw c s.parent true) s.initial x;have Z:=fJ (aw c i true);have O:=fJ (aw c i false);have z3:=fJ s.out;refine qf func136 call136 ntmps136 results136 ?_;by_cases d:s.kind=1
 ·have v:dX c i s=(if aw c i true=[] then s.initial == -1 else Uw (aw c i true) s.initial):=by unfold dX;rw[OL d]
  rw[v];have X:(aw c i true=[])=((aw c i true == [])=true):=by simp
  have Y:(aw c i true == [])=true->Uw (aw c i true) s.initial=false:=fun h=>by rw[show aw c i true=[] by simpa using h];rfl
  have F:=L7 WH A w WI d Z X Y;exact po a y
 have P:=dY d;by_cases f:s.kind=2
 ·have v:dX c i s=(((aw c i true).all fun k=>ar c k)&&decide (0< (aw c i true).length)&&(s.initial == -1)):=by unfold dX;rw[OK d,OL f]
  rw[v];have F:=ld WH A w WI f;repeat refine g8 a ?_
  refine lp (D:=Nat) (fun j G=>[(1,I i),(2, .loc 2 (G 2) 0 0),(5, .loc 5 (G 5) 0 0),(6, .row 16 (G 16)),(18,I 2),(37, .row 16 (G 16)),(38,I (aw c i true).length),(39,I j)]) (fun _ _=>[(2,⟨5,[aA c],26,false⟩),(5,⟨6,[aP s],109,false⟩),(16,⟨1,(aw c i true).map aB,3,true⟩)]) (fun j _ _=>j<=(aw c i true).length/\((aw c i true).take j).all (fun k=>ar c k)=true) (fun j=>(aw c i true).length-j) 0 ⟨O6 _,rfl⟩ ?_;rintro j ws U ⟨hj,p⟩;by_cases n:j< (aw c i true).length
  ·obtain⟨k,hk,_⟩:=aT n;obtain⟨q,E,L⟩:=MA hk;have C:=mc n;have M:=aD n (by omega);have N:=mc L;have m:=il env q;cases r:eO q
   ·rw[show ((aw c i true).all fun k=>ar c k)=false from mW hk (by rw[kQ E];exact r),PU,PU];have F:=y' WH C M N hk E WJ WI r;exact nb m
   have F:=y' WH C M N hk E WJ WI r;repeat refine g8 m ?_
   exact qn (j+1) ⟨n,dt p hk (by rw[kQ E];exact r)⟩
  have C: ¬(j:Int)< ((aw c i true).length:Int):=by omega
  rw[tm p (by omega),PQ];have z4:decide ((0:Int)< ((aw c i true).length:Int))=decide (0< (aw c i true).length):=by rw[PC];simp
  cases r:decide (0< (aw c i true).length)
  ·have t: ¬(0:Int)< ((aw c i true).length:Int):=by simpa using r
   have F:=mX WH C WI t;exact fl
  have t:(0:Int)< ((aw c i true).length:Int):=by simpa using r
  have F:=mX WH C WI t;exact fl
 have Q:=dY f;by_cases g:s.kind=3
 ·have v:dX c i s=((aw c i false == [])&&((s.parent == -1)||cu c s)&&(s.initial == -1)&&(s.out == [])):=by unfold dX;rw[OK d,OK f,OL g]
  rw[v];have F:=vb WH A w WI g O z3;exact UR a l e
 have R:=dY g;by_cases b:s.kind=4\/s.kind=5
 ·have v:dX c i s=((aw c i false == [])&&cu c s&&Uw (aw c s.parent true) s.initial&&(s.ZW == [])&&(s.out == [])):=by unfold dX;rw[OK d,OK f,OK g,OL b]
  rw[v]
  have z5:(IntKind.i64.wrap ((s.ZW.length:Int)+(s.out.length:Int))==0)=((s.ZW == [])&&(s.out == [])):=by
   rw[PC];simp only[P4,OJ, <-QV,Fl H J];omega
  rw[TE _ (s.ZW == []), <-z5];rcases b with hk|hk
  all_goals
   have F:=pf WH A w WI hk O;exact Wt a l e o u
 have S:=dY (fun h=>b (.inl h));have T:=dY (fun h=>b (.inr h));rw[show dX c i s=false by unfold dX;rw[OK d,OK f,OK g,OK b]];have F:=y' WH A w WI P Q R S T;exact nb a
end
end Go.Proofs.YtfcdkaolcdglmaaGreatDoor
