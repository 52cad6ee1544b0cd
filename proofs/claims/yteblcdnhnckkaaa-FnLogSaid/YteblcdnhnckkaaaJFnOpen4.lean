/- Texts of the proof of FnFnOpen, joined: EZ, E21, E22, E23, E24. -/
import Derived.Test.YteblcdnhnckkaaaJFnOpen3
namespace Go.Proofs.Yteblcdnhnckkaaa
open Go.RowKit
set_option linter.unusedSimpArgs false
set_option linter.unusedVariables false
class CNP(Q:AQ):Prop where
 np:NP Q
section
variable {K:(Nat→AV)→(Nat→AO)→Prop}{Q:AQ}{τ:Nat→AV}{H:Nat→AO}{id i:Nat}
instance [h:CNP Q]:CNP (AQ.andThen K Q):=⟨h.np⟩
instance [h:CNP Q]:CNP (AQ.inBlock id Q):=⟨h.np⟩
instance [h:CNP Q]:CNP (AQ.noGoto Q):=⟨h.np⟩
instance {rs:List RVar} {x:AV} {ob1:List (Nat×AO)}:CNP (Ends rs x ob1):=⟨NP.ends⟩
instance {rs:List RVar} {R:AV→List (Nat×AO)→Prop}:CNP (EndsX rs R):=⟨NP.endsX⟩
theorem gT(h:K τ H):AQ.andThen K Q .normal τ H:=h
theorem eT(h:Q (.exit i) τ H):AQ.andThen K Q (.exit i) τ H:=h
theorem rT(h:Q .ret τ H):AQ.andThen K Q .ret τ H:=h
theorem gB(h:Q .normal τ H):AQ.inBlock id Q .normal τ H:=h
theorem eB(h:Q .normal τ H):AQ.inBlock id Q (.exit id) τ H:=ex_block h
theorem eO(h:Q (.exit i) τ H)(hi:i≠id:=by decide):AQ.inBlock id Q (.exit i) τ H:=ex_other hi h
theorem rB(h:Q .ret τ H):AQ.inBlock id Q .ret τ H:=h
end
theorem Z{α:Sort _}{a:α}:a=a:=rfl
theorem iq{a b:Int}{x:AV}(h1:x=.p (.v (.int .i64 a)))(h:a=b:=by omega):x=.p (.v (.int .i64 b)):=by rw[h1,h]
abbrev vI(k:IntKind)(n:Int):AV:=.p (.v (.int k n))
abbrev vB(b:Bool):AV:=.p (.v (.bool b))
abbrev vV(v:Value):AV:=.p (.v v)
abbrev vL(e:TypeId)(sz:Nat)(l:List (List PV)):AV:=.p (.lst e sz l)
theorem nN{α:Type}{x:List α}(h:x=[]):x=[]:=h
theorem nC{α:Type}(x:α){l r q:List α}(h:l=x::r)(k:r=q):l=x::q:=by rw[h,k]
theorem nU{l r q:List AV}{c d:List AV}(h:l=.agg c::r)(e:c=d)(k:r=q):l=.agg d::q:=by rw[h,e,k]
theorem nT{l r q:List AV}{c d:List AV}(h:l=.tup c::r)(e:c=d)(k:r=q):l=.tup d::q:=by rw[h,e,k]
theorem nK{l r q:List AV}{f:Fn}{a c d:List AV}(h:l=.clo f a c::r)(e:c=d)(k:r=q):l=.clo f a d::q:=by rw[h,e,k]
theorem nB{l r q:List AO}{T:TypeId}{p:Option Value}{c d:List AV}(h:l=.box T p c::r)(e:c=d)(k:r=q):l=.box T p d::q:=by rw[h,e,k]
theorem nz{α:Type}{x y:List α}(h:x=y:=by repeat' (first|exact nN rfl|apply nC (vI _ _) rfl|apply nC (AV.ptr _ _ _) rfl|apply nC (vB _) rfl|apply nC (AV.own _) rfl|apply nC (vL _ _ _) rfl|apply nC (vV _) rfl|apply nU rfl|apply nC (AV.rp _) rfl|apply nC AV.dead rfl|apply nB rfl|apply nC (AO.arr _ _ _) rfl|apply nC (AV.tup []) rfl|apply nT rfl|apply nK rfl|apply nC (AV.sub _ _ _) rfl|apply nC (AV.p _) rfl|apply nC _ rfl)):x=y:=h
def ofK:List (Nat×AV)→(Nat→AV)→Nat→AV
 |[],f,t=>f t
 |(s,x)::l,f,t=>if t=s then x else ofK l f t
def ofH:List (Nat×AO)→(Nat→AO)→Nat→AO
 |[],f,t=>f t
 |(s,x)::l,f,t=>if t=s then x else ofH l f t
def of2{α:Type}(z:α):List Nat→List α→Nat→α
 |s::l,x::r,t=>if t=s then x else of2 z l r t
 |_,_,_=>z
def at2{α:Type}(τ:Nat→α):List Nat→List α
 |[]=>[]
 |s::l=>τ s::at2 τ l
theorem at2.weak{α:Type}{z:α}{τ:Nat→α}:∀ {l:List Nat} {v:List α},at2 τ l=v→∀t,of2 z l v t=z∨of2 z l v t=τ t
 |[],_,h,t=>.inl (by subst h;rfl)
 |s::l,v,h,t=>by
  subst h
  show (if t=s then τ s else of2 z l (at2 τ l) t)=z∨(if t=s then τ s else of2 z l (at2 τ l) t)=τ t
  split
  ·rename_i q;subst q;exact .inr rfl
  ·exact at2.weak rfl t
def dstOk(o:Option Nat)(N:Nat):Bool:=match o with|some t=>Nat.blt t N|none=>true
theorem dstOk.at{o:Option Nat}{N:Nat}(h:dstOk o N=true):∀s,o=some s→s<N:=fun s e=>by subst e;exact Nat.le_of_ble_eq_true h
def allv(r:List (Nat×Nat))(H:Nat→AO):List (Nat×AO)→List (Option AO)
 |[]=>[]
 |(i,_)::l=>(rn r i).map (fun j=>(H j).ren (sw r))::allv r H l
def allw:List (Nat×AO)→List (Option AO)
 |[]=>[]
 |(_,o)::l=>some o::allw l
theorem allv.all0{r:List (Nat×Nat)}{H:Nat→AO}:∀ {l:List (Nat×AO)},allv r H l=allw l→all0 r H l
 |[],_=>trivial
 |(i,o)::l,h=>by
  unfold allv allw at h
  injection h with h1 h2
  refine⟨?_,allv.all0 h2⟩
  cases e:rn r i with
  |none=>rw[e]at h1;cases h1
  |some j=>rw[e]at h1;injection h1 with h1;exact⟨j,rfl,h1⟩
section
variable {P:Program}{L O:Nat→Prop}{w0:World}{N:Nat}{τ τ':Nat→AV}{H H':Nat→AO}{Q:AQ}
theorem aS{x y:Code}(h:AW P L O w0 N x τ H (Q.andThen fun τ H=>AW P L O w0 N y τ H Q)):AW P L O w0 N (.seq x y) τ H Q:=AW.seq h
theorem aL{id:Nat}{l:List Oper}(h:AL P L O w0 N l.toArray l τ H Q):AW P L O w0 N (.region id l.toArray false) τ H Q:=AW.list h
theorem aK(h:Q .normal τ H):AW P L O w0 N .skip τ H Q:=AW.skip h
theorem aR(h:Q .ret τ H):AW P L O w0 N .ret τ H Q:=AW.ret h
theorem aE{id:Nat}(h:Q (.exit id) τ H):AW P L O w0 N (.exit id) τ H Q:=AW.exit h
theorem aB{id:Nat}{c:Code}(h:AW P L O w0 N c τ H (Q.inBlock id)):AW P L O w0 N (.block id c) τ H Q:=AW.block h
theorem aY{c:Operand}{x y:Code}(hc:ev τ c=.p (.v (.bool true)))(h:AW P L O w0 N x τ H Q):AW P L O w0 N (.cond c x y) τ H Q:=AW.yes hc h
theorem aN{c:Operand}{x y:Code}(hc:ev τ c=.p (.v (.bool false)))(h:AW P L O w0 N y τ H Q):AW P L O w0 N (.cond c x y) τ H Q:=AW.no hc h
theorem aT(k i:List Nat){v:List AV}{b:List AO}{c:Code}(h:AW P L O w0 N c (of2 .bad k v) (of2 .gone i b) Q)(h1:at2 τ k=v:=by exact nz)(h2:at2 H i=b:=by exact nz):AW P L O w0 N c τ H Q:=AW.weak (at2.weak h1) (at2.weak h2) h
variable {ops:Array Oper}{o:Oper}{l:List Oper}
theorem lN(h:Q .normal τ H):AL P L O w0 N ops [] τ H Q:=AL.nil h
theorem lno{t:Nat}(h:(gv τ ops o,o.dst,Nat.blt t N)=(some false,some t,true))(K:AL P L O w0 N ops l (upd τ t (.tup [])) H Q):AL P L O w0 N ops (o::l) τ H Q:=by
 simp only[Prod.mk.injEq]at h
 exact AL.no h.1 h.2.1 (Nat.le_of_ble_eq_true h.2.2) K
theorem lst{E:List Nat}(hs:St P o N τ H E τ' H')(hg:gv τ ops o=some true)(h:AL P L O w0 N ops l τ' H' Q):AL P L O w0 N ops (o::l) τ H Q:=AL.st hs hg h
theorem lT(k i:List Nat){v:List AV}{b:List AO}(h:AL P L O w0 N ops l (of2 .bad k v) (of2 .gone i b) Q)(h1:at2 τ k=v:=by exact nz)(h2:at2 H i=b:=by exact nz):AL P L O w0 N ops l τ H Q:=AL.weak (at2.weak h1) (at2.weak h2) h
end
section
variable {P:Program}{L O:Nat→Prop}{w0:World}{N:Nat}{τ τ':Nat→AV}{H H':Nat→AO}{Q:AQ}{ops:Array Oper}{o:Oper}{F:List Nat}{n f:Nat}{X:Nat→Bool}{listed:Array Bool}
def tkG(ops:Array Oper)(f:Nat)(listed:Array Bool)(i:Nat):Bool:=(Region.ready .any ops listed).contains i&&(Region.noSelect ops&&(Region.free .any ops listed i&&((reachB .any ops f).getD i false&&closedB .any ops listed)))
theorem and5{a b c d e:Bool}(h:(a&&(b&&(c&&(d&&e))))=true):a=true∧b=true∧c=true∧d=true∧e=true:=by simpa[Bool.and_eq_true]using h
theorem and4{a b c e:Bool}(h:(a&&(b&&(c&&e)))=true):a=true∧b=true∧c=true∧e=true:=by simpa[Bool.and_eq_true]using h
def tkF(ops:Array Oper)(F:List Nat)(listed:Array Bool)(i:Nat):Bool:=(Region.ready .any ops listed).contains i&&(Region.noSelect ops&&(Region.free .any ops listed i&&(reachF .any ops F listed i&&closedB .any ops listed)))
def tkP(ops:Array Oper)(listed:Array Bool)(i:Nat):Bool:=(Region.ready .any ops listed).contains i&&(Region.noSelect ops&&(Region.free .any ops listed i&&closedB .any ops listed))
theorem aF{id:Nat}(F:List Nat)(h:AF P L O w0 N ops F ops.size (Array.replicate ops.size false) τ H Q)(hm:P.follows .mixedOrders=true:=by kernel_rfl):AW P L O w0 N (.region id ops true) τ H Q:=AW.drawF F hm h
theorem aG{id:Nat}(f:Nat)(X:List Nat)(h:AG P L O w0 N ops f (inK X) ops.size (Array.replicate ops.size false) τ H Q)(hm:P.follows .mixedOrders=true:=by kernel_rfl):AW P L O w0 N (.region id ops true) τ H Q:=AW.draw f (inK X) hm h
theorem fD(h:Q .normal τ H)(hr:Region.ready .any ops listed=[]:=by kernel_rfl):AF P L O w0 N ops F n listed τ H Q:=AF.done hr h
theorem gD(h:Q .normal τ H)(hr:Region.ready .any ops listed=[]:=by kernel_rfl):AG P L O w0 N ops f X n listed τ H Q:=AG.done hr h
theorem vst(i:Nat){E:List Nat}(h0:(ops[i]?,gv τ ops o)=(some o,some true))(hs:St P o N τ H E τ' H')(hF:F.contains i=true∨E=[])(h:AF P L O w0 N ops F n (listed.setIfInBounds i true) τ' H' Q)(hr:Region.ready .any ops listed=[i]:=by kernel_rfl):AF P L O w0 N ops F (n+1) listed τ H Q:=by
 simp only[Prod.mk.injEq]at h0
 exact AF.st h0.1 hr hs hF h0.2 h
theorem exJ{E:List Nat}{X:Nat→Bool}(h:E.all X=true):∀id∈E,X id=true:=fun id hid=>List.all_eq_true.1 h id hid
theorem yst(i:Nat){E:List Nat}(h0:(ops[i]?,gv τ ops o)=(some o,some true))(hs:St P o N τ H E τ' H')(h:AG P L O w0 N ops f X n (listed.setIfInBounds i true) τ' H' Q)(hX:∀id∈E,X id=true:=by first|decide|exact exJ rfl)(hr:Region.ready .any ops listed=[i]:=by kernel_rfl):AG P L O w0 N ops f X (n+1) listed τ H Q:=by
 simp only[Prod.mk.injEq]at h0
 exact AG.st h0.1 hr hs hX h0.2 h
theorem yno(i:Nat){t:Nat}(h0:(ops[i]?,gv τ ops o,o.dst,Nat.blt t N)=(some o,some false,some t,true))(h:AG P L O w0 N ops f X n (listed.setIfInBounds i true) (upd τ t (.tup [])) H Q)(hr:Region.ready .any ops listed=[i]:=by kernel_rfl):AG P L O w0 N ops f X (n+1) listed τ H Q:=by
 simp only[Prod.mk.injEq]at h0
 exact AG.no h0.1 hr h0.2.1 h0.2.2.1 (Nat.le_of_ble_eq_true h0.2.2.2) h
theorem vno(i:Nat){t:Nat}(h0:(ops[i]?,gv τ ops o,o.dst,Nat.blt t N)=(some o,some false,some t,true))(h:AF P L O w0 N ops F n (listed.setIfInBounds i true) (upd τ t (.tup [])) H Q)(hr:Region.ready .any ops listed=[i]:=by kernel_rfl):AF P L O w0 N ops F (n+1) listed τ H Q:=by
 simp only[Prod.mk.injEq]at h0
 exact AF.no h0.1 hr h0.2.1 h0.2.2.1 (Nat.le_of_ble_eq_true h0.2.2.2) h
theorem tno[cq:CNP Q](i:Nat){t:Nat}(h0:(ops[i]?,gv τ ops o,o.dst,Nat.blt t N)=(some o,some false,some t,true))(h:AG P L O w0 N ops f X n (listed.setIfInBounds i true) (upd τ t (.tup [])) H Q)(hb:tkG ops f listed i=true:=by kernel_rfl):AG P L O w0 N ops f X (n+1) listed τ H Q:=by
 simp only[Prod.mk.injEq]at h0
 exact AG.skip h0.1 (and5 hb).1 (and5 hb).2.1 (and5 hb).2.2.1 (and5 hb).2.2.2.1 (and5 hb).2.2.2.2 h0.2.1 h0.2.2.1 (Nat.le_of_ble_eq_true h0.2.2.2) cq.np h
theorem pno[cq:CNP Q](i:Nat){t:Nat}(h0:(ops[i]?,gv τ ops o,o.dst,Nat.blt t N)=(some o,some false,some t,true))(h:AF P L O w0 N ops F n (listed.setIfInBounds i true) (upd τ t (.tup [])) H Q)(hb:tkP ops listed i=true:=by kernel_rfl):AF P L O w0 N ops F (n+1) listed τ H Q:=by
 simp only[Prod.mk.injEq]at h0
 exact AF.skip h0.1 (and4 hb).1 (and4 hb).2.1 (and4 hb).2.2.1 (and4 hb).2.2.2 h0.2.1 h0.2.2.1 (Nat.le_of_ble_eq_true h0.2.2.2) cq.np h
theorem fTv(k:List Nat)(v:List AV)(i:List Nat)(b:List AO)(h1:at2 τ k=v)(h2:at2 H i=b)(h:AF P L O w0 N ops F n listed (of2 .bad k v) (of2 .gone i b) Q):AF P L O w0 N ops F n listed τ H Q:=fun ρ fp a w hr=>by
 obtain⟨fp',hr',_⟩:=hr.weak (at2.weak (z:=AV.bad) h1) (at2.weak (z:=AO.gone) h2)
 exact h ρ fp' a w hr'
theorem fT(k i:List Nat){v:List AV}{b:List AO}(h:AF P L O w0 N ops F n listed (of2 .bad k v) (of2 .gone i b) Q)(h1:at2 τ k=v:=by exact nz)(h2:at2 H i=b:=by exact nz):AF P L O w0 N ops F n listed τ H Q:=fTv k v i b h1 h2 h
theorem of2_zip:∀ {k:List Nat} {v:List AV},ofT (k.zip v)=of2 .bad k v
 |[],v=>funext fun t=>by simp[ofT,of2]
 |s::k,[]=>funext fun t=>by simp[ofT,of2]
 |s::k,x::v=>funext fun t=>by simp only[List.zip_cons_cons,ofT,of2,of2_zip]
theorem of2_zipO:∀ {k:List Nat} {v:List AO},ofO (k.zip v)=of2 .gone k v
 |[],v=>funext fun t=>by simp[ofO,of2]
 |s::k,[]=>funext fun t=>by simp[ofO,of2]
 |s::k,x::v=>funext fun t=>by simp only[List.zip_cons_cons,ofO,of2,of2_zipO]
theorem allT_zip:∀ {k:List Nat} {v:List AV},at2 τ k=v→allT (k.zip v) τ
 |[],v,h=>by subst h;trivial
 |s::k,v,h=>by subst h;exact⟨rfl,allT_zip rfl⟩
theorem allO_zip:∀ {k:List Nat} {v:List AO},at2 H k=v→allO (k.zip v) H
 |[],v,h=>by subst h;trivial
 |s::k,v,h=>by subst h;exact⟨rfl,allO_zip rfl⟩
def eqX(B H:Nat→AO):List Nat→Prop
 |[]=>True
 |i::l=>B i=H i∧eqX B H l
theorem eqX.to{B:List (Nat×AO)}{B':Nat→AO}(hB:ofO B=B'):∀ {X:List Nat},eqX B' H X→sameX B H X
 |[],_=>trivial
 |_::_,h=>⟨by rw[hB];exact h.1,eqX.to hB h.2⟩
theorem gXv(k:List Nat)(v:List AV)(i:List Nat)(b:List AO){X:List Nat}(h1:at2 τ k=v)(h2:at2 H i=b)(hX:eqX (of2 .gone i b) H X)(h:AG P L O w0 N ops f (inK X) n listed (of2 .bad k v) (of2 .gone i b) Q):AG P L O w0 N ops f (inK X) n listed τ H Q:=
 AG.tidyX (k.zip v) (i.zip b) (allT_zip h1) (allO_zip h2) (eqX.to of2_zipO hX) (by rw[of2_zip,of2_zipO];exact h)
theorem gX(k i:List Nat){v:List AV}{b:List AO}{X:List Nat}(h:AG P L O w0 N ops f (inK X) n listed (of2 .bad k v) (of2 .gone i b) Q)(h1:at2 τ k=v:=by exact nz)(h2:at2 H i=b:=by exact nz)(hX:eqX (of2 .gone i b) H X:=by repeat (first|exact trivial|refine⟨rfl,?_⟩)):AG P L O w0 N ops f (inK X) n listed τ H Q:=gXv k v i b h1 h2 hX h
end
section
variable {P:Program}{o:Oper}{N:Nat}{τ:Nat→AV}{H:Nat→AO}{X:Nat→Bool}
def FA(P:Program)(T k off ft:Nat):Prop:=fldA P T k=some (off,ft)∧P.cellsOf ft≠0∧(P.underlying ft).isSome=true
theorem zfr{t k off ft:Nat}{x:Operand}{cells:List PV}(hf:FA P t k off ft)(h:(o.op,ev τ x)=(.fieldAddr t x k,.rp cells)):Rd P o τ H X (.rp (cells.drop off)):=by
 simp only[Prod.mk.injEq]at h
 exact rd_faddr_rp h.1 hf.1 hf.2.1 hf.2.2 h.2
theorem zB(id:Nat){t T:TypeId}{x y:Operand}{k:Nat}{p:Option Value}{cells l:List AV}(hsz:P.cellsOf t=l.length)(hi:(P.info? t).isSome=true)(h:(o.op,o.dst,ev τ x,H id,cellsA (ev τ y),Nat.ble (k+l.length) cells.length)=(.store t x y,none,.ptr id 0 k,.box T p cells,some l,true)) :
 St P o N τ H [id] τ (upd H id (.box T p (cells.take k++l++cells.drop (k+l.length)))):=
 St.storeBox (P:=P) (o:=o) (N:=N) (τ:=τ) (H:=H) id (t:=t) (T:=T) (x:=x) (y:=y) (k:=k) (p:=p) (cells:=cells) (l:=l) (congrArg (·.1) h) (congrArg (·.2.1) h) (congrArg (·.2.2.1) h) (congrArg (·.2.2.2.1) h) (congrArg (·.2.2.2.2.1) h) hsz hi (Nat.le_of_ble_eq_true (congrArg (·.2.2.2.2.2) h))
theorem zA(id:Nat){T:TypeId}{t:Nat}{zs:List Value}(hz:zeroA P T=some zs)(h:(o.op,o.dst,Nat.blt t N)=(.alloc T,some t,true)) :
 St P o N τ H [] (upd (fun s=>kil (one? id) (τ s)) t (.ptr id 0 0)) (upd (fun j=>(H j).kil (one? id)) id (.box T none (zs.map fun c=>.p (.v c)))):=
 St.alloc (P:=P) (o:=o) (N:=N) (τ:=τ) (H:=H) id (T:=T) (t:=t) (zs:=zs) (congrArg (·.1) h) (congrArg (·.2.1) h) (Nat.le_of_ble_eq_true (congrArg (·.2.2) h)) hz
theorem zX(id:Nat){T:TypeId}{t:Nat}{x:Operand}{l:List AV}(h:(o.op,o.dst,Nat.blt t N,cellsA (ev τ x))=(.box T x,some t,true,some l)) :
 St P o N τ H [] (upd (fun s=>kil (one? id) (τ s)) t (.ptr id 0 0)) (upd (fun j=>(H j).kil (one? id)) id (.box T none (kilL (one? id) l))):=
 St.box (P:=P) (o:=o) (N:=N) (τ:=τ) (H:=H) id (T:=T) (t:=t) (x:=x) (l:=l) (congrArg (·.1) h) (congrArg (·.2.1) h) (Nat.le_of_ble_eq_true (congrArg (·.2.2.1) h)) (congrArg (·.2.2.2) h)
theorem zC(r:List (Nat×Nat))(kl pl:List Nat){y:Operand}{l:List Operand}{ts:Array TypeId}{f:FuncId}{fn:Func}{fs caps args:List AV}{ob0 ob1:List (Nat×AO)}{x:AV}(hf:P.funcs[f]? = some fn)(hc:GC P f args ob0 x ob1)(hp:pins ob0 ob1 pl)
 (h : (o.op,dstOk o.dst N,ev τ y,(fn.name == "runtime.NumGoroutine"),fn.body.isNone,renL (sw r) (fs ++ l.map (ev τ) ++ caps)) = (.call { callee := .value y,args := l.toArray,argTypes := ts },true,.clo (.func f) fs caps,false,false,args)) (h0 : allv r H ob0 = allw ob0)
 (hr:(nodupB (r.map Prod.fst)&&(nodupB (r.map Prod.snd)&&okK r kl pl))=true:=by decide) :
 St P o N τ H (exL r ob0) (updo (fun t=>kil (inK kl) (τ t)) o.dst (ren r x)) (callH r (inK kl) ob1 H):=by
 simp only[Prod.mk.injEq]at h
 simp only[Bool.and_eq_true]at hr
 exact St.call r kl pl h.1 (dstOk.at h.2.1) h.2.2.1 hf h.2.2.2.1 h.2.2.2.2.1 hc hr (allv.all0 h0) hp h.2.2.2.2.2
theorem gi(t:Nat){f:FuncId}{fn:Func}{c:Code}{args:List AV}{ob0 ob1:List (Nat×AO)}{x:AV}(hf:P.funcs[f]? = some fn)(hb:fn.body=some c)(hn:fn.ntmps=N)(h0:(Nat.ble args.length N,fn.results.toList)=(true,[.tmp t]))
 (h:∀L O w0,AW P L O w0 N c (ofL args) (ofO ob0) (Ends [.tmp t] x ob1)):GC P f args ob0 x ob1:=GC.intro hf hb hn (Nat.le_of_ble_eq_true (congrArg (·.1) h0)) (by rw[show fn.results.toList=_ from congrArg (·.2) h0];exact⟨rfl,trivial⟩) h
theorem zL{y:Operand}{l:List Operand}{ts:Array TypeId}{f:FuncId}{fn:Func}{args:List AV}{x:AV}(hf:P.funcs[f]? = some fn)(hc:GC P f args [] x [])
 (h : (o.op,dstOk o.dst N,ev τ y,(fn.name == "runtime.NumGoroutine"),fn.body.isNone,flatA x,lendL H (l.map (ev τ))) = (.call { callee := .value y,args := l.toArray,argTypes := ts },true,.clo (.func f) [] [],false,false,true,args)) : St P o N τ H [] (updo τ o.dst x) H := by
 simp only[Prod.mk.injEq]at h
 exact St.lend h.1 (dstOk.at h.2.1) h.2.2.1 hf h.2.2.2.1 h.2.2.2.2.1 hc h.2.2.2.2.2.1 h.2.2.2.2.2.2
end
section
variable {P:Program}{L O:Nat→Prop}{w0:World}{N:Nat}{τ:Nat→AV}{H:Nat→AO}{Q:AQ}{ops:Array Oper}{l:List Oper}{F:List Nat}{n f:Nat}{X:Nat→Bool}{listed:Array Bool}{c:Code}
theorem lsB(t:Nat)(x:Bool){y:Bool}(ht:τ t=boo y)(e:y=x)(h:AL P L O w0 N ops l (upd τ t (boo x)) H Q):AL P L O w0 N ops l τ H Q:=AL.slot t _ (ht.trans (congrArg boo e)) h
theorem lsN(t:Nat)(x:Int){y:Int}(ht:τ t=int y)(e:y=x)(h:AL P L O w0 N ops l (upd τ t (int x)) H Q):AL P L O w0 N ops l τ H Q:=AL.slot t _ (ht.trans (congrArg int e)) h
theorem fsB(t:Nat)(x:Bool){y:Bool}(ht:τ t=boo y)(e:y=x)(h:AF P L O w0 N ops F n listed (upd τ t (boo x)) H Q):AF P L O w0 N ops F n listed τ H Q:=AF.slot t _ (ht.trans (congrArg boo e)) h
theorem fsN(t:Nat)(x:Int){y:Int}(ht:τ t=int y)(e:y=x)(h:AF P L O w0 N ops F n listed (upd τ t (int x)) H Q):AF P L O w0 N ops F n listed τ H Q:=AF.slot t _ (ht.trans (congrArg int e)) h
theorem asB(t:Nat)(x:Bool){y:Bool}(ht:τ t=boo y)(e:y=x)(h:AW P L O w0 N c (upd τ t (boo x)) H Q):AW P L O w0 N c τ H Q:=AW.slot t _ (ht.trans (congrArg boo e)) h
end
def Rdy(R:Prop)(N:Nat)(τ:Nat→AV)(ops:Array Oper)(o:Oper)(t:Nat):Prop:=R∧gv τ ops o=some true∧o.dst=some t∧t<N
def oAt(ops:Array Oper)(i:Nat):Oper:=ops.getD i default
theorem oAt.some{ops:Array Oper}{i:Nat}(h:Nat.blt i ops.size=true):ops[i]? = some (oAt ops i):=by
 have h':i<ops.size:=Nat.le_of_ble_eq_true h
 unfold oAt
 rw[Array.getElem?_eq_getElem h']
 simp[Array.getD,h']
section
variable {P:Program}{L O:Nat→Prop}{w0:World}{N:Nat}{τ:Nat→AV}{H:Nat→AO}{Q:AQ}{ops:Array Oper}{o:Oper}{l:List Oper}{F:List Nat}{n f:Nat}{X:Nat→Bool}{listed:Array Bool}{x:AV}{t:Nat}
theorem lq(r:Rdy (Rd P o τ H (fun _=>false) x) N τ ops o t)(K:AL P L O w0 N ops l (upd τ t x) H Q):AL P L O w0 N ops (o::l) τ H Q:=AL.rd r.1 r.2.1 r.2.2.1 r.2.2.2 K
theorem rd{X:Nat→Bool}(hr:Rd P o τ H X x)(h:(gv τ ops o,o.dst,Nat.blt t N)=(some true,some t,true)):Rdy (Rd P o τ H X x) N τ ops o t:=by
 simp only[Prod.mk.injEq]at h
 exact⟨hr,h.1,h.2.1,Nat.le_of_ble_eq_true h.2.2⟩
def tk1(ops:Array Oper)(listed:Array Bool)(i:Nat):Bool:=Nat.blt i ops.size&&(Region.ready .any ops listed==[i])
theorem tk1.at{i:Nat}(h:tk1 ops listed i=true):ops[i]? = some (oAt ops i)∧Region.ready .any ops listed=[i]:=by
 unfold tk1 at h
 rw[Bool.and_eq_true]at h
 exact⟨oAt.some h.1,by simpa using h.2⟩
theorem yq(i:Nat)(r:Rdy (Rd P (oAt ops i) τ H (fun _=>false) x) N τ ops (oAt ops i) t)(K:AG P L O w0 N ops f X n (listed.setIfInBounds i true) (upd τ t x) H Q)(hb:tk1 ops listed i=true:=by kernel_rfl):AG P L O w0 N ops f X (n+1) listed τ H Q:=
 AG.rd (tk1.at hb).1 (tk1.at hb).2 r.1 r.2.1 r.2.2.1 r.2.2.2 K
theorem vq(i:Nat)(r:Rdy (Rd P (oAt ops i) τ H (fun _=>false) x) N τ ops (oAt ops i) t)(K:AF P L O w0 N ops F n (listed.setIfInBounds i true) (upd τ t x) H Q)(hb:tk1 ops listed i=true:=by kernel_rfl):AF P L O w0 N ops F (n+1) listed τ H Q:=
 AF.rd (tk1.at hb).1 (tk1.at hb).2 r.1 r.2.1 r.2.2.1 r.2.2.2 K
theorem tq[cq:CNP Q](i:Nat)(r:Rdy (Rd P (oAt ops i) τ H X x) N τ ops (oAt ops i) t)(K:AG P L O w0 N ops f X n (listed.setIfInBounds i true) (upd τ t x) H Q)(hb:(Nat.blt i ops.size&&tkG ops f listed i)=true:=by kernel_rfl):AG P L O w0 N ops f X (n+1) listed τ H Q:=by
 rw[Bool.and_eq_true]at hb
 have hc:=and5 hb.2
 exact AG.take (oAt.some hb.1) hc.1 hc.2.1 hc.2.2.1 hc.2.2.2.1 hc.2.2.2.2 r.1 r.2.1 r.2.2.1 r.2.2.2 cq.np K
theorem sq[cq:CNP Q](i:Nat)(r:Rdy (Rd P (oAt ops i) τ H (fun _=>false) x) N τ ops (oAt ops i) t)(K:AF P L O w0 N ops F n (listed.setIfInBounds i true) (upd τ t x) H Q)(hb:(Nat.blt i ops.size&&tkF ops F listed i)=true:=by kernel_rfl):AF P L O w0 N ops F (n+1) listed τ H Q:=by
 rw[Bool.and_eq_true]at hb
 have hc:=and5 hb.2
 exact AF.take (oAt.some hb.1) hc.1 hc.2.1 hc.2.2.1 hc.2.2.2.1 hc.2.2.2.2 r.1 r.2.1 r.2.2.1 r.2.2.2 cq.np K
theorem pq[cq:CNP Q](i:Nat)(r:Rdy (Pd P (oAt ops i) τ H x) N τ ops (oAt ops i) t)(K:AF P L O w0 N ops F n (listed.setIfInBounds i true) (upd τ t x) H Q)(hb:(Nat.blt i ops.size&&tkP ops listed i)=true:=by kernel_rfl):AF P L O w0 N ops F (n+1) listed τ H Q:=by
 rw[Bool.and_eq_true]at hb
 have hc:=and4 hb.2
 exact AF.takeP (oAt.some hb.1) hc.1 hc.2.1 hc.2.2.1 hc.2.2.2 r.1 r.2.1 r.2.2.1 r.2.2.2 cq.np K
end
section
variable {P:Program}{o:Oper}{N:Nat}{τ:Nat→AV}{H:Nat→AO}
theorem zS(id:Nat)(rows:List (List PV)){t e:TypeId}{len d sz:Nat}{parts:List (Nat×Operand)}{zs:List Value}{bp:List (Nat×Nat×AV)}(he:elA P t=some (e,sz))(hz:zeroA P e=some zs)
 (h:(o.op,o.dst,Nat.blt d N,bparts (fun i=>some (i*sz,sz)) τ parts,buildv ((List.replicate len zs).flatten.map fun c=>.p (.v c)) bp,rows.length,Nat.ble (len*sz) 16777216,Nat.blt 0 sz,zs.length)=(.buildSlice t len parts.toArray,some d,true,some bp,some (rows.flatten.map AV.p),len,true,true,sz))
 (hrs:∀r∈rows,r.length=sz:=by intro r hr;simp[rowsOf]at hr;subst hr;rfl) :
 St P o N τ H [] (upd (fun s=>kil (one? id) (τ s)) d (.own id)) (upd (fun j=>(H j).kil (one? id)) id (.arr e sz rows)):=by
 simp only[Prod.mk.injEq]at h
 obtain⟨h1,h2,h3,h4,h5,h6,h7,h8,h9⟩:=h
 exact St.bslice id h1 h2 (Nat.le_of_ble_eq_true h3) he hz h9 h4 h5 rfl hrs h6 (Nat.le_of_ble_eq_true h7) (Nat.le_of_ble_eq_true h8)
theorem zP(id:Nat){t e:TypeId}{s x:Operand}{d sz:Nat}{zs:List Value}{rows rows2:List (List PV)}{pn:Option Value}(he:elA P t=some (e,sz))(hz:zeroA P e=some zs)(hb:P.bytesOf e≤512)
 (h:(o.op,o.dst,Nat.blt d N,zs.length,Nat.blt 0 sz,ev τ s,H id)=(.call { callee:=.builtin .append,args:=#[s,x],argTypes:=#[t,t] },some d,true,sz,true,.own id,.arr ⟨e,pn⟩ sz rows)) (hsrc:Src τ H x sz rows2) (hm:rows.length+rows2.length≤274877906944:=by simp[rowsOf]at *;omega) :
 St P o N τ H [id] (upd (fun s=>kil (one? id) (τ s)) d (.own id)) (upd (fun j=>(H j).kil (one? id)) id (.arr e sz (rows++rows2))):=by
 simp only[Prod.mk.injEq]at h
 obtain⟨h1,h2,h3,h4,h5,h6,h7⟩:=h
 exact St.app id h1 h2 (Nat.le_of_ble_eq_true h3) he hz h4 (Nat.le_of_ble_eq_true h5) h6 h7 hsrc (by unfold maxLen;omega) (Nat.le_trans (Nat.mul_le_mul_left _ hb) (by omega))
theorem zQ(id:Nat)(pl:List PV){t:TypeId}{e:Pin}{x y:Operand}{i k sz:Nat}{rows:List (List PV)}{row:List PV}(hsz:P.cellsOf t=pl.length)(hi:(P.info? t).isSome=true)
 (h:(o.op,o.dst,ev τ x,H id,cellsA (ev τ y),Nat.ble (k+pl.length) sz)=(.store t x y,none,.ptr id i k,.arr e sz rows,some (pl.map AV.p),true)) (hrow:rows[i]? = some row) :
 St P o N τ H [id] τ (upd H id (.arr e sz (rows.set i (row.take k++pl++row.drop (k+pl.length))))):=by
 simp only[Prod.mk.injEq]at h
 obtain⟨h1,h2,h3,h4,h5,h6⟩:=h
 exact St.storeArr id h1 h2 h3 h4 hrow h5 hsz hi (Nat.le_of_ble_eq_true h6)
variable {ops:Array Oper}{X:Nat→Bool}{t:Nat}
theorem rj(i1:Nat){T e:TypeId}{e':Pin}{y y2:Operand}{k0:IntKind}{sz id:Nat}{n1:Int}{rows:List (List PV)}(f0:elA P T=some (e,sz))(h:(o.op,ev τ y,H id,ev τ y2,n1,gv τ ops o,o.dst,Nat.blt t N)=(.indexAddr T y y2,.own id,.arr e' sz rows,.p (.v (.int k0 n1)),(i1:Int),some true,some t,true))(hi:i1<rows.length):Rdy (Rd P o τ H X (.ptr id i1 0)) N τ ops o t:=by
 simp only[Prod.mk.injEq]at h
 obtain⟨h1,h2,h3,h4,h5,h6,h7,h8⟩:=h
 exact⟨rd_iaddr_own h1 f0 h2 h3 h4 h5 hi,h6,h7,Nat.le_of_ble_eq_true h8⟩
end
section
variable {P:Program}{L O:Nat→Prop}{w0:World}{N:Nat}{τ τ':Nat→AV}{H H':Nat→AO}{Q:AQ}{ops:Array Oper}{o:Oper}{F:List Nat}{n f:Nat}{X:Nat→Bool}{listed:Array Bool}
theorem v1(i:Nat){E:List Nat}(h0:(ops[i]?,gv τ ops o)=(some o,some true))(hs:St P o N τ H E τ' H')(hF:F.contains i=true∨E=[])(h:AF P L O w0 N ops F n (listed.setIfInBounds i true) τ' H' Q):AF1 P L O w0 N ops F n listed i τ H Q:=by
 simp only[Prod.mk.injEq]at h0
 exact AF1.st h0.1 hs hF h0.2 h
theorem yl{E:List Nat}(h0:(ops[f]?,gv τ ops o)=(some o,some true))(hs:St P o N τ H E τ' H')(h:Q .normal τ' H')(hr:(Region.ready .any ops listed==[f]&&Region.ready .any ops (listed.setIfInBounds f true)==[])=true:=by kernel_rfl):AG P L O w0 N ops f X (n+1) listed τ H Q:=by
 simp only[Prod.mk.injEq]at h0
 simp only[Bool.and_eq_true,beq_iff_eq]at hr
 exact AG.last h0.1 hr.1 hr.2 hs h0.2 h
variable {id:Nat}{l l2:List Oper}{y:Code}
theorem nG{K:(Nat→AV)→(Nat→AO)→Prop}(h:K τ H):AL P L O w0 N ops [] τ H (AQ.andThen K Q):=AL.nil h
theorem sL(h:AL P L O w0 N l2.toArray l2 τ H (Q.andThen fun τ H=>AW P L O w0 N y τ H Q)):AW P L O w0 N (.seq (.region id l2.toArray false) y) τ H Q:=AW.seq (AW.list h)
theorem gA(h:AL P L O w0 N l2.toArray l2 τ H (Q.andThen fun τ H=>AW P L O w0 N y τ H Q)):AQ.andThen (fun τ H=>AW P L O w0 N (.seq (.region id l2.toArray false) y) τ H Q) Q .normal τ H:=sL (id:=id) h
theorem nA(h:AL P L O w0 N l2.toArray l2 τ H (Q.andThen fun τ H=>AW P L O w0 N y τ H Q)):AL P L O w0 N ops [] τ H (AQ.andThen (fun τ H=>AW P L O w0 N (.seq (.region id l2.toArray false) y) τ H Q) Q):=AL.nil (sL (id:=id) h)
end
theorem ofK_zip{k:List Nat}{v:List AV}:∀ {l:List (Nat×AV)},ofT (l++k.zip v)=ofK l (of2 .bad k v)
 |[]=>of2_zip
 |(s,x)::l=>funext fun t=>by simp only[List.cons_append,ofT,ofK,ofK_zip (l:=l)]
theorem ofH_zip{k:List Nat}{v:List AO}:∀ {l:List (Nat×AO)},ofO (l++k.zip v)=ofH l (of2 .gone k v)
 |[]=>of2_zipO
 |(s,x)::l=>funext fun t=>by simp only[List.cons_append,ofO,ofH,ofH_zip (l:=l)]
section
variable {P:Program}{L O:Nat→Prop}{w0:World}{N:Nat}{τ:Nat→AV}{H:Nat→AO}{Q:AQ}
theorem aW(ks os:List Nat){v:List AV}{b:List AO}{D:Type}(T:D→List (Nat×AV))(B:D→List (Nat×AO))(I:D→Prop)(μ:D→Nat){c:Code}(d:D)(h0:I d)(h1:allT (T d) τ)(h2:allO (B d) H)
 (round:∀d,I d→AW P L O w0 N c (ofK (T d) (of2 .bad ks v)) (ofH (B d) (of2 .gone os b)) (Q.andThen fun τ' H'=>∃d',I d'∧μ d'<μ d∧allT (T d') τ'∧allO (B d') H'∧at2 τ' ks=v∧at2 H' os=b)) (h3:at2 τ ks=v:=by exact nz) (h4:at2 H os=b:=by exact nz):AW P L O w0 N (.loop c) τ H Q:=
 AW.loopE (ks.zip v) (os.zip b) T B I μ d h0 h1 h2 (allT_zip h3) (allO_zip h4) fun d hI=>by
  rw[ofK_zip,ofH_zip]
  exact(round d hI).mono fun e τ' H' q=>by
   cases e<;>first|exact q|(obtain⟨d',q1,q2,q3,q4,q5,q6⟩:=q;exact⟨d',q1,q2,q3,q4,allT_zip q5,allO_zip q6⟩)
theorem aJ(ks os:List Nat){v:List AV}{b:List AO}{D:Type}(T:D→List (Nat×AV))(B:D→List (Nat×AO))(I:D→Prop){x y:Code}
 (h:AW P L O w0 N x τ H (Q.andThen fun τ H=>∃d,I d∧allT (T d) τ∧allO (B d) H∧at2 τ ks=v∧at2 H os=b)) (h2:∀d,I d→AW P L O w0 N y (ofK (T d) (of2 .bad ks v)) (ofH (B d) (of2 .gone os b)) Q) (h3:at2 τ ks=v:=by exact nz) (h4:at2 H os=b:=by exact nz):AW P L O w0 N (.seq x y) τ H Q:=
 AW.seqE (ks.zip v) (os.zip b) T B I (allT_zip h3) (allO_zip h4) (h.mono fun e τ' H' q=>by
  cases e<;>first|exact q|(obtain⟨d',q1,q3,q4,q5,q6⟩:=q;exact⟨d',q1,q3,q4,allT_zip q5,allO_zip q6⟩)) fun d hI=>by
  rw[ofK_zip,ofH_zip]
  exact h2 d hI
end
theorem eBo{τ:Nat→AV}{H:Nat→AO}{rs:List RVar}{b c:Bool}{ob1:List (Nat×AO)}(h2:allO ob1 H)(h:b=c)(h1:retX τ H rs=some (boo b):=by rfl):Ends rs (boo c) ob1 .ret τ H:=⟨by rw[h1,h],h2⟩
theorem lX{P:Program}{L O:Nat→Prop}{w0:World}{N:Nat}{ops:Array Oper}{o:Oper}{os:List Oper}{τ:Nat→AV}{H:Nat→AO}{Q:AQ}(r:List (Nat×Nat))(kl pl:List Nat){y:Operand}{l:List Operand}{ts:Array TypeId}{f:FuncId}{fn:Func}{fs caps args:List AV}{ob0:List (Nat×AO)}{R:AV→List (Nat×AO)→Prop}(hf:P.funcs[f]? = some fn)(hc:GX P f args ob0 R)(h0:all0 r H ob0)(hp:∀x ob1,R x ob1→pins ob0 ob1 pl)
 (h1:(o.op,ev τ y,renL (sw r) (fs++l.map (ev τ)++caps))=(.call { callee:=.value y,args:=l.toArray,argTypes:=ts },.clo (.func f) fs caps,args))
 (h:∀x ob1,R x ob1→AL P L O w0 N ops os (updo (fun t=>kil (inK kl) (τ t)) o.dst (ren r x)) (callH r (inK kl) ob1 H) Q)
 (ht : ∀ s,o.dst = some s → s < N := by intro s hs;cases hs;decide) (hf1 : (fn.name == "runtime.NumGoroutine") = false := by rfl) (hf2 : fn.body.isNone = false := by rfl) (hr : nodupB (r.map Prod.fst) = true ∧ nodupB (r.map Prod.snd) = true ∧ okK r kl pl = true := by exact ⟨rfl,rfl,rfl⟩) (hg : gv τ ops o = some true := by rfl) : AL P L O w0 N ops (o :: os) τ H Q :=
 AL.stx (St.callX r kl pl (Prod.mk.inj h1).1 ht (Prod.mk.inj (Prod.mk.inj h1).2).1 hf hf1 hf2 hc hr h0 hp (Prod.mk.inj (Prod.mk.inj h1).2).2) hg (by rintro _ _ ⟨x,ob,hR,rfl,rfl⟩;exact h x ob hR)
abbrev Hm(o:Oper)(N:Nat)(τ:Nat→AV)(H:Nat→AO)(X:Nat→Bool)(ops:Array Oper)(t:Nat)(x:AV)(y:Operand):Prop:=(o.op,ev τ y,gv τ ops o,o.dst,Nat.blt t N)=(.move y,x,some true,some t,true)
abbrev Ha(o:Oper)(N:Nat)(τ:Nat→AV)(H:Nat→AO)(X:Nat→Bool)(ops:Array Oper)(t:Nat)(x:AV)(y:Operand):Prop:=(o.op,ev τ y,gv τ ops o,o.dst,Nat.blt t N)=(.assign y,x,some true,some t,true)
abbrev Hb(o:Oper)(N:Nat)(τ:Nat→AV)(H:Nat→AO)(X:Nat→Bool)(ops:Array Oper)(t:Nat)(x:AV)(op:BinOp)(T yT:TypeId)(y y2:Operand)(A:IntKind):Prop:=(o.op,binv op (ev τ y) (ev τ y2),gv τ ops o,o.dst,Nat.blt t N)=(.binOp op T y y2 yT,some ((A=A),x),some true,some t,true)
abbrev Hk(o:Oper)(N:Nat)(τ:Nat→AV)(H:Nat→AO)(X:Nat→Bool)(ops:Array Oper)(t:Nat)(x:AV)(c y y2:Operand):Prop:=(o.op,pickv (ev τ c) (ev τ y) (ev τ y2),gv τ ops o,o.dst,Nat.blt t N)=(.pick c y y2,some x,some true,some t,true)
abbrev Hu(o:Oper)(N:Nat)(τ:Nat→AV)(H:Nat→AO)(X:Nat→Bool)(ops:Array Oper)(t:Nat)(x:AV)(uop:UnOp)(T:TypeId)(y:Operand):Prop:=(o.op,unv uop (ev τ y),gv τ ops o,o.dst,Nat.blt t N)=(.unOp uop T y,some (True,x),some true,some t,true)
abbrev Hx(o:Oper)(N:Nat)(τ:Nat→AV)(H:Nat→AO)(X:Nat→Bool)(ops:Array Oper)(t:Nat)(x:AV)(y:Operand)(k:Nat):Prop:=(o.op,extv (ev τ y) k,gv τ ops o,o.dst,Nat.blt t N)=(.extract y k,some x,some true,some t,true)
abbrev Hn(o:Oper)(N:Nat)(τ:Nat→AV)(H:Nat→AO)(X:Nat→Bool)(ops:Array Oper)(t:Nat)(x:AV)(y:Operand)(T:TypeId):Prop:=(o.op,lenv H (ev τ y),gv τ ops o,o.dst,Nat.blt t N)=(.call { callee:=.builtin .len,args:=#[y],argTypes:=#[T] },some x,some true,some t,true)
abbrev Ho(o:Oper)(N:Nat)(τ:Nat→AV)(H:Nat→AO)(X:Nat→Bool)(ops:Array Oper)(t:Nat)(x:AV)(y:Operand)(T T2:TypeId)(n0:Option Nat)(id k:Nat)(p:Option Value)(cells:List AV):Prop:=(o.op,ev τ y,H id,X id,ldA n0 (cells.drop k),gv τ ops o,o.dst,Nat.blt t N)=(.load T y,.ptr id 0 k,.box T2 p cells,false,some x,some true,some t,true)
abbrev Hr(o:Oper)(N:Nat)(τ:Nat→AV)(H:Nat→AO)(X:Nat→Bool)(ops:Array Oper)(t:Nat)(x:AV)(y:Operand)(T:TypeId)(n0:Option Nat)(cellp:List PV):Prop:=(o.op,ev τ y,ldA n0 (cellp.map AV.p),gv τ ops o,o.dst,Nat.blt t N)=(.load T y,.rp cellp,some x,some true,some t,true)
abbrev Hh(o:Oper)(N:Nat)(τ:Nat→AV)(H:Nat→AO)(X:Nat→Bool)(ops:Array Oper)(t:Nat)(x:AV)(op:BinOp)(T yT:TypeId)(y y2:Operand)(pre:Prop):Prop:=(o.op,binv op (ev τ y) (ev τ y2),gv τ ops o,o.dst,Nat.blt t N)=(.binOp op T y y2 yT,some (pre,x),some true,some t,true)
abbrev Hg(o:Oper)(N:Nat)(τ:Nat→AV)(H:Nat→AO)(X:Nat→Bool)(ops:Array Oper)(t:Nat)(x:AV)(op:BinOp)(T yT:TypeId)(y y2:Operand)(A:IntKind)(n1:Int):Prop:=(o.op,binv op (ev τ y) (ev τ y2),gv τ ops o,o.dst,Nat.blt t N)=(.binOp op T y y2 yT,some ((A=A∧Fits .i64 n1),x),some true,some t,true)
abbrev Hf(o:Oper)(N:Nat)(τ:Nat→AV)(H:Nat→AO)(X:Nat→Bool)(ops:Array Oper)(t:Nat)(x:AV)(k1:Nat)(T k off ft:Nat)(y:Operand)(id i1 j:Nat):Prop:=(o.op,ev τ y,(H id).here,j+off,gv τ ops o,o.dst,Nat.blt t N)=(.fieldAddr T y k,.ptr id i1 j,true,k1,some true,some t,true)
abbrev Hc(o:Oper)(N:Nat)(τ:Nat→AV)(H:Nat→AO)(X:Nat→Bool)(ops:Array Oper)(t:Nat)(x:AV)(y:Operand)(id i1 k1:Nat):Prop:=(o.op,ev τ y,(H id).here,gv τ ops o,o.dst,Nat.blt t N)=(.nilCheck y,.ptr id i1 k1,true,some true,some t,true)
abbrev Hi(o:Oper)(N:Nat)(τ:Nat→AV)(H:Nat→AO)(X:Nat→Bool)(ops:Array Oper)(t:Nat)(x:AV)(i1:Nat)(T e e2 sz:Nat)(y y2:Operand)(k0:IntKind)(n1:Int)(rows:List (List PV))(row:List PV):Prop:=(o.op,ev τ y,ev τ y2,n1,gv τ ops o,o.dst,Nat.blt t N)=(.indexAddr T y y2,.p (.lst e2 sz rows),.p (.v (.int k0 n1)),(i1:Int),some true,some t,true)
section
variable {P:Program}{o:Oper}{N:Nat}{τ:Nat→AV}{H:Nat→AO}{X:Nat→Bool}{ops:Array Oper}{y y2 c:Operand}{op:BinOp}{uop:UnOp}{T T2 yT e e2 ft:TypeId}{A k0:IntKind}{n0:Option Nat}{id k t off i1 j sz k1:Nat}{p:Option Value}{cells:List AV}{cellp:List PV}{pre:Prop}{n1:Int}{rows:List (List PV)}{row:List PV}{xi:Int}{xb:Bool}{xv:Value}{xo xp xq xt:Nat}{xl:List (List PV)}{xr:List PV}
theorem rmX(x:AV)(h:Hm o N τ H X ops t x y):Rdy (Rd P o τ H X x) N τ ops o t:=by
 have ⟨q0,h⟩:=Prod.mk.inj h
 have ⟨q1,h⟩:=Prod.mk.inj h
 have ⟨q2,h⟩:=Prod.mk.inj h
 have ⟨q3,q4⟩:=Prod.mk.inj h
 exact⟨rd_mvx (.inl q0) q1,q2,q3,Nat.le_of_ble_eq_true q4⟩
theorem rmI(h:Hm o N τ H X ops t (vI k0 xi) y):Rdy (Rd P o τ H X (vI k0 xi)) N τ ops o t:=rmX (vI k0 xi) h
theorem rmB(h:Hm o N τ H X ops t (vB xb) y):Rdy (Rd P o τ H X (vB xb)) N τ ops o t:=rmX (vB xb) h
theorem rmT(h:Hm o N τ H X ops t (vB true) y):Rdy (Rd P o τ H X (vB true)) N τ ops o t:=rmX (vB true) h
theorem rmZ(h:Hm o N τ H X ops t (vB false) y):Rdy (Rd P o τ H X (vB false)) N τ ops o t:=rmX (vB false) h
theorem rmO(h:Hm o N τ H X ops t (.own xo) y):Rdy (Rd P o τ H X (.own xo)) N τ ops o t:=rmX (.own xo) h
theorem rmP(h:Hm o N τ H X ops t (.ptr xo xp xq) y):Rdy (Rd P o τ H X (.ptr xo xp xq)) N τ ops o t:=rmX (.ptr xo xp xq) h
theorem rmL(h:Hm o N τ H X ops t (vL xt xo xl) y):Rdy (Rd P o τ H X (vL xt xo xl)) N τ ops o t:=rmX (vL xt xo xl) h
theorem qmX(x:AV)(h:Hm o N τ H (fun _=>false) ops t x y):Rdy (Pd P o τ H x) N τ ops o t:=by
 have ⟨q0,h⟩:=Prod.mk.inj h
 have ⟨q1,h⟩:=Prod.mk.inj h
 have ⟨q2,h⟩:=Prod.mk.inj h
 have ⟨q3,q4⟩:=Prod.mk.inj h
 exact⟨pd_mvx (.inl q0) q1,q2,q3,Nat.le_of_ble_eq_true q4⟩
theorem qmP(h:Hm o N τ H (fun _=>false) ops t (.ptr xo xp xq) y):Rdy (Pd P o τ H (.ptr xo xp xq)) N τ ops o t:=qmX (.ptr xo xp xq) h
theorem qmL(h:Hm o N τ H (fun _=>false) ops t (vL xt xo xl) y):Rdy (Pd P o τ H (vL xt xo xl)) N τ ops o t:=qmX (vL xt xo xl) h
theorem raX(x:AV)(h:Ha o N τ H X ops t x y):Rdy (Rd P o τ H X x) N τ ops o t:=by
 have ⟨q0,h⟩:=Prod.mk.inj h
 have ⟨q1,h⟩:=Prod.mk.inj h
 have ⟨q2,h⟩:=Prod.mk.inj h
 have ⟨q3,q4⟩:=Prod.mk.inj h
 exact⟨rd_mvx (.inr q0) q1,q2,q3,Nat.le_of_ble_eq_true q4⟩
theorem raI(h:Ha o N τ H X ops t (vI k0 xi) y):Rdy (Rd P o τ H X (vI k0 xi)) N τ ops o t:=raX (vI k0 xi) h
theorem raB(h:Ha o N τ H X ops t (vB xb) y):Rdy (Rd P o τ H X (vB xb)) N τ ops o t:=raX (vB xb) h
theorem raT(h:Ha o N τ H X ops t (vB true) y):Rdy (Rd P o τ H X (vB true)) N τ ops o t:=raX (vB true) h
theorem raZ(h:Ha o N τ H X ops t (vB false) y):Rdy (Rd P o τ H X (vB false)) N τ ops o t:=raX (vB false) h
theorem raV(h:Ha o N τ H X ops t (vV xv) y):Rdy (Rd P o τ H X (vV xv)) N τ ops o t:=raX (vV xv) h
theorem raO(h:Ha o N τ H X ops t (.own xo) y):Rdy (Rd P o τ H X (.own xo)) N τ ops o t:=raX (.own xo) h
theorem raP(h:Ha o N τ H X ops t (.ptr xo xp xq) y):Rdy (Rd P o τ H X (.ptr xo xp xq)) N τ ops o t:=raX (.ptr xo xp xq) h
theorem raL(h:Ha o N τ H X ops t (vL xt xo xl) y):Rdy (Rd P o τ H X (vL xt xo xl)) N τ ops o t:=raX (vL xt xo xl) h
theorem rbB(h:Hb o N τ H X ops t (vB xb) op T yT y y2 A):Rdy (Rd P o τ H X (vB xb)) N τ ops o t:=by
 have ⟨q0,h⟩:=Prod.mk.inj h
 have ⟨q1,h⟩:=Prod.mk.inj h
 have ⟨q2,h⟩:=Prod.mk.inj h
 have ⟨q3,q4⟩:=Prod.mk.inj h
 exact⟨rd_bin q0 q1 rfl,q2,q3,Nat.le_of_ble_eq_true q4⟩
theorem rkX(x:AV)(h:Hk o N τ H X ops t x c y y2):Rdy (Rd P o τ H X x) N τ ops o t:=by
 have ⟨q0,h⟩:=Prod.mk.inj h
 have ⟨q1,h⟩:=Prod.mk.inj h
 have ⟨q2,h⟩:=Prod.mk.inj h
 have ⟨q3,q4⟩:=Prod.mk.inj h
 exact⟨rd_pick q0 q1,q2,q3,Nat.le_of_ble_eq_true q4⟩
theorem rkB(h:Hk o N τ H X ops t (vB xb) c y y2):Rdy (Rd P o τ H X (vB xb)) N τ ops o t:=rkX (vB xb) h
theorem rkT(h:Hk o N τ H X ops t (vB true) c y y2):Rdy (Rd P o τ H X (vB true)) N τ ops o t:=rkX (vB true) h
theorem rkZ(h:Hk o N τ H X ops t (vB false) c y y2):Rdy (Rd P o τ H X (vB false)) N τ ops o t:=rkX (vB false) h
theorem ruB(h:Hu o N τ H X ops t (vB xb) uop T y):Rdy (Rd P o τ H X (vB xb)) N τ ops o t:=by
 have ⟨q0,h⟩:=Prod.mk.inj h
 have ⟨q1,h⟩:=Prod.mk.inj h
 have ⟨q2,h⟩:=Prod.mk.inj h
 have ⟨q3,q4⟩:=Prod.mk.inj h
 exact⟨rd_un q0 q1 trivial,q2,q3,Nat.le_of_ble_eq_true q4⟩
theorem ruZ(h:Hu o N τ H X ops t (vB false) uop T y):Rdy (Rd P o τ H X (vB false)) N τ ops o t:=by
 have ⟨q0,h⟩:=Prod.mk.inj h
 have ⟨q1,h⟩:=Prod.mk.inj h
 have ⟨q2,h⟩:=Prod.mk.inj h
 have ⟨q3,q4⟩:=Prod.mk.inj h
 exact⟨rd_un q0 q1 trivial,q2,q3,Nat.le_of_ble_eq_true q4⟩
theorem rxX(x:AV)(h:Hx o N τ H X ops t x y k):Rdy (Rd P o τ H X x) N τ ops o t:=by
 have ⟨q0,h⟩:=Prod.mk.inj h
 have ⟨q1,h⟩:=Prod.mk.inj h
 have ⟨q2,h⟩:=Prod.mk.inj h
 have ⟨q3,q4⟩:=Prod.mk.inj h
 exact⟨rd_ext q0 q1,q2,q3,Nat.le_of_ble_eq_true q4⟩
theorem rxI(h:Hx o N τ H X ops t (vI k0 xi) y k):Rdy (Rd P o τ H X (vI k0 xi)) N τ ops o t:=rxX (vI k0 xi) h
theorem rxB(h:Hx o N τ H X ops t (vB xb) y k):Rdy (Rd P o τ H X (vB xb)) N τ ops o t:=rxX (vB xb) h
theorem rxO(h:Hx o N τ H X ops t (.own xo) y k):Rdy (Rd P o τ H X (.own xo)) N τ ops o t:=rxX (.own xo) h
theorem rxL(h:Hx o N τ H X ops t (vL xt xo xl) y k):Rdy (Rd P o τ H X (vL xt xo xl)) N τ ops o t:=rxX (vL xt xo xl) h
theorem qxX(x:AV)(h:Hx o N τ H (fun _=>false) ops t x y k):Rdy (Pd P o τ H x) N τ ops o t:=by
 have ⟨q0,h⟩:=Prod.mk.inj h
 have ⟨q1,h⟩:=Prod.mk.inj h
 have ⟨q2,h⟩:=Prod.mk.inj h
 have ⟨q3,q4⟩:=Prod.mk.inj h
 exact⟨pd_ext q0 q1,q2,q3,Nat.le_of_ble_eq_true q4⟩
theorem qxI(h:Hx o N τ H (fun _=>false) ops t (vI k0 xi) y k):Rdy (Pd P o τ H (vI k0 xi)) N τ ops o t:=qxX (vI k0 xi) h
theorem rnI(f0:isSlice P T=true)(h:Hn o N τ H X ops t (vI k0 xi) y T):Rdy (Rd P o τ H X (vI k0 xi)) N τ ops o t:=by
 have ⟨q0,h⟩:=Prod.mk.inj h
 have ⟨q1,h⟩:=Prod.mk.inj h
 have ⟨q2,h⟩:=Prod.mk.inj h
 have ⟨q3,q4⟩:=Prod.mk.inj h
 exact⟨rd_len q0 f0 q1,q2,q3,Nat.le_of_ble_eq_true q4⟩
theorem roX(x:AV)(f0:kindA P T=some n0)(h:Ho o N τ H X ops t x y T T2 n0 id k p cells):Rdy (Rd P o τ H X x) N τ ops o t:=by
 have ⟨q0,h⟩:=Prod.mk.inj h
 have ⟨q1,h⟩:=Prod.mk.inj h
 have ⟨q2,h⟩:=Prod.mk.inj h
 have ⟨q3,h⟩:=Prod.mk.inj h
 have ⟨q4,h⟩:=Prod.mk.inj h
 have ⟨q5,h⟩:=Prod.mk.inj h
 have ⟨q6,q7⟩:=Prod.mk.inj h
 exact⟨rd_load_box q0 f0 q1 q2 q3 q4,q5,q6,Nat.le_of_ble_eq_true q7⟩
theorem roI(f0:kindA P T=some n0)(h:Ho o N τ H X ops t (vI k0 xi) y T T2 n0 id k p cells):Rdy (Rd P o τ H X (vI k0 xi)) N τ ops o t:=roX (vI k0 xi) f0 h
theorem roB(f0:kindA P T=some n0)(h:Ho o N τ H X ops t (vB xb) y T T2 n0 id k p cells):Rdy (Rd P o τ H X (vB xb)) N τ ops o t:=roX (vB xb) f0 h
theorem roO(f0:kindA P T=some n0)(h:Ho o N τ H X ops t (.own xo) y T T2 n0 id k p cells):Rdy (Rd P o τ H X (.own xo)) N τ ops o t:=roX (.own xo) f0 h
theorem roL(f0:kindA P T=some n0)(h:Ho o N τ H X ops t (vL xt xo xl) y T T2 n0 id k p cells):Rdy (Rd P o τ H X (vL xt xo xl)) N τ ops o t:=roX (vL xt xo xl) f0 h
theorem rrX(x:AV)(f0:kindA P T=some n0)(h:Hr o N τ H X ops t x y T n0 cellp):Rdy (Rd P o τ H X x) N τ ops o t:=by
 have ⟨q0,h⟩:=Prod.mk.inj h
 have ⟨q1,h⟩:=Prod.mk.inj h
 have ⟨q2,h⟩:=Prod.mk.inj h
 have ⟨q3,h⟩:=Prod.mk.inj h
 have ⟨q4,q5⟩:=Prod.mk.inj h
 exact⟨rd_load_rp q0 f0 q1 q2,q3,q4,Nat.le_of_ble_eq_true q5⟩
theorem rrI(f0:kindA P T=some n0)(h:Hr o N τ H X ops t (vI k0 xi) y T n0 cellp):Rdy (Rd P o τ H X (vI k0 xi)) N τ ops o t:=rrX (vI k0 xi) f0 h
theorem rrL(f0:kindA P T=some n0)(h:Hr o N τ H X ops t (vL xt xo xl) y T n0 cellp):Rdy (Rd P o τ H X (vL xt xo xl)) N τ ops o t:=rrX (vL xt xo xl) f0 h
theorem rhX(x:AV)(h:Hh o N τ H X ops t x op T yT y y2 pre)(hp:pre):Rdy (Rd P o τ H X x) N τ ops o t:=by
 have ⟨q0,h⟩:=Prod.mk.inj h
 have ⟨q1,h⟩:=Prod.mk.inj h
 have ⟨q2,h⟩:=Prod.mk.inj h
 have ⟨q3,q4⟩:=Prod.mk.inj h
 exact⟨rd_bin q0 q1 hp,q2,q3,Nat.le_of_ble_eq_true q4⟩
theorem rhI(h:Hh o N τ H X ops t (vI k0 xi) op T yT y y2 pre)(hp:pre):Rdy (Rd P o τ H X (vI k0 xi)) N τ ops o t:=rhX (vI k0 xi) h hp
theorem rgI(h:Hg o N τ H X ops t (vI k0 xi) op T yT y y2 A n1)(hp:i64 n1):Rdy (Rd P o τ H X (vI k0 xi)) N τ ops o t:=by
 have ⟨q0,h⟩:=Prod.mk.inj h
 have ⟨q1,h⟩:=Prod.mk.inj h
 have ⟨q2,h⟩:=Prod.mk.inj h
 have ⟨q3,q4⟩:=Prod.mk.inj h
 exact⟨rd_bin q0 q1 ⟨rfl,fits_i64 hp⟩,q2,q3,Nat.le_of_ble_eq_true q4⟩
theorem rf(k1:Nat)(f0:FA P T k off ft)(h:Hf o N τ H X ops t (.ptr id i1 k1) k1 T k off ft y id i1 j):Rdy (Rd P o τ H X (.ptr id i1 k1)) N τ ops o t:=by
 have ⟨q0,h⟩:=Prod.mk.inj h
 have ⟨q1,h⟩:=Prod.mk.inj h
 have ⟨q2,h⟩:=Prod.mk.inj h
 have ⟨q3,h⟩:=Prod.mk.inj h
 have ⟨q4,h⟩:=Prod.mk.inj h
 have ⟨q5,q6⟩:=Prod.mk.inj h
 subst q3
 exact⟨rd_faddr q0 f0.1 f0.2.1 f0.2.2 q1 q2,q4,q5,Nat.le_of_ble_eq_true q6⟩
theorem qf(k1:Nat)(f0:FA P T k off ft)(h:Hf o N τ H (fun _=>false) ops t (.ptr id i1 k1) k1 T k off ft y id i1 j):Rdy (Pd P o τ H (.ptr id i1 k1)) N τ ops o t:=by
 have ⟨q0,h⟩:=Prod.mk.inj h
 have ⟨q1,h⟩:=Prod.mk.inj h
 have ⟨q2,h⟩:=Prod.mk.inj h
 have ⟨q3,h⟩:=Prod.mk.inj h
 have ⟨q4,h⟩:=Prod.mk.inj h
 have ⟨q5,q6⟩:=Prod.mk.inj h
 subst q3
 exact⟨pd_faddr q0 f0.1 f0.2.1 f0.2.2 q1 q2,q4,q5,Nat.le_of_ble_eq_true q6⟩
theorem rc(h:Hc o N τ H X ops t (.ptr id i1 k1) y id i1 k1):Rdy (Rd P o τ H X (.ptr id i1 k1)) N τ ops o t:=by
 have ⟨q0,h⟩:=Prod.mk.inj h
 have ⟨q1,h⟩:=Prod.mk.inj h
 have ⟨q2,h⟩:=Prod.mk.inj h
 have ⟨q3,h⟩:=Prod.mk.inj h
 have ⟨q4,q5⟩:=Prod.mk.inj h
 exact⟨rd_nilc q0 q1 q2,q3,q4,Nat.le_of_ble_eq_true q5⟩
theorem qc(h:Hc o N τ H (fun _=>false) ops t (.ptr id i1 k1) y id i1 k1):Rdy (Pd P o τ H (.ptr id i1 k1)) N τ ops o t:=by
 have ⟨q0,h⟩:=Prod.mk.inj h
 have ⟨q1,h⟩:=Prod.mk.inj h
 have ⟨q2,h⟩:=Prod.mk.inj h
 have ⟨q3,h⟩:=Prod.mk.inj h
 have ⟨q4,q5⟩:=Prod.mk.inj h
 exact⟨pd_nilc q0 q1 q2,q3,q4,Nat.le_of_ble_eq_true q5⟩
theorem ri(i1:Nat)(f0:elA P T=some (e,sz))(h:Hi o N τ H X ops t (.rp row) i1 T e e2 sz y y2 k0 n1 rows row)(hr:rows[i1]? = some row):Rdy (Rd P o τ H X (.rp row)) N τ ops o t:=by
 have ⟨q0,h⟩:=Prod.mk.inj h
 have ⟨q1,h⟩:=Prod.mk.inj h
 have ⟨q2,h⟩:=Prod.mk.inj h
 have ⟨q3,h⟩:=Prod.mk.inj h
 have ⟨q4,h⟩:=Prod.mk.inj h
 have ⟨q5,q6⟩:=Prod.mk.inj h
 exact⟨rd_iaddr_p q0 f0 q1 q2 q3 hr,q4,q5,Nat.le_of_ble_eq_true q6⟩
variable {L O:Nat→Prop}{w0:World}{Q:AQ}{l:List Oper}
theorem lmI(h:Hm o N τ H (fun _=>false) ops t (vI k0 xi) y)(K:AL P L O w0 N ops l (upd τ t (vI k0 xi)) H Q):AL P L O w0 N ops (o::l) τ H Q:=lq (rmI h) K
theorem lmB(h:Hm o N τ H (fun _=>false) ops t (vB xb) y)(K:AL P L O w0 N ops l (upd τ t (vB xb)) H Q):AL P L O w0 N ops (o::l) τ H Q:=lq (rmB h) K
theorem lmT(h:Hm o N τ H (fun _=>false) ops t (vB true) y)(K:AL P L O w0 N ops l (upd τ t (vB true)) H Q):AL P L O w0 N ops (o::l) τ H Q:=lq (rmT h) K
theorem lmZ(h:Hm o N τ H (fun _=>false) ops t (vB false) y)(K:AL P L O w0 N ops l (upd τ t (vB false)) H Q):AL P L O w0 N ops (o::l) τ H Q:=lq (rmZ h) K
theorem lmO(h:Hm o N τ H (fun _=>false) ops t (.own xo) y)(K:AL P L O w0 N ops l (upd τ t (.own xo)) H Q):AL P L O w0 N ops (o::l) τ H Q:=lq (rmO h) K
theorem lmP(h:Hm o N τ H (fun _=>false) ops t (.ptr xo xp xq) y)(K:AL P L O w0 N ops l (upd τ t (.ptr xo xp xq)) H Q):AL P L O w0 N ops (o::l) τ H Q:=lq (rmP h) K
theorem lmL(h:Hm o N τ H (fun _=>false) ops t (vL xt xo xl) y)(K:AL P L O w0 N ops l (upd τ t (vL xt xo xl)) H Q):AL P L O w0 N ops (o::l) τ H Q:=lq (rmL h) K
theorem lmX(x:AV)(h:Hm o N τ H (fun _=>false) ops t x y)(K:AL P L O w0 N ops l (upd τ t x) H Q):AL P L O w0 N ops (o::l) τ H Q:=lq (rmX x h) K
theorem laI(h:Ha o N τ H (fun _=>false) ops t (vI k0 xi) y)(K:AL P L O w0 N ops l (upd τ t (vI k0 xi)) H Q):AL P L O w0 N ops (o::l) τ H Q:=lq (raI h) K
theorem laB(h:Ha o N τ H (fun _=>false) ops t (vB xb) y)(K:AL P L O w0 N ops l (upd τ t (vB xb)) H Q):AL P L O w0 N ops (o::l) τ H Q:=lq (raB h) K
theorem laT(h:Ha o N τ H (fun _=>false) ops t (vB true) y)(K:AL P L O w0 N ops l (upd τ t (vB true)) H Q):AL P L O w0 N ops (o::l) τ H Q:=lq (raT h) K
theorem laZ(h:Ha o N τ H (fun _=>false) ops t (vB false) y)(K:AL P L O w0 N ops l (upd τ t (vB false)) H Q):AL P L O w0 N ops (o::l) τ H Q:=lq (raZ h) K
theorem laV(h:Ha o N τ H (fun _=>false) ops t (vV xv) y)(K:AL P L O w0 N ops l (upd τ t (vV xv)) H Q):AL P L O w0 N ops (o::l) τ H Q:=lq (raV h) K
theorem laO(h:Ha o N τ H (fun _=>false) ops t (.own xo) y)(K:AL P L O w0 N ops l (upd τ t (.own xo)) H Q):AL P L O w0 N ops (o::l) τ H Q:=lq (raO h) K
theorem laP(h:Ha o N τ H (fun _=>false) ops t (.ptr xo xp xq) y)(K:AL P L O w0 N ops l (upd τ t (.ptr xo xp xq)) H Q):AL P L O w0 N ops (o::l) τ H Q:=lq (raP h) K
theorem laL(h:Ha o N τ H (fun _=>false) ops t (vL xt xo xl) y)(K:AL P L O w0 N ops l (upd τ t (vL xt xo xl)) H Q):AL P L O w0 N ops (o::l) τ H Q:=lq (raL h) K
theorem lbB(h:Hb o N τ H (fun _=>false) ops t (vB xb) op T yT y y2 A)(K:AL P L O w0 N ops l (upd τ t (vB xb)) H Q):AL P L O w0 N ops (o::l) τ H Q:=lq (rbB h) K
theorem lkB(h:Hk o N τ H (fun _=>false) ops t (vB xb) c y y2)(K:AL P L O w0 N ops l (upd τ t (vB xb)) H Q):AL P L O w0 N ops (o::l) τ H Q:=lq (rkB h) K
theorem lkT(h:Hk o N τ H (fun _=>false) ops t (vB true) c y y2)(K:AL P L O w0 N ops l (upd τ t (vB true)) H Q):AL P L O w0 N ops (o::l) τ H Q:=lq (rkT h) K
theorem lkZ(h:Hk o N τ H (fun _=>false) ops t (vB false) c y y2)(K:AL P L O w0 N ops l (upd τ t (vB false)) H Q):AL P L O w0 N ops (o::l) τ H Q:=lq (rkZ h) K
theorem luB(h:Hu o N τ H (fun _=>false) ops t (vB xb) uop T y)(K:AL P L O w0 N ops l (upd τ t (vB xb)) H Q):AL P L O w0 N ops (o::l) τ H Q:=lq (ruB h) K
theorem luZ(h:Hu o N τ H (fun _=>false) ops t (vB false) uop T y)(K:AL P L O w0 N ops l (upd τ t (vB false)) H Q):AL P L O w0 N ops (o::l) τ H Q:=lq (ruZ h) K
theorem lxI(h:Hx o N τ H (fun _=>false) ops t (vI k0 xi) y k)(K:AL P L O w0 N ops l (upd τ t (vI k0 xi)) H Q):AL P L O w0 N ops (o::l) τ H Q:=lq (rxI h) K
theorem lxB(h:Hx o N τ H (fun _=>false) ops t (vB xb) y k)(K:AL P L O w0 N ops l (upd τ t (vB xb)) H Q):AL P L O w0 N ops (o::l) τ H Q:=lq (rxB h) K
theorem lxO(h:Hx o N τ H (fun _=>false) ops t (.own xo) y k)(K:AL P L O w0 N ops l (upd τ t (.own xo)) H Q):AL P L O w0 N ops (o::l) τ H Q:=lq (rxO h) K
theorem lxL(h:Hx o N τ H (fun _=>false) ops t (vL xt xo xl) y k)(K:AL P L O w0 N ops l (upd τ t (vL xt xo xl)) H Q):AL P L O w0 N ops (o::l) τ H Q:=lq (rxL h) K
theorem lxX(x:AV)(h:Hx o N τ H (fun _=>false) ops t x y k)(K:AL P L O w0 N ops l (upd τ t x) H Q):AL P L O w0 N ops (o::l) τ H Q:=lq (rxX x h) K
theorem lnI(f0:isSlice P T=true)(h:Hn o N τ H (fun _=>false) ops t (vI k0 xi) y T)(K:AL P L O w0 N ops l (upd τ t (vI k0 xi)) H Q):AL P L O w0 N ops (o::l) τ H Q:=lq (rnI f0 h) K
theorem loI(f0:kindA P T=some n0)(h:Ho o N τ H (fun _=>false) ops t (vI k0 xi) y T T2 n0 id k p cells)(K:AL P L O w0 N ops l (upd τ t (vI k0 xi)) H Q):AL P L O w0 N ops (o::l) τ H Q:=lq (roI f0 h) K
theorem loB(f0:kindA P T=some n0)(h:Ho o N τ H (fun _=>false) ops t (vB xb) y T T2 n0 id k p cells)(K:AL P L O w0 N ops l (upd τ t (vB xb)) H Q):AL P L O w0 N ops (o::l) τ H Q:=lq (roB f0 h) K
theorem loO(f0:kindA P T=some n0)(h:Ho o N τ H (fun _=>false) ops t (.own xo) y T T2 n0 id k p cells)(K:AL P L O w0 N ops l (upd τ t (.own xo)) H Q):AL P L O w0 N ops (o::l) τ H Q:=lq (roO f0 h) K
theorem loL(f0:kindA P T=some n0)(h:Ho o N τ H (fun _=>false) ops t (vL xt xo xl) y T T2 n0 id k p cells)(K:AL P L O w0 N ops l (upd τ t (vL xt xo xl)) H Q):AL P L O w0 N ops (o::l) τ H Q:=lq (roL f0 h) K
theorem loX(x:AV)(f0:kindA P T=some n0)(h:Ho o N τ H (fun _=>false) ops t x y T T2 n0 id k p cells)(K:AL P L O w0 N ops l (upd τ t x) H Q):AL P L O w0 N ops (o::l) τ H Q:=lq (roX x f0 h) K
theorem lrI(f0:kindA P T=some n0)(h:Hr o N τ H (fun _=>false) ops t (vI k0 xi) y T n0 cellp)(K:AL P L O w0 N ops l (upd τ t (vI k0 xi)) H Q):AL P L O w0 N ops (o::l) τ H Q:=lq (rrI f0 h) K
theorem lrL(f0:kindA P T=some n0)(h:Hr o N τ H (fun _=>false) ops t (vL xt xo xl) y T n0 cellp)(K:AL P L O w0 N ops l (upd τ t (vL xt xo xl)) H Q):AL P L O w0 N ops (o::l) τ H Q:=lq (rrL f0 h) K
theorem lrX(x:AV)(f0:kindA P T=some n0)(h:Hr o N τ H (fun _=>false) ops t x y T n0 cellp)(K:AL P L O w0 N ops l (upd τ t x) H Q):AL P L O w0 N ops (o::l) τ H Q:=lq (rrX x f0 h) K
theorem lhI(h:Hh o N τ H (fun _=>false) ops t (vI k0 xi) op T yT y y2 pre)(hp:pre)(K:AL P L O w0 N ops l (upd τ t (vI k0 xi)) H Q):AL P L O w0 N ops (o::l) τ H Q:=lq (rhI h hp) K
theorem lgI(h:Hg o N τ H (fun _=>false) ops t (vI k0 xi) op T yT y y2 A n1)(K:AL P L O w0 N ops l (upd τ t (vI k0 xi)) H Q)(hp:i64 n1:=by unfold i64;omega):AL P L O w0 N ops (o::l) τ H Q:=lq (rgI h hp) K
theorem lf(k1:Nat)(f0:FA P T k off ft)(h:Hf o N τ H (fun _=>false) ops t (.ptr id i1 k1) k1 T k off ft y id i1 j)(K:AL P L O w0 N ops l (upd τ t (.ptr id i1 k1)) H Q):AL P L O w0 N ops (o::l) τ H Q:=lq (rf k1 f0 h) K
theorem lc(h:Hc o N τ H (fun _=>false) ops t (.ptr id i1 k1) y id i1 k1)(K:AL P L O w0 N ops l (upd τ t (.ptr id i1 k1)) H Q):AL P L O w0 N ops (o::l) τ H Q:=lq (rc h) K
theorem li(i1:Nat)(f0:elA P T=some (e,sz))(h:Hi o N τ H (fun _=>false) ops t (.rp row) i1 T e e2 sz y y2 k0 n1 rows row)(hr:rows[i1]? = some row)(K:AL P L O w0 N ops l (upd τ t (.rp row)) H Q):AL P L O w0 N ops (o::l) τ H Q:=lq (ri i1 f0 h hr) K
end

def rowO:AO→Bool
 |.arr _ _ _=>true
 |.gone=>true
 |_=>false
def rowF(F:List AO):Prop:=∀o∈F,rowO o=true
def tl(h:Nat→AO)(F:List AO):Nat→AO:=fun i=>bif Nat.blt i 1000000 then h i else (F[i-1000000]?).getD .gone
def Tl(H:Nat→AO)(F:List AO):Prop:=(∀i,H (1000000+i)=(F[i]?).getD .gone)∧rowF F
theorem rowO.kil{k:Nat→Bool}{o:AO}(h:rowO o=true):o.kil k=o:=by cases o<;>first|rfl|cases h
theorem rowO.ren{r:List (Nat×Nat)}{o:AO}(h:rowO o=true):o.ren r=o:=by cases o<;>first|rfl|cases h
theorem rowO.frz{id:Nat}{y:PV}{o:AO}(h:rowO o=true):o.frz id y=o:=by cases o<;>first|rfl|cases h
theorem rowF.nil:rowF []:=fun _ h=>by cases h
theorem rowF.at{F:List AO}(h:rowF F)(i:Nat):rowO ((F[i]?).getD .gone)=true:=by
 cases e:F[i]? with
 |none=>rfl
 |some o=>exact h o (List.mem_of_getElem? e)
theorem tl_lo{h:Nat→AO}{F:List AO}{i:Nat}(hi:i<1000000):tl h F i=h i:=by
 unfold tl
 rw[show Nat.blt i 1000000=true from Nat.ble_eq_true_of_le hi]
 rfl
theorem tl_hi{h:Nat→AO}{F:List AO}{i:Nat}:tl h F (1000000+i)=(F[i]?).getD .gone:=by
 unfold tl
 rw[show Nat.blt (1000000+i) 1000000=false from by
  cases e:Nat.blt (1000000+i) 1000000 with
  |false=>rfl
  |true=>have:1000000+i<1000000:=Nat.le_of_ble_eq_true e;omega]
 simp
theorem lo_or_hi(j:Nat):j<1000000∨∃i,j=1000000+i:=by
 rcases Nat.lt_or_ge j 1000000 with h|h
 ·exact .inl h
 ·exact .inr ⟨j-1000000,by omega⟩
theorem Tl.tl{h:Nat→AO}{F:List AO}(hF:rowF F):Tl (tl h F) F:=⟨fun _=>tl_hi,hF⟩
theorem Tl.upd{H:Nat→AO}{F:List AO}{i:Nat}{o:AO}(hi:Nat.blt i 1000000=true)(h:Tl H F):Tl (upd H i o) F:=⟨fun j=>by
 have:i<1000000:=Nat.le_of_ble_eq_true hi
 rw[upd_ne _ _ (by omega)];exact h.1 j,h.2⟩
theorem Tl.kil{H:Nat→AO}{F:List AO}{k:Nat→Bool}(h:Tl H F):Tl (fun j=>(H j).kil k) F:=⟨fun j=>by
 show (H (1000000+j)).kil k=_
 rw[h.1 j];exact rowO.kil (rowF.at h.2 j),h.2⟩
theorem Tl.frz{H:Nat→AO}{F:List AO}{id:Nat}{y:PV}(hi:Nat.blt id 1000000=true)(h:Tl H F):Tl (frzH id y H) F:=Tl.upd hi ⟨fun j=>by
 show (H (1000000+j)).frz id y=_
 rw[h.1 j];exact rowO.frz (rowF.at h.2 j),h.2⟩
theorem Tl.swap{H:Nat→AO}{F:List AO}{a b:Nat}(hi:(Nat.blt a 1000000&&Nat.blt b 1000000)=true)(h:Tl H F):Tl (fun j=>(H (swp a b j)).per a b) F:=⟨fun j=>by
 rw[Bool.and_eq_true]at hi
 have h1:a<1000000:=Nat.le_of_ble_eq_true hi.1
 have h2:b<1000000:=Nat.le_of_ble_eq_true hi.2
 have e:swp a b (1000000+j)=1000000+j:=by unfold swp;rw[if_neg (by omega),if_neg (by omega)]
 show (H (swp a b (1000000+j))).per a b=_
 rw[e,h.1 j]
 have:=rowF.at h.2 j
 cases hq:(F[j]?).getD .gone with
 |box T p cells=>rw[hq]at this;cases this
 |_=>rfl,h.2⟩
theorem rn_none{r:List (Nat×Nat)}{i:Nat}(h:∀p∈r,p.1≠i):rn r i=none:=by
 induction r with
 |nil=>rfl
 |cons p r ih=>
  obtain⟨a,b⟩:=p
  unfold rn
  rw[if_neg (fun q=>h (a,b) (by simp) q.symm)]
  exact ih (fun p hp=>h p (by simp[hp]))
def smallR(r:List (Nat×Nat)):Bool:=r.all fun p=>Nat.blt p.1 1000000&&Nat.blt p.2 1000000
theorem smallR.at{r:List (Nat×Nat)}(h:smallR r=true):∀p∈r,p.1<1000000∧p.2<1000000:=fun p hp=>by
 have:=List.all_eq_true.1 h p hp
 rw[Bool.and_eq_true]at this
 exact⟨Nat.le_of_ble_eq_true this.1,Nat.le_of_ble_eq_true this.2⟩
theorem smallR.hi{r:List (Nat×Nat)}(h:smallR r=true)(i:Nat):rn (sw r) (1000000+i)=none:=rn_none fun p hp=>by
 unfold sw at hp
 obtain⟨q,hq,rfl⟩:=List.mem_map.1 hp
 have:=(smallR.at h q hq).2
 show q.2≠_
 omega
theorem smallR.hi'{r:List (Nat×Nat)}(h:smallR r=true)(i:Nat):rn r (1000000+i)=none:=rn_none fun p hp=>by
 have:=(smallR.at h p hp).1
 omega
theorem Tl.call{H:Nat→AO}{F:List AO}{r:List (Nat×Nat)}{k:Nat→Bool}{ob1:List (Nat×AO)}(hr:smallR r=true)(h:Tl H F):Tl (callH r k ob1 H) F:=⟨fun j=>by
 unfold callH
 rw[smallR.hi hr j]
 show (H (1000000+j)).kil k=_
 rw[h.1 j];exact rowO.kil (rowF.at h.2 j),h.2⟩
def famL(n:Nat):List AO→List (Nat×AO)
 |[]=>[]
 |o::l=>(n,o)::famL (n+1) l
theorem famL_at:∀(F:List AO) (n i:Nat),ofO (famL n F) i=if n≤i then (F[i-n]?).getD .gone else .gone
 |[],n,i=>by simp[famL,ofO]
 |o::F,n,i=>by
  show (if i=n then o else ofO (famL (n+1) F) i)=_
  rw[famL_at F]
  by_cases e:i=n
  ·subst e;simp
  ·rw[if_neg e]
   by_cases h:n≤i
   ·rw[if_pos (by omega),if_pos h,show i-n=(i-(n+1))+1 by omega]
    simp
   ·rw[if_neg (by omega),if_neg h]
def smallO(l:List (Nat×AO)):Bool:=l.all fun p=>Nat.blt p.1 1000000
theorem ofO_hi:∀ {l:List (Nat×AO)} {m:List (Nat×AO)} {i:Nat},smallO l=true→ofO (l++m) (1000000+i)=ofO m (1000000+i)
 |[],m,i,_=>rfl
 |(a,o)::l,m,i,h=>by
  have h1:=List.all_eq_true.1 h (a,o) (by simp)
  have h2:a<1000000:=Nat.le_of_ble_eq_true h1
  show (if 1000000+i=a then o else ofO (l++m) (1000000+i))=_
  rw[if_neg (by omega)]
  exact ofO_hi (by unfold smallO at *;rw[List.all_cons,Bool.and_eq_true]at h;exact h.2)
theorem ofO_lo:∀ {l:List (Nat×AO)} {F:List AO} {i:Nat},i<1000000→ofO (l++famL 1000000 F) i=ofO l i
 |[],F,i,h=>by
  show ofO (famL 1000000 F) i=_
  rw[famL_at,if_neg (by omega)]
  rfl
 |(a,o)::l,F,i,h=>by
  show (if i=a then o else ofO (l++famL 1000000 F) i)=if i=a then o else ofO l i
  rw[ofO_lo h]
theorem ofO_fam{l:List (Nat×AO)}{F:List AO}(h:smallO l=true):ofO (l++famL 1000000 F)=tl (ofO l) F:=funext fun j=>by
 rcases lo_or_hi j with q|⟨i,rfl⟩
 ·rw[tl_lo q,ofO_lo q]
 ·rw[tl_hi,ofO_hi h,famL_at,if_pos (by omega)]
  simp
theorem allO_app:∀ {l m:List (Nat×AO)} {H:Nat→AO},allO l H→allO m H→allO (l++m) H
 |[],m,H,_,h=>h
 |(a,o)::l,m,H,h1,h=>⟨h1.1,allO_app h1.2 h⟩
theorem allO_fam:∀ {F:List AO} {n:Nat} {H:Nat→AO},(∀i,i<F.length→H (n+i)=(F[i]?).getD .gone)→allO (famL n F) H
 |[],n,H,_=>trivial
 |o::F,n,H,h=>⟨by have:=h 0 (by simp);simpa using this,allO_fam fun i hi=>by
  have:=h (i+1) (by simp;omega)
  rw[show n+1+i=n+(i+1) by omega];simpa using this⟩
theorem Tl.all{H:Nat→AO}{F:List AO}(h:Tl H F):allO (famL 1000000 F) H:=allO_fam fun i _=>h.1 i
theorem Tl.list{l:List (Nat×AO)}(h:smallO l=true):Tl (ofO l) []:=⟨fun i=>by have:=ofO_hi (m:=[]) (i:=i) h;rw[List.append_nil]at this;rw[this];rfl,rowF.nil⟩
section
variable {P:Program}{L O:Nat→Prop}{w0:World}{N:Nat}{τ τ':Nat→AV}{H H':Nat→AO}{Q:AQ}{c:Code}{ops:Array Oper}{l:List Oper}{F:List AO}
theorem tl_weak{h:Nat→AO}(hT:Tl H F)(hh:∀id,h id=.gone∨h id=H id):∀id,tl h F id=.gone∨tl h F id=H id:=fun id=>by
 rcases lo_or_hi id with q|⟨i,rfl⟩
 ·rw[tl_lo q];exact hh id
 ·rw[tl_hi];exact .inr (hT.1 i).symm
theorem aTt(F:List AO)(k i:List Nat){v:List AV}{b:List AO}(h:AW P L O w0 N c (of2 .bad k v) (tl (of2 .gone i b) F) Q)(h1:at2 τ k=v:=by exact nz)(h2:at2 H i=b:=by exact nz)(hT:Tl H F:=by repeat (first|exact Tl.list rfl|exact Tl.tl (by first|assumption|exact rowF.nil)|refine Tl.frz rfl ?_|refine Tl.upd rfl ?_|refine Tl.kil ?_|refine Tl.call rfl ?_|refine Tl.swap rfl ?_)):AW P L O w0 N c τ H Q:=AW.weak (at2.weak h1) (tl_weak hT (at2.weak h2)) h
theorem lTt(F:List AO)(k i:List Nat){v:List AV}{b:List AO}(h:AL P L O w0 N ops l (of2 .bad k v) (tl (of2 .gone i b) F) Q)(h1:at2 τ k=v:=by exact nz)(h2:at2 H i=b:=by exact nz)(hT:Tl H F:=by repeat (first|exact Tl.list rfl|exact Tl.tl (by first|assumption|exact rowF.nil)|refine Tl.frz rfl ?_|refine Tl.upd rfl ?_|refine Tl.kil ?_|refine Tl.call rfl ?_|refine Tl.swap rfl ?_)):AL P L O w0 N ops l τ H Q:=AL.weak (at2.weak h1) (tl_weak hT (at2.weak h2)) h
theorem fTt(F:List AO)(k i:List Nat){v:List AV}{b:List AO}{G:List Nat}{n:Nat}{listed:Array Bool}(h:AF P L O w0 N ops G n listed (of2 .bad k v) (tl (of2 .gone i b) F) Q)(h1:at2 τ k=v:=by exact nz)(h2:at2 H i=b:=by exact nz)(hT:Tl H F:=by repeat (first|exact Tl.list rfl|exact Tl.tl (by first|assumption|exact rowF.nil)|refine Tl.frz rfl ?_|refine Tl.upd rfl ?_|refine Tl.kil ?_|refine Tl.call rfl ?_|refine Tl.swap rfl ?_)):AF P L O w0 N ops G n listed τ H Q:=fun ρ fp a w hr=>by
 obtain⟨fp',hr',_⟩:=hr.weak (at2.weak (z:=AV.bad) h1) (tl_weak hT (at2.weak (z:=AO.gone) h2))
 exact h ρ fp' a w hr'
theorem AW.loopT{D:Type}(K:List (Nat×AV))(KO:List (Nat×AO))(T:D→List (Nat×AV))(B:D→List (Nat×AO))(F:D→List AO)(I:D→Prop)(μ:D→Nat)(d:D)(h0:I d)(h1:allT (T d) τ)(h2:allO (B d) H)(h3:allT K τ)(h4:allO KO H)(h5:Tl H (F d))
 (round:∀d,I d→AW P L O w0 N c (ofT (T d++K)) (tl (ofO (B d++KO)) (F d)) (Q.andThen fun τ H=>∃d',I d'∧μ d'<μ d∧allT (T d') τ∧allO (B d') H∧allT K τ∧allO KO H∧Tl H (F d'))):AW P L O w0 N (.loop c) τ H Q:=fun ρ fp a w hr=>by
 obtain⟨fp',hr',_⟩:=hr.weak (allT.app h1 h3).weak (tl_weak h5 (allO.app h2 h4).weak)
 have key:∀n (d:D),μ d=n→I d→∀ρ fp a w,RR L O w0 N (ofT (T d++K)) (tl (ofO (B d++KO)) (F d)) ρ fp a w→∀b k cs,∃e a' w',QQ L O w0 N Q e a' w'∧Arrives P (lone (b.at a (.code c::.inLoop c::k)) cs w) b k cs e a' w':=by
  intro n
  induction n using Nat.strongRecOn with
  |_ n ih=>
   intro d hn hI ρ fp a w hr b k cs
   obtain⟨e,a₁,w₁,hq,harr⟩:=round d hI ρ fp a w hr b (.inLoop c::k) cs
   obtain⟨τ₁,H₁,ρ₁,fp₁,hr₁,hq⟩:=hq
   cases e with
   |normal=>
    obtain⟨d',i1,i2,i3,i4,i5,i6,i7⟩:=hq
    obtain⟨fp₂,hr₂,_⟩:=hr₁.weak (allT.app i3 i5).weak (tl_weak i7 (allO.app i4 i6).weak)
    obtain⟨e₂,a₂,w₂,hq₂,harr₂⟩:=ih (μ d') (hn▸i2) d' rfl i1 ρ₁ fp₂ a₁ w₁ hr₂ b k cs
    exact⟨e₂,a₂,w₂,hq₂,.of_steps (Steps.trans harr (.one step_inLoop)) harr₂⟩
   |exit id=>exact⟨_,a₁,w₁,⟨τ₁,H₁,ρ₁,fp₁,hr₁,hq⟩,.pass (x:=.inLoop c) rfl (fun _ _=>.inl (by simp)) harr⟩
   |goto l=>exact⟨_,a₁,w₁,⟨τ₁,H₁,ρ₁,fp₁,hr₁,hq⟩,.pass (x:=.inLoop c) rfl (fun _ _=>.inl (by simp)) harr⟩
   |ret=>exact⟨_,a₁,w₁,⟨τ₁,H₁,ρ₁,fp₁,hr₁,hq⟩,.pass (x:=.inLoop c) rfl (fun _ _=>.inl (by simp)) harr⟩
   |panic ch=>exact⟨_,a₁,w₁,⟨τ₁,H₁,ρ₁,fp₁,hr₁,hq⟩,.pass (x:=.inLoop c) rfl (fun _ _=>.inl (by simp)) harr⟩
   |outgrown=>exact⟨_,a₁,w₁,⟨τ₁,H₁,ρ₁,fp₁,hr₁,hq⟩,.pass (x:=.inLoop c) rfl (fun _ _=>.inl (by simp)) harr⟩
 intro b k cs
 obtain⟨e,a',w',hq,harr⟩:=key (μ d) d rfl h0 ρ fp' a w hr' b k cs
 exact⟨e,a',w',hq,.of_steps (.one step_loop) harr⟩
theorem RR.rename{ρ:Nat→Value}{fp:Nat→List Nat}{a:Act}{w:World}(h:RR L O w0 N τ H ρ fp a w){i j:Nat}(hij:i≠j)(hj:H j=.gone)(hi:rowO (H i)=true)(k:Nat→Bool)(hk:k j=true) :
 RR L O w0 N (fun t=>kil k (τ t)) (upd (upd (fun x=>(H x).kil k) i .gone) j (H i)) (upd ρ j (ρ i)) (upd (upd fp i []) j (fp i)) a w:=by
 have hfj:fp j=[]:=by have:=h.ob j;rw[hj]at this;exact this
 have e1:∀x,x≠i→x≠j→upd (upd (fun x=>(H x).kil k) i .gone) j (H i) x=(H x).kil k:=fun x q1 q2=>by rw[upd_ne _ _ q2,upd_ne _ _ q1]
 have ei:upd (upd (fun x=>(H x).kil k) i .gone) j (H i) i=.gone:=by rw[upd_ne _ _ hij,upd_same]
 have ej:upd (upd (fun x=>(H x).kil k) i .gone) j (H i) j=H i:=upd_same _ _ _
 generalize hH':upd (upd (fun x=>(H x).kil k) i .gone) j (H i)=H' at *
 have hlive:∀b,live L (upd ρ j (ρ i)) H' b→live L ρ H b:=by
  rintro b (hl|⟨x,q1,q2⟩)
  ·exact .inl hl
  ·by_cases xj:x=j
   ·subst xj;rw[ej]at q1;rw[upd_same]at q2;exact .inr ⟨i,q1,q2⟩
   ·rw[upd_ne _ _ xj]at q2
    by_cases xi:x=i
    ·subst xi;rw[ei]at q1;cases q1
    ·rw[e1 x xi xj,AO.kil_here]at q1;exact .inr ⟨x,q1,q2⟩
 have E:Env L ρ (upd ρ j (ρ i)) H H' w w k:=⟨Nat.le_refl _,fun b _ hn=>⟨rfl,fun hl=>hn (hlive b hl)⟩,fun x hx hh=>by
  have xj:x≠j:=fun q=>by subst q;rw[hk]at hx;cases hx
  by_cases xi:x=i
  ·subst xi;rw[ei]at hh;cases hh
  ·rw[e1 x xi xj]at hh ⊢
   rw[AO.kil_here]at hh
   exact⟨hh,upd_ne _ _ xj,AO.kil_len _ _,AO.kil_sz _ _⟩⟩
 refine⟨h.chg,h.size,h.defers,fun t=>RV.env E _ (h.tm t),fun x=>?_,fun x y hxy b hb hb'=>?_,fun x b hb=>?_,h.lo⟩
 ·by_cases xj:x=j
  ·subst xj
   rw[ej,upd_same,upd_same]
   have:=(h.ob i).env E (fun b _=>rfl)
   rwa [rowO.kil hi]at this
  ·rw[upd_ne _ _ xj,upd_ne _ _ xj]
   by_cases xi:x=i
   ·subst xi;rw[ei,upd_same];rfl
   ·rw[e1 x xi xj,upd_ne _ _ xi]
    exact(h.ob x).env E (fun b _=>rfl)
 ·have f:∀x,x≠j→x≠i→upd (upd fp i []) j (fp i) x=fp x:=fun x q1 q2=>by rw[upd_ne _ _ q1,upd_ne _ _ q2]
  have fj:upd (upd fp i []) j (fp i) j=fp i:=upd_same _ _ _
  have fi:upd (upd fp i []) j (fp i) i=[]:=by rw[upd_ne _ _ hij,upd_same]
  by_cases xi:x=i
  ·subst xi;rw[fi]at hb;cases hb
  by_cases yi:y=i
  ·subst yi;rw[fi]at hb';cases hb'
  by_cases xj:x=j
  ·subst xj
   rw[fj]at hb;rw[f y (Ne.symm hxy) yi]at hb'
   exact h.dj i y (Ne.symm yi) b hb hb'
  ·rw[f x xj xi]at hb
   by_cases yj:y=j
   ·subst yj;rw[fj]at hb';exact h.dj x i xi b hb hb'
   ·rw[f y yj yi]at hb';exact h.dj x y hxy b hb hb'
 ·by_cases xj:x=j
  ·subst xj;rw[upd_same]at hb;exact h.own i b hb
  ·rw[upd_ne _ _ xj]at hb
   by_cases xi:x=i
   ·subst xi;rw[upd_same]at hb;cases hb
   ·rw[upd_ne _ _ xi]at hb;exact h.own x b hb
end

mutual
def lowA:AV→Bool
 |.own id=>Nat.blt id 1000000
 |.sub id _ _=>Nat.blt id 1000000
 |.ptr id _ _=>Nat.blt id 1000000
 |.agg cs=>lowL cs
 |.tup cs=>lowL cs
 |.clo _ f cs=>lowL f&&lowL cs
 |_=>true
def lowL:List AV→Bool
 |[]=>true
 |x::xs=>lowA x&&lowL xs
end
def lowO:AO→Bool
 |.box _ _ cells=>lowL cells
 |_=>true
def lowEq{α:Type}(k k':Nat→α):Prop:=∀i,i<1000000→k i=k' i
mutual
theorem kil_low{k k':Nat→Bool}(h:lowEq k k'):∀x,lowA x=true→kil k x=kil k' x
 |.own id,q=>by rw[kil,kil,h id (Nat.le_of_ble_eq_true q)]
 |.sub id off len,q=>by rw[kil,kil,h id (Nat.le_of_ble_eq_true q)]
 |.ptr id r c,q=>by rw[kil,kil,h id (Nat.le_of_ble_eq_true q)]
 |.agg cs,q=>by rw[kil,kil,kilL_low h cs q]
 |.tup cs,q=>by rw[kil,kil,kilL_low h cs q]
 |.clo fn f cs,q=>by
  have q':lowL f=true∧lowL cs=true:=by rw[←Bool.and_eq_true];exact q
  rw[kil,kil,kilL_low h f q'.1,kilL_low h cs q'.2]
 |.p _,_=>by simp[kil]
 |.rp _,_=>by simp[kil]
 |.dead,_=>by simp[kil]
 |.bad,_=>by simp[kil]
theorem kilL_low{k k':Nat→Bool}(h:lowEq k k'):∀l,lowL l=true→kilL k l=kilL k' l
 |[],_=>rfl
 |x::xs,q=>by
  have q':lowA x=true∧lowL xs=true:=by rw[←Bool.and_eq_true];exact q
  rw[kilL,kilL,kil_low h x q'.1,kilL_low h xs q'.2]
end
theorem lowO.kil{k k':Nat→Bool}(h:lowEq k k'){o:AO}(q:lowO o=true):o.kil k=o.kil k':=by
 cases o with
 |box T p cells=>show AO.box T p _=AO.box T p _;rw[kilL_low h cells q]
 |_=>rfl
mutual
theorem ren_low{r r':List (Nat×Nat)}(h:lowEq (rn r) (rn r')):∀x,lowA x=true→ren r x=ren r' x
 |.own id,q=>by rw[ren,ren,h id (Nat.le_of_ble_eq_true q)]
 |.sub id off len,q=>by rw[ren,ren,h id (Nat.le_of_ble_eq_true q)]
 |.ptr id i c,q=>by rw[ren,ren,h id (Nat.le_of_ble_eq_true q)]
 |.agg cs,q=>by rw[ren,ren,renL_low h cs q]
 |.tup cs,q=>by rw[ren,ren,renL_low h cs q]
 |.clo fn f cs,q=>by
  have q':lowL f=true∧lowL cs=true:=by rw[←Bool.and_eq_true];exact q
  rw[ren,ren,renL_low h f q'.1,renL_low h cs q'.2]
 |.p _,_=>by simp[ren]
 |.rp _,_=>by simp[ren]
 |.dead,_=>by simp[ren]
 |.bad,_=>by simp[ren]
theorem renL_low{r r':List (Nat×Nat)}(h:lowEq (rn r) (rn r')):∀l,lowL l=true→renL r l=renL r' l
 |[],_=>rfl
 |x::xs,q=>by
  have q':lowA x=true∧lowL xs=true:=by rw[←Bool.and_eq_true];exact q
  rw[renL,renL,ren_low h x q'.1,renL_low h xs q'.2]
end
theorem lowO.ren{r r':List (Nat×Nat)}(h:lowEq (rn r) (rn r')){o:AO}(q:lowO o=true):o.ren r=o.ren r':=by
 cases o with
 |box T p cells=>show AO.box T p _=AO.box T p _;rw[renL_low h cells q]
 |_=>rfl
section
variable {P:Program}{L O:Nat→Prop}{w0:World}{N:Nat}{τ τ':Nat→AV}{H H':Nat→AO}{Q:AQ}{c:Code}{F:List AO}
theorem of2_low{k:List Nat}{v:List AV}(h:lowL v=true):∀t,lowA (of2 .bad k v t)=true:=by
 induction k generalizing v with
 |nil=>intro t;rfl
 |cons s k ih=>
  cases v with
  |nil=>intro t;rfl
  |cons x v=>
   intro t
   have q':lowA x=true∧lowL v=true:=by rw[←Bool.and_eq_true];exact h
   show lowA (if t=s then x else of2 .bad k v t)=true
   split
   ·exact q'.1
   ·exact ih q'.2 t
theorem of2_lowO{k:List Nat}{v:List AO}(h:v.all lowO=true):∀t,lowO (of2 .gone k v t)=true:=by
 induction k generalizing v with
 |nil=>intro t;rfl
 |cons s k ih=>
  cases v with
  |nil=>intro t;rfl
  |cons x v=>
   intro t
   rw[List.all_cons,Bool.and_eq_true]at h
   show lowO (if t=s then x else of2 .gone k v t)=true
   split
   ·exact h.1
   ·exact ih h.2 t
end
def prs(s M:Nat):List (Nat×Nat):=(List.range M).map fun i=>(1000000+i,1000000+s+i)
theorem rn_app{r r':List (Nat×Nat)}{i:Nat}:rn (r++r') i=match rn r i with|some j=>some j|none=>rn r' i:=by
 induction r with
 |nil=>rfl
 |cons p r ih=>
  obtain⟨a,b⟩:=p
  show (if i=a then some b else rn (r++r') i)=match (if i=a then some b else rn r i)with|some j=>some j|none=>rn r' i
  by_cases q:i=a
  ·rw[if_pos q,if_pos q]
  ·rw[if_neg q,if_neg q];exact ih
theorem sw_app{r r':List (Nat×Nat)}:sw (r++r')=sw r++sw r':=List.map_append
theorem prs_fst{s M:Nat}:((prs s M).map Prod.fst).Nodup:=by
 unfold prs
 rw[List.map_map]
 exact List.pairwise_map.2 (List.Pairwise.imp (fun{a b} (h:a≠b)=>fun q=>h (by simp at q;omega)) List.nodup_range)
theorem prs_snd{s M:Nat}:((prs s M).map Prod.snd).Nodup:=by
 unfold prs
 rw[List.map_map]
 exact List.pairwise_map.2 (List.Pairwise.imp (fun{a b} (h:a≠b)=>fun q=>h (by simp at q;omega)) List.nodup_range)
theorem rn_prs{s M i:Nat}(h:i<M):rn (prs s M) (1000000+i)=some (1000000+s+i):=mem_rn prs_fst (List.mem_map.2 ⟨i,by simpa using h,rfl⟩)
theorem prs_lo{s M i:Nat}(h:i<1000000):rn (prs s M) i=none:=rn_none fun p hp=>by
 obtain⟨j,_,rfl⟩:=List.mem_map.1 hp
 show 1000000+j≠i
 omega
theorem sw_prs_lo{s M i:Nat}(h:i<1000000):rn (sw (prs s M)) i=none:=rn_none fun p hp=>by
 unfold sw at hp
 obtain⟨q,hq,rfl⟩:=List.mem_map.1 hp
 obtain⟨j,_,rfl⟩:=List.mem_map.1 hq
 show 1000000+s+j≠i
 omega
theorem lowR{r:List (Nat×Nat)}{s M:Nat}:lowEq (rn (r++prs s M)) (rn r):=fun i hi=>by
 rw[rn_app,prs_lo hi]
 cases rn r i<;>rfl
theorem lowS{r:List (Nat×Nat)}{s M:Nat}:lowEq (rn (sw (r++prs s M))) (rn (sw r)):=fun i hi=>by
 rw[sw_app,rn_app,sw_prs_lo hi]
 cases rn (sw r) i<;>rfl
theorem app_fst{r:List (Nat×Nat)}{s M:Nat}(hr:smallR r=true)(h:(r.map Prod.fst).Nodup):((r++prs s M).map Prod.fst).Nodup:=by
 rw[List.map_append]
 refine List.nodup_append.2 ⟨h,prs_fst,fun a ha b hb hab=>?_⟩
 obtain⟨p,hp,rfl⟩:=List.mem_map.1 ha
 obtain⟨q,hq,rfl⟩:=List.mem_map.1 hb
 obtain⟨j,_,rfl⟩:=List.mem_map.1 hq
 have:=(smallR.at hr p hp).1
 simp at hab
 omega
theorem app_snd{r:List (Nat×Nat)}{s M:Nat}(hr:smallR r=true)(h:(r.map Prod.snd).Nodup):((r++prs s M).map Prod.snd).Nodup:=by
 rw[List.map_append]
 refine List.nodup_append.2 ⟨h,prs_snd,fun a ha b hb hab=>?_⟩
 obtain⟨p,hp,rfl⟩:=List.mem_map.1 ha
 obtain⟨q,hq,rfl⟩:=List.mem_map.1 hb
 obtain⟨j,_,rfl⟩:=List.mem_map.1 hq
 have:=(smallR.at hr p hp).2
 simp at hab
 omega
theorem sw_hi{r:List (Nat×Nat)}{s M m:Nat}(hr:smallR r=true):rn (sw (r++prs s M)) (1000000+m)=if s≤m∧m-s<M then some (1000000+(m-s))else none:=by
 rw[sw_app,rn_app,smallR.hi hr m]
 dsimp only
 split
 ·rename_i q
  have h1:=rn_prs (s:=s) q.2
  rw[rn_sw prs_fst prs_snd]at h1
  rw[show 1000000+s+(m-s)=1000000+m by omega]at h1
  exact h1
 ·rename_i q
  refine rn_none fun p hp=>?_
  unfold sw at hp
  obtain⟨x,hx,rfl⟩:=List.mem_map.1 hp
  obtain⟨j,hj,rfl⟩:=List.mem_map.1 hx
  have:j<M:=by simpa using hj
  show 1000000+s+j≠1000000+m
  omega
def GN(P:Program)(f:FuncId)(args:List AV)(ob0:List (Nat×AO))(F0:List AO)(R:AV→List (Nat×AO)→List AO→Prop):Prop:=
 GX P f args (ob0++famL 1000000 F0) fun x ob1=>∃l1 F1,(smallO l1&&(l1.all (fun p=>lowO p.2)&&lowA x))=true∧rowF F1∧F1.length≤10000000∧ob1=l1++famL 1000000 F1∧R x l1 F1
def kbig(kl:List Nat):Nat→Bool:=fun j=>inK kl j||Nat.ble 1000000 j
theorem ofO_all{l:List (Nat×AO)}(h:(l.all fun p=>lowO p.2)=true)(i:Nat):lowO (ofO l i)=true:=by
 induction l with
 |nil=>rfl
 |cons p l ih=>
  obtain⟨a,o⟩:=p
  rw[List.all_cons,Bool.and_eq_true]at h
  show lowO (if i=a then o else ofO l i)=true
  split
  ·exact h.1
  ·exact ih h.2
theorem kbig_lo{kl:List Nat}:lowEq (kbig kl) (inK kl):=fun i hi=>by
 unfold kbig
 have:Nat.ble 1000000 i=false:=by
  cases e:Nat.ble 1000000 i with
  |false=>rfl
  |true=>have:=Nat.le_of_ble_eq_true e;omega
 rw[this,Bool.or_false]
theorem pins_fam{ob0 l1:List (Nat×AO)}{F0 F1:List AO}:∀ {pl:List Nat},pl.all (fun i=>Nat.blt i 1000000)=true→pins ob0 l1 pl→pins (ob0++famL 1000000 F0) (l1++famL 1000000 F1) pl
 |[],_,_=>trivial
 |i::pl,hs,h=>by
  rw[List.all_cons,Bool.and_eq_true]at hs
  refine⟨?_,pins_fam hs.2 h.2⟩
  rw[ofO_lo (Nat.le_of_ble_eq_true hs.1),ofO_lo (Nat.le_of_ble_eq_true hs.1)]
  exact h.1
theorem all0_app{r:List (Nat×Nat)}{H:Nat→AO}:∀ {l m:List (Nat×AO)},all0 r H l→all0 r H m→all0 r H (l++m)
 |[],m,_,h=>h
 |(i,o)::l,m,h1,h=>⟨h1.1,all0_app h1.2 h⟩
theorem all0_fam{r:List (Nat×Nat)}{H:Nat→AO}:∀ {F:List AO} {n:Nat},(∀i,i<F.length→∃j,rn r (n+i)=some j∧(H j).ren (sw r)=(F[i]?).getD .gone)→all0 r H (famL n F)
 |[],n,_=>trivial
 |o::F,n,h=>⟨by have:=h 0 (by simp);simpa using this,all0_fam fun i hi=>by
  have:=h (i+1) (by simp;omega)
  rw[show n+1+i=n+(i+1) by omega];simpa using this⟩
theorem all0_low{r r':List (Nat×Nat)}{H:Nat→AO}(h1:∀i j,rn r i=some j→rn r' i=some j)(h2:lowEq (rn (sw r)) (rn (sw r')))(h3:∀i j,rn r i=some j→lowO (H j)=true):∀ {l:List (Nat×AO)},all0 r H l→all0 r' H l
 |[],_=>trivial
 |(i,o)::l,h=>by
  obtain⟨⟨j,q1,q2⟩,q3⟩:=h
  exact⟨⟨j,h1 i j q1,by rw[←q2];exact(lowO.ren h2 (h3 i j q1)).symm⟩,all0_low h1 h2 h3 q3⟩
theorem mem_famL:∀ {F:List AO} {n i:Nat} {o:AO},(i,o)∈famL n F→∃m,m<F.length∧i=n+m
 |[],n,i,o,h=>by cases h
 |x::F,n,i,o,h=>by
  rcases List.mem_cons.1 h with h|h
  ·injection h with h1 h2
   exact⟨0,by simp,by omega⟩
  ·obtain⟨m,q1,q2⟩:=mem_famL h
   exact⟨m+1,by simp;omega,by omega⟩
section
variable {P:Program}{o:Oper}{N:Nat}{τ:Nat→AV}{H:Nat→AO}{F:List AO}
theorem StX.callN(r:List (Nat×Nat))(kl pl:List Nat)(s:Nat){y:Operand}{l:List Operand}{ts:Array TypeId}{f:FuncId}{fn:Func}{fs caps args:List AV}{ob0:List (Nat×AO)}{F0 Fp:List AO}{R:AV→List (Nat×AO)→List AO→Prop}(hf:P.funcs[f]? = some fn)(hc:GN P f args ob0 F0 R)(hT:Tl H F)(e0:F.drop s=F0)(e1:F.take s=Fp)(hs:s≤F.length)(hM:F.length≤10000000)(hp:∀x l1 F1,R x l1 F1→pins ob0 l1 pl)
 (h : (o.op,dstOk o.dst N,ev τ y,(fn.name == "runtime.NumGoroutine"),fn.body.isNone,renL (sw r) (fs ++ l.map (ev τ) ++ caps),lowL (fs ++ l.map (ev τ) ++ caps),r.all (fun p => lowO (H p.2))) = (.call { callee := .value y,args := l.toArray,argTypes := ts },true,.clo (.func f) fs caps,false,false,args,true,true)) (h0 : allv r H ob0 = allw ob0)
 (hr:(nodupB (r.map Prod.fst)&&(nodupB (r.map Prod.snd)&&(okK r kl pl&&(smallR r&&pl.all (fun i=>Nat.blt i 1000000)))))=true:=by decide) :
 StX P o N τ H (exL r ob0++(List.range F0.length).map fun i=>1000000+s+i) fun τ' H'=>∃x l1 F1,R x l1 F1∧rowF F1∧F1.length≤10000000∧τ'=updo (fun t=>kil (kbig kl) (τ t)) o.dst (ren r x)∧H'=tl (callH r (kbig kl) l1 H) (Fp++F1):=by
 subst e0 e1
 simp only[Prod.mk.injEq]at h
 obtain⟨ho,ht,hy,hf1,hf2,ha,hlo,hlH⟩:=h
 simp only[Bool.and_eq_true]at hr
 obtain⟨hr1,hr2,hr3,hr4,hr5⟩:=hr
 have nd1:=app_fst (s:=s) (M:=10000000) hr4 (nodupB.nodup hr1)
 have nd2:=app_snd (s:=s) (M:=10000000) hr4 (nodupB.nodup hr2)
 have hlen:(F.drop s).length≤10000000:=by simp;omega
 have rnup:∀i j,rn r i=some j→rn (r++prs s 10000000) i=some j:=fun i j q=>by rw[rn_app,q]
 have lowH:∀i j,rn r i=some j→lowO (H j)=true:=fun i j q=>List.all_eq_true.1 hlH _ (rn_mem q)
 refine⟨?_⟩
 intro L O w0 ρ fp a w K Q hrr hk
 have ey:=hrr.ev y
 rw[hy,RV]at ey
 obtain⟨cf,cc,ey,e1,e2⟩:=ey
 have hv:RVL L ρ H w (fs++l.map (ev τ)++caps) (cf++l.map a.eval++cc):=(e1.append (RVL.map (fun z=>hrr.ev z) l)).append e2
 have hcall:=RR.called hrr (r:=r++prs s 10000000) (k:=kbig kl) (pl:=pl) hc nd1 nd2 (by
  refine all0_app (all0_low rnup (fun i hi=>(lowS (r:=r) (s:=s) i hi).symm) lowH (allv.all0 h0)) (all0_fam fun i hi=>?_)
  refine⟨1000000+s+i,?_,?_⟩
  ·rw[rn_app,smallR.hi' hr4 i]
   exact rn_prs (by omega)
  ·rw[show 1000000+s+i=1000000+(s+i) by omega,hT.1 (s+i),rowO.ren (rowF.at hT.2 _),List.getElem?_drop])
  (fun j hj i hi=>by
    have hjs:j<1000000:=by
     unfold kbig at hj
     rw[Bool.or_eq_false_iff]at hj
     rcases Nat.lt_or_ge j 1000000 with q|q
     ·exact q
     ·have:=Nat.ble_eq_true_of_le q;rw[hj.2]at this;cases this
    rw[lowS j hjs]at hi
    refine okK.at hr3 j ?_ i hi
    rw[←kbig_lo j hjs];exact hj)
  (fun x ob1 ⟨l1,F1,q1,q2,q3,q4,q5⟩=>by subst q4;exact pins_fam hr5 (hp x l1 F1 q5)) hv (by rw[←ha];exact(renL_low (fun i hi=>lowS i hi) _ hlo))
 have hrun:(execOp a.eval o).run P w=.ok (.enter f (cf++l.map a.eval++cc).toArray) w:=by
  simp only[execOp,ho,resolve,Deferred.ofValue,ey,invoke,callFunc,Sem.run_bind,Sem.run_pure,Result.andThen_ok,run_program,hf,hf1,hf2,Bool.false_eq_true,if_false,List.map_toArray,List.append_toArray]
 unfold Oper.wp
 rw[hrun]
 show Calls P f _ w _
 refine Calls.mono hcall ?_
 rintro e w' ⟨x,ob1,⟨l1,F1,q1,q2,q3,rfl,q5⟩,v,ρ',fp',rfl,g1,g2,g3⟩
 simp only[Bool.and_eq_true]at q1
 have eH:callH (r++prs s 10000000) (kbig kl) (l1++famL 1000000 F1) H=tl (callH r (kbig kl) l1 H) (F.take s++F1):=funext fun j=>by
  rcases lo_or_hi j with q|⟨m,rfl⟩
  ·rw[tl_lo q]
   unfold callH
   rw[lowS j q]
   cases hj:rn (sw r) j with
   |none=>rfl
   |some i=>
    have hi:i<1000000:=by
     have:=rn_mem hj
     unfold sw at this
     obtain⟨p,hp,e⟩:=List.mem_map.1 this
     injection e with e1 e2
     subst e2
     exact(smallR.at hr4 p hp).1
    show (ofO (l1++famL 1000000 F1) i).ren _=(ofO l1 i).ren _
    rw[ofO_lo hi]
    exact lowO.ren lowR (ofO_all q1.2.1 i)
  ·rw[tl_hi]
   unfold callH
   rw[sw_hi hr4]
   have hst:(F.take s).length=s:=by rw[List.length_take];omega
   by_cases c:s≤m∧m-s<10000000
   ·rw[if_pos c]
    show (ofO (l1++famL 1000000 F1) (1000000+(m-s))).ren _=_
    rw[ofO_hi q1.1,famL_at,if_pos (by omega),show 1000000+(m-s)-1000000=m-s by omega,rowO.ren (rowF.at q2 _),List.getElem?_append_right (by omega),hst]
   ·rw[if_neg c]
    show (H (1000000+m)).kil _=_
    rw[hT.1 m,rowO.kil (rowF.at hT.2 m)]
    rcases Nat.lt_or_ge m s with z|z
    ·rw[List.getElem?_append_left (by omega),List.getElem?_take_of_lt z]
    ·rw[List.getElem?_eq_none (by omega),List.getElem?_append_right (by omega),List.getElem?_eq_none (by omega)]
 have ex:ren (r++prs s 10000000) x=ren r x:=ren_low (fun i hi=>lowR i hi) x q1.2.2
 rw[eH,ex]at g2
 rw[eH]at g1
 refine hk _ _ _ _ _ _ ⟨x,l1,F1,q5,q2,q3,rfl,rfl⟩ (g1.puto o.dst g2 (dstOk.at ht)) (fun X hX=>?_)
 rw[←eH]
 refine g3 X (fun i o' hio j hj=>?_)
 rcases List.mem_append.1 hio with hio|hio
 ·obtain⟨⟨j',z1,_⟩,_⟩:(∃j',rn r i=some j'∧True)∧True:=by
   refine⟨?_,trivial⟩
   have:∀(l:List (Nat×AO)),all0 r H l→(i,o')∈l→∃j',rn r i=some j'∧True:=by
    intro l
    induction l with
    |nil=>intro _ h;cases h
    |cons p l ih=>
     obtain⟨a',b'⟩:=p
     intro h hm
     rcases List.mem_cons.1 hm with hm|hm
     ·injection hm with hm1 hm2
      subst hm1
      obtain⟨⟨j',z,_⟩,_⟩:=h
      exact⟨j',z,trivial⟩
     ·exact ih h.2 hm
   exact this ob0 (allv.all0 h0) hio
  rw[rnup i j' z1]at hj
  injection hj with hj
  subst hj
  exact hX _ (List.mem_append_left _ (List.mem_filterMap.2 ⟨_,hio,z1⟩))
 ·obtain⟨m,hm,rfl⟩:=mem_famL hio
  rw[rn_app,smallR.hi' hr4 m]at hj
  dsimp only at hj
  rw[rn_prs (by omega)]at hj
  injection hj with hj
  subst hj
  exact hX _ (List.mem_append_right _ (List.mem_map.2 ⟨m,by simpa using hm,rfl⟩))
end

inductive All2 {α β:Type} (R:α→β→Prop):List α→List β→Prop
 |nil:All2 R [] []
 |cons {a:α} {b:β} {l:List α} {m:List β}:R a b→All2 R l m→All2 R (a::l) (b::m)
theorem All2.len{α β:Type}{R:α→β→Prop}{l:List α}{m:List β}(h:All2 R l m):l.length=m.length:=by
 induction h with
 |nil=>rfl
 |cons _ _ ih=>simp[ih]
theorem All2.of{α β:Type}{R:α→β→Prop}:∀ {l:List α} {m:List β},l.length=m.length→(∀(i:Nat) (a:α) (b:β),l[i]? = some a→m[i]? = some b→R a b)→All2 R l m
 |[],[],_,_=>.nil
 |a::l,b::m,hl,h=>.cons (h 0 a b rfl rfl) (All2.of (by simpa using hl) fun i x y h1 h2=>h (i+1) x y (by simpa using h1) (by simpa using h2))
 |[],_::_,hl,_=>by cases hl
 |_::_,[],hl,_=>by cases hl
def dpC(H:Nat→AO)(p q:PV):Prop:=p=q∨∃v m e sz rows,p=.v v∧H m=.arr ⟨e,some v⟩ sz rows∧q=.lst e sz rows
section
variable {L:Nat→Prop}{ρ:Nat→Value}{H:Nat→AO}{w:World}
theorem RWL.deep(hob:∀id,∃f,OB L ρ H w (ρ id) f (H id)):∀ {x y:List PV} {c:List Value} {fp:List Nat},All2 (dpC H) x y→RWL w false x c fp→∃fp',RWL w false y c fp'
 |_,_,c,fp,.nil,h=>⟨fp,h⟩
 |_,_,c,fp,.cons h1 h2,h=>by
  rw[RWL]at h
  obtain⟨c,r,f1,f2,rfl,rfl,k1,k2⟩:=h
  obtain⟨g2,k3⟩:=RWL.deep hob h2 k2
  rcases h1 with rfl|⟨v,m,e,sz,rows,rfl,hm,rfl⟩
  ·exact⟨f1++g2,by rw[RWL];exact⟨c,r,f1,g2,rfl,rfl,k1,k3⟩⟩
  ·obtain⟨f,ho⟩:=hob m
   rw[hm]at ho
   obtain⟨g1,k4⟩:=OB.readsW ho
   have hv:ρ m=v:=by obtain⟨_,_,_,_,_,_,k⟩:=ho;exact k v rfl
   rw[RW]at k1
   rw[k1.1,←hv]
   exact⟨g1++g2,by rw[RWL];exact⟨ρ m,r,g1,g2,rfl,rfl,k4,k3⟩⟩
theorem RWR.deep(hob:∀id,∃f,OB L ρ H w (ρ id) f (H id)){sz:Nat}:∀ {x y:List (List PV)} {c:List Value} {fp:List Nat},All2 (All2 (dpC H)) x y→RWR w false sz x c fp→∃fp',RWR w false sz y c fp'
 |_,_,c,fp,.nil,h=>⟨fp,h⟩
 |_,_,c,fp,.cons h1 h2,h=>by
  rw[RWR]at h
  obtain⟨hl,c,r,f1,f2,rfl,rfl,k1,k2⟩:=h
  obtain⟨g1,k3⟩:=RWL.deep hob h1 k1
  obtain⟨g2,k4⟩:=RWR.deep hob h2 k2
  exact⟨g1++g2,by rw[RWR];exact⟨by rw[←h1.len];exact hl,c,r,g1,g2,rfl,rfl,k3,k4⟩⟩
end
def Reads(H:Nat→AO)(x y:AV):Prop:=∀ {L:Nat→Prop} {ρ:Nat→Value} {w:World} {c:Value},(∀id,∃f,OB L ρ H w (ρ id) f (H id))→RV L ρ H w x c→RV L0 ρ0 (ofO []) w y c
theorem Reads.lend{H:Nat→AO}{x y:AV}(h:lend H x=y):Reads H x y:=fun hob hx=>h▸RV.lend hob x hx
theorem Reads.own{H:Nat→AO}{id:Nat}{t:TypeId}{pt:Option Value}{sz:Nat}{rows rows':List (List PV)}(hH:H id=.arr ⟨t,pt⟩ sz rows)(h:All2 (All2 (dpC H)) rows rows'):Reads H (.own id) (.p (.lst t sz rows')):=fun{L ρ w c} hob hx=>by
 rw[RV]at hx
 have hc:=hx.2 (by rw[hH];rfl)
 obtain⟨f,ho⟩:=hob id
 rw[hH]at ho
 obtain⟨xs,fr,b1,b2,b3,b4,b5⟩:=ho
 obtain⟨g,k1⟩:=RWR.deep hob h b1
 have hr:=OB.readsW (L:=L) (ρ:=ρ) (H:=H) (w:=w) (v:=ρ id) (f:=f) (e:=⟨t,pt⟩) (sz:=sz) (rows:=rows) ⟨xs,fr,b1,b2,b3,b4,b5⟩
 rw[hc]
 rw[RV]
 have hlen:rows'.length=rows.length:=h.len.symm
 rcases b3.2 with⟨q,q2⟩|⟨gb,cap,cur,q,_,hg,hnc,hcm,_⟩
 ·refine⟨[]++g,?_,fun b _=>no_live⟩
  rw[RW]
  refine⟨xs,[],g,k1,?_,rfl⟩
  unfold SlAt
  simp only[Bool.false_eq_true,if_false]
  exact⟨none,0,by rw[q,hlen,q2],by omega,by simp[maxLen],.inl ⟨by omega,trivial⟩⟩
 ·have b3':=b3
  rw[q]at b3'
  refine⟨[gb]++g,?_,fun b _=>no_live⟩
  rw[RW]
  refine⟨xs,[gb],g,k1,?_,rfl⟩
  unfold SlAt
  simp only[Bool.false_eq_true,if_false]
  exact⟨_,cap,by rw[q,hlen],by omega,hcm,.inr ⟨gb,0,rfl,cellsAt_of_own b3',(Array.getElem?_eq_some_iff.1 hg).1,rfl⟩⟩
theorem RVL.reads{H:Nat→AO}{L:Nat→Prop}{ρ:Nat→Value}{w:World}(hob:∀id,∃f,OB L ρ H w (ρ id) f (H id)):∀ {l m:List AV} {cs:List Value},All2 (Reads H) l m→RVL L ρ H w l cs→RVL L0 ρ0 (ofO []) w m cs
 |_,_,cs,.nil,h=>by rw[RVL]at *;exact h
 |_,_,cs,.cons h1 h2,h=>by
  rw[RVL]at *
  obtain⟨c,r,rfl,k1,k2⟩:=h
  exact⟨c,r,rfl,h1 hob k1,RVL.reads hob h2 k2⟩
theorem Reads.agg{H:Nat→AO}{l m:List AV}(h:All2 (Reads H) l m):Reads H (.agg l) (.agg m):=fun hob hx=>by
 rw[RV]at *
 obtain⟨cs,rfl,h1⟩:=hx
 exact⟨cs,rfl,RVL.reads hob h h1⟩
section
variable {P:Program}{o:Oper}{N:Nat}{τ:Nat→AV}{H:Nat→AO}
theorem zLN{y:Operand}{l:List Operand}{ts:Array TypeId}{f:FuncId}{fn:Func}{args:List AV}{x:AV}(hf:P.funcs[f]? = some fn)(hc:GC P f args [] x [])
 (h : (o.op,dstOk o.dst N,ev τ y,(fn.name == "runtime.NumGoroutine"),fn.body.isNone,flatA x) = (.call { callee := .value y,args := l.toArray,argTypes := ts },true,.clo (.func f) [] [],false,false,true)) (ha : All2 (Reads H) (l.map (ev τ)) args) : St P o N τ H [] (updo τ o.dst x) H := by
 simp only[Prod.mk.injEq]at h
 obtain⟨ho,ht,hy,hf1,hf2,hx⟩:=h
 refine⟨?_⟩
 intro L O w0 ρ fp a w K Q hrr hk
 have ey:=hrr.ev y
 rw[hy,RV]at ey
 obtain⟨cf,cc,ey,e1,e2⟩:=ey
 rw[RVL]at e1 e2
 subst e1 e2
 have hv:=RVL.reads (fun id=>⟨_,hrr.ob id⟩) ha (RVL.map (fun z=>hrr.ev z) l)
 have hcall:=hc L0 w (l.map a.eval) ρ0 (fun _=>[]) (fun _ q=>q.elim) hv (fun i=>rfl) (by simp) (by simp)
 have hrun:(execOp a.eval o).run P w=.ok (.enter f (l.map a.eval).toArray) w:=by
  simp only[execOp,ho,resolve,Deferred.ofValue,ey,invoke,callFunc,Sem.run_bind,Sem.run_pure,Result.andThen_ok,run_program,hf,hf1,hf2,Bool.false_eq_true,if_false,List.map_toArray,List.append_toArray,List.nil_append,List.append_nil]
 unfold Oper.wp
 rw[hrun]
 show Calls P f _ w _
 refine Calls.mono hcall ?_
 rintro e w' ⟨_,_,⟨rfl,rfl⟩,v,ρ',fp',rfl,g1,g2,g3⟩
 have hg:Chg (fun _=>False) w w':=⟨g1.os,g1.tape,g1.output,g1.size,fun b hb _=>g1.block b hb (by simp),fun b o hb hlt=>g1.nf b o (by simpa using hb) hlt⟩
 exact hk _ _ _ _ ((hrr.grow hg).puto o.dst (RV.flat _ hx g2) (dstOk.at ht)) (fun X hX=>⟨⟨hg.size,fun b hb _=>hg.block b hb (fun q=>q)⟩,fun j h1 h2 b h3=>.inr ⟨j,h1,h2,h3⟩⟩)
end
theorem rowF.app{F G:List AO}(h:rowF F)(g:rowF G):rowF (F++G):=fun o ho=>by
 rcases List.mem_append.1 ho with q|q
 ·exact h o q
 ·exact g o q
theorem tlp{H:Nat→AO}{F:List AO}(h:Tl H F:=by repeat (first|exact Tl.list rfl|exact Tl.tl (by first|assumption|exact rowF.nil)|refine Tl.frz rfl ?_|refine Tl.upd rfl ?_|refine Tl.kil ?_|refine Tl.call rfl ?_|refine Tl.swap rfl ?_)):Tl H F:=h
def nR(R:AV→List (Nat×AO)→List AO→Prop):AV→List (Nat×AO)→Prop:=fun x ob1=>∃l1 F1,(smallO l1&&(l1.all (fun p=>lowO p.2)&&lowA x))=true∧rowF F1∧F1.length≤10000000∧ob1=l1++famL 1000000 F1∧R x l1 F1
section
variable {P:Program}{L O:Nat→Prop}{w0:World}{N:Nat}{τ:Nat→AV}{H:Nat→AO}{Q:AQ}{c:Code}{ops:Array Oper}{l:List Oper}{F:List AO}
theorem GN.intro{f:FuncId}{fn:Func}{c:Code}{args:List AV}{ob0:List (Nat×AO)}{F0:List AO}{R:AV→List (Nat×AO)→List AO→Prop}{rs:List RVar}(hf:P.funcs[f]? = some fn)(hb:fn.body=some c)(hn:fn.ntmps=N)(hl:args.length≤N)(hrs:resOk P fn.results.toList rs)(h0:smallO ob0=true)
 (h:∀L O w0,AW P L O w0 N c (ofL args) (tl (ofO ob0) F0) (EndsX rs (nR R))):GN P f args ob0 F0 R:=GX.intro hf hb hn hl hrs (fun L O w0=>by rw[ofO_fam h0];exact h L O w0)
theorem end_nret{rs:List RVar}{R:AV→List (Nat×AO)→List AO→Prop}(x:AV)(l1:List (Nat×AO)){F1:List AO}(hR:R x l1 F1)(hM:F1.length≤10000000)(h0:retX τ H rs=some x)(h1:(smallO l1&&(l1.all (fun p=>lowO p.2)&&lowA x))=true)(h2:allO l1 H)(h3:Tl H F1):EndsX rs (nR R) .ret τ H:=
 ⟨x,l1++famL 1000000 F1,⟨l1,F1,h1,h3.2,hM,rfl,hR⟩,h0,allO_app h2 h3.all⟩
end

def flatR:AO→Prop
 |.arr e sz rows=>∀r∈rows,∀p∈r,∃v,p=PV.v v
 |_=>False
theorem GX.lent{P:Program}{f:FuncId}{args args':List AV}{ob0:List (Nat×AO)}{R:AV→List (Nat×AO)→Prop}(hc:GX P f args [] R)(hl:lendL (ofO ob0) args'=args)(h0:∀p∈ob0,arrO p.2=true)
 (hR:∀x ob1,R x ob1→ownA x=true∧(∀id∈ownN x,inO ob1 id=true)∧(∀p∈ob1,flatR p.2)∧(∀p∈ob0,inO ob1 p.1=false)) :
 GX P f args' ob0 fun x ob=>∃ob1,R x ob1∧ob=ob1++ob0:=by
 intro L w cs ρ fp hL hargs hob hdj hLf
 have hv:=RVL.lend (fun id=>⟨_,hob id⟩) args' hargs
 rw[hl]at hv
 refine Calls.mono (hc L0 w cs ρ0 (fun _=>[]) (fun _ q=>q.elim) hv (fun i=>rfl) (by simp) (by simp)) ?_
 rintro e w' ⟨x,ob1,hR1,v,ρ',fp',rfl,g1,g2,g3,g4,g5⟩
 obtain⟨hx,hn,h1,hd⟩:=hR x ob1 hR1
 have hnew:∀i,∀b∈fp' i,w.heap.size≤b:=fun i b hb=>by
  rcases(g5 i b hb).1 with⟨j,q⟩|q
  ·cases q
  ·exact q
 have hsame:∀b,b<w.heap.size→w'.heap[b]? = w.heap[b]?:=fun b hb=>g1.block b hb (by simp)
 generalize hρ2:(fun i=>if inO ob1 i=true then ρ' i else ρ i)=ρ2
 generalize hf2:(fun i=>if inO ob1 i=true then fp' i else fp i)=f2
 have eρ1:∀ {i},inO ob1 i=true→ρ2 i=ρ' i:=fun{i} h=>by rw[←hρ2];simp only[h,if_true]
 have eρ0:∀ {i},inO ob1 i=false→ρ2 i=ρ i:=fun{i} h=>by rw[←hρ2];simp[h]
 have ef1:∀ {i},inO ob1 i=true→f2 i=fp' i:=fun{i} h=>by rw[←hf2];simp only[h,if_true]
 have ef0:∀ {i},inO ob1 i=false→f2 i=fp i:=fun{i} h=>by rw[←hf2];simp[h]
 have eH1:∀ {i},inO ob1 i=true→ofO (ob1++ob0) i=ofO ob1 i:=fun{i} h=>by rw[ofO_app,if_pos h]
 have eH0:∀ {i},inO ob1 i=false→ofO (ob1++ob0) i=ofO ob0 i:=fun{i} h=>by rw[ofO_app,if_neg (by simp[h])]
 have hlive:∀b,b<w.heap.size→¬live L ρ (ofO ob0) b→¬live L ρ2 (ofO (ob1++ob0)) b:=by
  rintro b hb hn (hl|⟨i,q1,q2⟩)
  ·exact hn (.inl hl)
  ·rcases hi:inO ob1 i with _|_
   ·rw[eH0 hi]at q1;rw[eρ0 hi]at q2;exact hn (.inr ⟨i,q1,q2⟩)
   ·rw[eH1 hi]at q1;rw[eρ1 hi]at q2
    have:=hnew i b ((g3 i).top q1 q2)
    omega
 have E:Env L ρ ρ2 (ofO ob0) (ofO (ob1++ob0)) w w' (inO ob1):=⟨g1.size,fun b hb hn=>⟨hsame b hb,hlive b hb hn⟩,fun i hk hi=>by
  rw[eH0 hk]at hi ⊢
  exact⟨hi,eρ0 hk,rfl,rfl⟩⟩
 refine⟨x,ob1++ob0,⟨ob1,hR1,rfl⟩,v,ρ2,f2,rfl,⟨g1.os,g1.tape,g1.output,g1.size,fun b hb _=>hsame b hb,fun b o hb hlt=>?_⟩,?_,fun i=>?_,fun i j hij b hb hb'=>?_,fun i b hb=>?_⟩
 ·rcases Nat.lt_or_ge b w.heap.size with hb2|hb2
  ·rcases hb with⟨i,hi⟩|hb
   ·rw[World.frozen?_of_block (w:=w) (hsame b hb2)]
    exact(hob i).frozen b hi o
   ·omega
  ·exact g1.nf b o (.inr hb2) hlt
 ·refine RV.owned x hx g2 fun id hid=>?_
  obtain⟨o,q1,q2⟩:=ofO_mem (hn id hid)
  have hfl:=h1 _ q1
  refine⟨?_,eρ1 (hn id hid)⟩
  rw[q2]
  cases o with
  |arr e sz rows=>rfl
  |box T p c=>exact hfl.elim
  |gone=>exact hfl.elim
 ·rcases hi:inO ob1 i with _|_
  ·rw[eH0 hi,eρ0 hi,ef0 hi]
   have h:=(hob i).env E (fun b hb=>hsame b ((hob i).lt b hb))
   have ek:(ofO ob0 i).kil (inO ob1)=ofO ob0 i:=by
    rcases hj:inO ob0 i with _|_
    ·rw[ofO_out hj];rfl
    ·obtain⟨o,q1,q2⟩:=ofO_mem hj
     have:=h0 _ q1
     rw[q2]
     cases o with
     |arr e sz rows=>rfl
     |box T p c=>cases this
     |gone=>rfl
   rwa [ek]at h
  ·rw[eH1 hi,eρ1 hi,ef1 hi]
   obtain⟨o,q1,q2⟩:=ofO_mem hi
   have hfl:=h1 _ q1
   have h:=g3 i
   rw[q2]at h ⊢
   cases o with
   |arr e sz rows=>
    obtain⟨xs,fr,k1,k2,k3,k4,k5⟩:=h
    have hfr:=k1.flat_fp hfl
    subst hfr
    exact⟨xs,[],k1,by simp,k3,k4,k5⟩
   |box T p c=>exact hfl.elim
   |gone=>exact hfl.elim
 ·rcases hi:inO ob1 i with _|_<;>rcases hj:inO ob1 j with _|_
  ·rw[ef0 hi]at hb;rw[ef0 hj]at hb';exact hdj i j hij b hb hb'
  ·rw[ef0 hi]at hb;rw[ef1 hj]at hb'
   have:=(hob i).lt b hb
   have:=hnew j b hb'
   omega
  ·rw[ef1 hi]at hb;rw[ef0 hj]at hb'
   have:=(hob j).lt b hb'
   have:=hnew i b hb
   omega
  ·rw[ef1 hi]at hb;rw[ef1 hj]at hb';exact g4 i j hij b hb hb'
 ·rcases hi:inO ob1 i with _|_
  ·rw[ef0 hi]at hb;exact⟨.inl ⟨i,hb⟩,hLf i b hb⟩
  ·rw[ef1 hi]at hb
   have:=hnew i b hb
   exact⟨.inr this,fun hl=>by have:=hL b hl;omega⟩
theorem GX.same{P:Program}{f:FuncId}{args:List AV}{ob0:List (Nat×AO)}{R R':AV→List (Nat×AO)→Prop}(h:GX P f args ob0 R)(hR:∀x ob,R x ob→∃ob',R' x ob'∧ofO ob'=ofO ob):GX P f args ob0 R':=fun L w cs ρ fp h1 h2 h3 h4 h5=>
 Calls.mono (h L w cs ρ fp h1 h2 h3 h4 h5) fun e w' ⟨x,ob,q,r⟩=>by
  obtain⟨ob',q1,q2⟩:=hR x ob q
  exact⟨x,ob',q1,by rw[q2];exact r⟩
theorem inO_fam{F:List AO}{i:Nat}(h:i<1000000):inO (famL 1000000 F) i=false:=by
 cases e:inO (famL 1000000 F) i with
 |false=>rfl
 |true=>
  obtain⟨o,q,_⟩:=ofO_mem e
  obtain⟨m,_,q2⟩:=mem_famL q
  omega
theorem inO_app{l m:List (Nat×AO)}{i:Nat}:inO (l++m) i=(inO l i||inO m i):=by unfold inO;rw[List.map_append,List.contains_eq_any_beq,List.any_append,←List.contains_eq_any_beq,←List.contains_eq_any_beq]
theorem GN.lent{P:Program}{f:FuncId}{args args':List AV}{ob0:List (Nat×AO)}{R:AV→List (Nat×AO)→List AO→Prop}(hc:GN P f args [] [] R)(hl:lendL (ofO ob0) args'=args)(h0:(ob0.all fun p=>arrO p.2&&(lowO p.2&&Nat.blt p.1 1000000))=true)
 (hR:∀x l1 F1,R x l1 F1→ownA x=true∧(∀id∈ownN x,inO l1 id=true)∧(∀p∈l1,flatR p.2)∧(∀o∈F1,flatR o)∧(∀p∈ob0,inO l1 p.1=false)) :
 GN P f args' ob0 [] fun x l F=>∃l1,R x l1 F∧l=l1++ob0:=by
 have hs:smallO ob0=true:=List.all_eq_true.2 fun p hp=>by
  have:=List.all_eq_true.1 h0 p hp
  simp only[Bool.and_eq_true]at this
  exact this.2.2
 have hlo:(ob0.all fun p=>lowO p.2)=true:=List.all_eq_true.2 fun p hp=>by
  have:=List.all_eq_true.1 h0 p hp
  simp only[Bool.and_eq_true]at this
  exact this.2.1
 have hc':GX P f args [] _:=hc
 have h:=GX.lent (ob0:=ob0) hc' hl (fun p hp=>by
  have:=List.all_eq_true.1 h0 p hp
  simp only[Bool.and_eq_true]at this
  exact this.1) (fun x ob1 ⟨l1,F1,q1,q2,q3,q4,q5⟩=>by
  subst q4
  obtain⟨r1,r2,r3,r4,r5⟩:=hR x l1 F1 q5
  refine⟨r1,fun id hid=>by rw[inO_app,r2 id hid];rfl,fun p hp=>?_,fun p hp=>?_⟩
  ·rcases List.mem_append.1 hp with hp|hp
   ·exact r3 p hp
   ·have:∀(F:List AO) (n:Nat),p∈famL n F→p.2∈F:=by
     intro F
     induction F with
     |nil=>intro n h;cases h
     |cons o F ih=>
      intro n h
      rcases List.mem_cons.1 h with h|h
      ·rw[h];simp
      ·exact List.mem_cons_of_mem _ (ih _ h)
    exact r4 _ (this _ _ hp)
  ·rw[inO_app,r5 p hp,inO_fam (Nat.le_of_ble_eq_true (List.all_eq_true.1 hs p hp))];rfl)
 show GX P f args' (ob0++[]) _
 rw[List.append_nil]
 refine h.same fun x ob ⟨ob1,⟨l1,F1,q1,q2,q3,q4,q5⟩,q6⟩=>?_
 subst q4 q6
 simp only[Bool.and_eq_true]at q1
 have s1:smallO (l1++ob0)=true:=by unfold smallO at *;rw[List.all_append,q1.1,hs];rfl
 refine⟨(l1++ob0)++famL 1000000 F1,⟨l1++ob0,F1,?_,q2,q3,rfl,l1,q5,rfl⟩,?_⟩
 ·rw[s1,List.all_append,q1.2.1,hlo,q1.2.2];rfl
 ·funext i
  rcases lo_or_hi i with q|⟨m,rfl⟩
  ·rw[ofO_lo q,ofO_app,ofO_app,inO_app,inO_fam q,Bool.or_false,ofO_lo q]
  ·rw[ofO_hi s1,List.append_assoc,ofO_hi q1.1,ofO_app]
   split
   ·rfl
   ·rename_i z
    rw[ofO_out (by simpa using z)]
    have:inO ob0 (1000000+m)=false:=by
     cases e:inO ob0 (1000000+m)with
     |false=>rfl
     |true=>
      obtain⟨o,w1,_⟩:=ofO_mem e
      have:=List.all_eq_true.1 hs _ w1
      have:1000000+m<1000000:=Nat.le_of_ble_eq_true this
      omega
    rw[ofO_out this]
theorem exK{E l:List Nat}{X:Nat→Bool}(h:E=l)(h2:l.all X=true):∀id∈E,X id=true:=fun id hid=>by subst h;exact List.all_eq_true.1 h2 id hid
end Go.Proofs.Yteblcdnhnckkaaa

