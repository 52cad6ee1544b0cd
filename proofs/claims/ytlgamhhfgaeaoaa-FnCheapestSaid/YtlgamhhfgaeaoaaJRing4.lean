/- Texts of the proof of FnRing, joined: EZ, E21, E22, E23, E24, Cur1, ET, ED1, E25, E26. -/
import Derived.Test.YtlgamhhfgaeaoaaJRing3
import Derived.Test.YtlgamhhfgaeaoaaKNum
namespace Go.Proofs.Ytlgamhhfgaeaoaa
open Go.RowKit
set_option linter.unusedSimpArgs false
set_option linter.unusedVariables false
class CNP(Q:AQ):Prop where
 np:NP Q
section
variable {K:(Nat→AV)→(Nat→AO)→Prop}{Q:AQ}{τ:Nat→AV}{H:Nat→AO}{id i:Nat}
instance [h:CNP Q]:CNP (AQ.andThen K Q):=⟨h.np⟩
instance [h:CNP Q]:CNP (AQ.inBlock id Q):=⟨h.np⟩
instance [h:CNP Q]:CNP (AQ.noGoto Q):=⟨h.np⟩
instance {rs:List RVar} {x:AV} {ob1:List (Nat×AO)}:CNP (Ends rs x ob1):=⟨NP.ends⟩
instance {rs:List RVar} {R:AV→List (Nat×AO)→Prop}:CNP (EndsX rs R):=⟨NP.endsX⟩
theorem gT(h:K τ H):AQ.andThen K Q .normal τ H:=h
theorem eT(h:Q (.exit i) τ H):AQ.andThen K Q (.exit i) τ H:=h
theorem rT(h:Q .ret τ H):AQ.andThen K Q .ret τ H:=h
theorem gB(h:Q .normal τ H):AQ.inBlock id Q .normal τ H:=h
theorem eB(h:Q .normal τ H):AQ.inBlock id Q (.exit id) τ H:=ex_block h
theorem eO(h:Q (.exit i) τ H)(hi:i≠id:=by decide):AQ.inBlock id Q (.exit i) τ H:=ex_other hi h
theorem rB(h:Q .ret τ H):AQ.inBlock id Q .ret τ H:=h
end
theorem Z{α:Sort _}{a:α}:a=a:=rfl
theorem iq{a b:Int}{x:AV}(h1:x=.p (.v (.int .i64 a)))(h:a=b:=by omega):x=.p (.v (.int .i64 b)):=by rw[h1,h]
abbrev vI(k:IntKind)(n:Int):AV:=.p (.v (.int k n))
abbrev vB(b:Bool):AV:=.p (.v (.bool b))
abbrev vV(v:Value):AV:=.p (.v v)
abbrev vL(e:TypeId)(sz:Nat)(l:List (List PV)):AV:=.p (.lst e sz l)
theorem nN{α:Type}{x:List α}(h:x=[]):x=[]:=h
theorem nC{α:Type}(x:α){l r q:List α}(h:l=x::r)(k:r=q):l=x::q:=by rw[h,k]
theorem nU{l r q:List AV}{c d:List AV}(h:l=.agg c::r)(e:c=d)(k:r=q):l=.agg d::q:=by rw[h,e,k]
theorem nT{l r q:List AV}{c d:List AV}(h:l=.tup c::r)(e:c=d)(k:r=q):l=.tup d::q:=by rw[h,e,k]
theorem nK{l r q:List AV}{f:Fn}{a c d:List AV}(h:l=.clo f a c::r)(e:c=d)(k:r=q):l=.clo f a d::q:=by rw[h,e,k]
theorem nB{l r q:List AO}{T:TypeId}{p:Option Value}{c d:List AV}(h:l=.box T p c::r)(e:c=d)(k:r=q):l=.box T p d::q:=by rw[h,e,k]
theorem nz{α:Type}{x y:List α}(h:x=y:=by repeat' (first|exact nN rfl|apply nC (vI _ _) rfl|apply nC (AV.ptr _ _ _) rfl|apply nC (vB _) rfl|apply nC (AV.own _) rfl|apply nC (vL _ _ _) rfl|apply nC (vV _) rfl|apply nU rfl|apply nC (AV.rp _) rfl|apply nC AV.dead rfl|apply nB rfl|apply nC (AO.arr _ _ _) rfl|apply nC (AV.tup []) rfl|apply nT rfl|apply nK rfl|apply nC (AV.sub _ _ _) rfl|apply nC (AV.p _) rfl|apply nC _ rfl)):x=y:=h
def ofK:List (Nat×AV)→(Nat→AV)→Nat→AV
 |[],f,t=>f t
 |(s,x)::l,f,t=>if t=s then x else ofK l f t
def ofH:List (Nat×AO)→(Nat→AO)→Nat→AO
 |[],f,t=>f t
 |(s,x)::l,f,t=>if t=s then x else ofH l f t
def of2{α:Type}(z:α):List Nat→List α→Nat→α
 |s::l,x::r,t=>if t=s then x else of2 z l r t
 |_,_,_=>z
def at2{α:Type}(τ:Nat→α):List Nat→List α
 |[]=>[]
 |s::l=>τ s::at2 τ l
theorem at2.weak{α:Type}{z:α}{τ:Nat→α}:∀ {l:List Nat} {v:List α},at2 τ l=v→∀t,of2 z l v t=z∨of2 z l v t=τ t
 |[],_,h,t=>.inl (by subst h;rfl)
 |s::l,v,h,t=>by
  subst h
  show (if t=s then τ s else of2 z l (at2 τ l) t)=z∨(if t=s then τ s else of2 z l (at2 τ l) t)=τ t
  split
  ·rename_i q;subst q;exact .inr rfl
  ·exact at2.weak rfl t
def dstOk(o:Option Nat)(N:Nat):Bool:=match o with|some t=>Nat.blt t N|none=>true
theorem dstOk.at{o:Option Nat}{N:Nat}(h:dstOk o N=true):∀s,o=some s→s<N:=fun s e=>by subst e;exact Nat.le_of_ble_eq_true h
def allv(r:List (Nat×Nat))(H:Nat→AO):List (Nat×AO)→List (Option AO)
 |[]=>[]
 |(i,_)::l=>(rn r i).map (fun j=>(H j).ren (sw r))::allv r H l
def allw:List (Nat×AO)→List (Option AO)
 |[]=>[]
 |(_,o)::l=>some o::allw l
theorem allv.all0{r:List (Nat×Nat)}{H:Nat→AO}:∀ {l:List (Nat×AO)},allv r H l=allw l→all0 r H l
 |[],_=>trivial
 |(i,o)::l,h=>by
  unfold allv allw at h
  injection h with h1 h2
  refine⟨?_,allv.all0 h2⟩
  cases e:rn r i with
  |none=>rw[e]at h1;cases h1
  |some j=>rw[e]at h1;injection h1 with h1;exact⟨j,rfl,h1⟩
section
variable {P:Program}{L O:Nat→Prop}{w0:World}{N:Nat}{τ τ':Nat→AV}{H H':Nat→AO}{Q:AQ}
theorem aS{x y:Code}(h:AW P L O w0 N x τ H (Q.andThen fun τ H=>AW P L O w0 N y τ H Q)):AW P L O w0 N (.seq x y) τ H Q:=AW.seq h
theorem aL{id:Nat}{l:List Oper}(h:AL P L O w0 N l.toArray l τ H Q):AW P L O w0 N (.region id l.toArray false) τ H Q:=AW.list h
theorem aK(h:Q .normal τ H):AW P L O w0 N .skip τ H Q:=AW.skip h
theorem aR(h:Q .ret τ H):AW P L O w0 N .ret τ H Q:=AW.ret h
theorem aE{id:Nat}(h:Q (.exit id) τ H):AW P L O w0 N (.exit id) τ H Q:=AW.exit h
theorem aB{id:Nat}{c:Code}(h:AW P L O w0 N c τ H (Q.inBlock id)):AW P L O w0 N (.block id c) τ H Q:=AW.block h
theorem aY{c:Operand}{x y:Code}(hc:ev τ c=.p (.v (.bool true)))(h:AW P L O w0 N x τ H Q):AW P L O w0 N (.cond c x y) τ H Q:=AW.yes hc h
theorem aN{c:Operand}{x y:Code}(hc:ev τ c=.p (.v (.bool false)))(h:AW P L O w0 N y τ H Q):AW P L O w0 N (.cond c x y) τ H Q:=AW.no hc h
variable {ops:Array Oper}{o:Oper}{l:List Oper}
theorem lN(h:Q .normal τ H):AL P L O w0 N ops [] τ H Q:=AL.nil h
theorem lno{t:Nat}(h:(gv τ ops o,o.dst,Nat.blt t N)=(some false,some t,true))(K:AL P L O w0 N ops l (upd τ t (.tup [])) H Q):AL P L O w0 N ops (o::l) τ H Q:=by
 simp only[Prod.mk.injEq]at h
 exact AL.no h.1 h.2.1 (Nat.le_of_ble_eq_true h.2.2) K
theorem lst{E:List Nat}(hs:St P o N τ H E τ' H')(hg:gv τ ops o=some true)(h:AL P L O w0 N ops l τ' H' Q):AL P L O w0 N ops (o::l) τ H Q:=AL.st hs hg h
theorem lT(k i:List Nat){v:List AV}{b:List AO}(h:AL P L O w0 N ops l (of2 .bad k v) (of2 .gone i b) Q)(h1:at2 τ k=v:=by exact nz)(h2:at2 H i=b:=by exact nz):AL P L O w0 N ops l τ H Q:=AL.weak (at2.weak h1) (at2.weak h2) h
end
section
variable {P:Program}{L O:Nat→Prop}{w0:World}{N:Nat}{τ τ':Nat→AV}{H H':Nat→AO}{Q:AQ}{ops:Array Oper}{o:Oper}{F:List Nat}{n f:Nat}{X:Nat→Bool}{listed:Array Bool}
def tkG(ops:Array Oper)(f:Nat)(listed:Array Bool)(i:Nat):Bool:=(Region.ready .any ops listed).contains i&&(Region.noSelect ops&&(Region.free .any ops listed i&&((reachB .any ops f).getD i false&&closedB .any ops listed)))
theorem and5{a b c d e:Bool}(h:(a&&(b&&(c&&(d&&e))))=true):a=true∧b=true∧c=true∧d=true∧e=true:=by simpa[Bool.and_eq_true]using h
theorem and4{a b c e:Bool}(h:(a&&(b&&(c&&e)))=true):a=true∧b=true∧c=true∧e=true:=by simpa[Bool.and_eq_true]using h
def tkF(ops:Array Oper)(F:List Nat)(listed:Array Bool)(i:Nat):Bool:=(Region.ready .any ops listed).contains i&&(Region.noSelect ops&&(Region.free .any ops listed i&&(reachF .any ops F listed i&&closedB .any ops listed)))
def tkP(ops:Array Oper)(listed:Array Bool)(i:Nat):Bool:=(Region.ready .any ops listed).contains i&&(Region.noSelect ops&&(Region.free .any ops listed i&&closedB .any ops listed))
theorem aF{id:Nat}(F:List Nat)(h:AF P L O w0 N ops F ops.size (Array.replicate ops.size false) τ H Q)(hm:P.follows .mixedOrders=true:=by kernel_rfl):AW P L O w0 N (.region id ops true) τ H Q:=AW.drawF F hm h
theorem aG{id:Nat}(f:Nat)(X:List Nat)(h:AG P L O w0 N ops f (inK X) ops.size (Array.replicate ops.size false) τ H Q)(hm:P.follows .mixedOrders=true:=by kernel_rfl):AW P L O w0 N (.region id ops true) τ H Q:=AW.draw f (inK X) hm h
theorem fD(h:Q .normal τ H)(hr:Region.ready .any ops listed=[]:=by kernel_rfl):AF P L O w0 N ops F n listed τ H Q:=AF.done hr h
theorem gD(h:Q .normal τ H)(hr:Region.ready .any ops listed=[]:=by kernel_rfl):AG P L O w0 N ops f X n listed τ H Q:=AG.done hr h
theorem vst(i:Nat){E:List Nat}(h0:(ops[i]?,gv τ ops o)=(some o,some true))(hs:St P o N τ H E τ' H')(hF:F.contains i=true∨E=[])(h:AF P L O w0 N ops F n (listed.setIfInBounds i true) τ' H' Q)(hr:Region.ready .any ops listed=[i]:=by kernel_rfl):AF P L O w0 N ops F (n+1) listed τ H Q:=by
 simp only[Prod.mk.injEq]at h0
 exact AF.st h0.1 hr hs hF h0.2 h
theorem vno(i:Nat){t:Nat}(h0:(ops[i]?,gv τ ops o,o.dst,Nat.blt t N)=(some o,some false,some t,true))(h:AF P L O w0 N ops F n (listed.setIfInBounds i true) (upd τ t (.tup [])) H Q)(hr:Region.ready .any ops listed=[i]:=by kernel_rfl):AF P L O w0 N ops F (n+1) listed τ H Q:=by
 simp only[Prod.mk.injEq]at h0
 exact AF.no h0.1 hr h0.2.1 h0.2.2.1 (Nat.le_of_ble_eq_true h0.2.2.2) h
theorem pno[cq:CNP Q](i:Nat){t:Nat}(h0:(ops[i]?,gv τ ops o,o.dst,Nat.blt t N)=(some o,some false,some t,true))(h:AF P L O w0 N ops F n (listed.setIfInBounds i true) (upd τ t (.tup [])) H Q)(hb:tkP ops listed i=true:=by kernel_rfl):AF P L O w0 N ops F (n+1) listed τ H Q:=by
 simp only[Prod.mk.injEq]at h0
 exact AF.skip h0.1 (and4 hb).1 (and4 hb).2.1 (and4 hb).2.2.1 (and4 hb).2.2.2 h0.2.1 h0.2.2.1 (Nat.le_of_ble_eq_true h0.2.2.2) cq.np h
theorem fTv(k:List Nat)(v:List AV)(i:List Nat)(b:List AO)(h1:at2 τ k=v)(h2:at2 H i=b)(h:AF P L O w0 N ops F n listed (of2 .bad k v) (of2 .gone i b) Q):AF P L O w0 N ops F n listed τ H Q:=fun ρ fp a w hr=>by
 obtain⟨fp',hr',_⟩:=hr.weak (at2.weak (z:=AV.bad) h1) (at2.weak (z:=AO.gone) h2)
 exact h ρ fp' a w hr'
theorem fT(k i:List Nat){v:List AV}{b:List AO}(h:AF P L O w0 N ops F n listed (of2 .bad k v) (of2 .gone i b) Q)(h1:at2 τ k=v:=by exact nz)(h2:at2 H i=b:=by exact nz):AF P L O w0 N ops F n listed τ H Q:=fTv k v i b h1 h2 h
theorem of2_zip:∀ {k:List Nat} {v:List AV},ofT (k.zip v)=of2 .bad k v
 |[],v=>funext fun t=>by simp[ofT,of2]
 |s::k,[]=>funext fun t=>by simp[ofT,of2]
 |s::k,x::v=>funext fun t=>by simp only[List.zip_cons_cons,ofT,of2,of2_zip]
theorem of2_zipO:∀ {k:List Nat} {v:List AO},ofO (k.zip v)=of2 .gone k v
 |[],v=>funext fun t=>by simp[ofO,of2]
 |s::k,[]=>funext fun t=>by simp[ofO,of2]
 |s::k,x::v=>funext fun t=>by simp only[List.zip_cons_cons,ofO,of2,of2_zipO]
theorem allT_zip:∀ {k:List Nat} {v:List AV},at2 τ k=v→allT (k.zip v) τ
 |[],v,h=>by subst h;trivial
 |s::k,v,h=>by subst h;exact⟨rfl,allT_zip rfl⟩
theorem allO_zip:∀ {k:List Nat} {v:List AO},at2 H k=v→allO (k.zip v) H
 |[],v,h=>by subst h;trivial
 |s::k,v,h=>by subst h;exact⟨rfl,allO_zip rfl⟩
def eqX(B H:Nat→AO):List Nat→Prop
 |[]=>True
 |i::l=>B i=H i∧eqX B H l
theorem eqX.to{B:List (Nat×AO)}{B':Nat→AO}(hB:ofO B=B'):∀ {X:List Nat},eqX B' H X→sameX B H X
 |[],_=>trivial
 |_::_,h=>⟨by rw[hB];exact h.1,eqX.to hB h.2⟩
theorem gXv(k:List Nat)(v:List AV)(i:List Nat)(b:List AO){X:List Nat}(h1:at2 τ k=v)(h2:at2 H i=b)(hX:eqX (of2 .gone i b) H X)(h:AG P L O w0 N ops f (inK X) n listed (of2 .bad k v) (of2 .gone i b) Q):AG P L O w0 N ops f (inK X) n listed τ H Q:=
 AG.tidyX (k.zip v) (i.zip b) (allT_zip h1) (allO_zip h2) (eqX.to of2_zipO hX) (by rw[of2_zip,of2_zipO];exact h)
theorem gX(k i:List Nat){v:List AV}{b:List AO}{X:List Nat}(h:AG P L O w0 N ops f (inK X) n listed (of2 .bad k v) (of2 .gone i b) Q)(h1:at2 τ k=v:=by exact nz)(h2:at2 H i=b:=by exact nz)(hX:eqX (of2 .gone i b) H X:=by repeat (first|exact trivial|refine⟨rfl,?_⟩)):AG P L O w0 N ops f (inK X) n listed τ H Q:=gXv k v i b h1 h2 hX h
end
section
variable {P:Program}{o:Oper}{N:Nat}{τ:Nat→AV}{H:Nat→AO}{X:Nat→Bool}
def FA(P:Program)(T k off ft:Nat):Prop:=fldA P T k=some (off,ft)∧P.cellsOf ft≠0∧(P.underlying ft).isSome=true
theorem zB(id:Nat){t T:TypeId}{x y:Operand}{k:Nat}{p:Option Value}{cells l:List AV}(hsz:P.cellsOf t=l.length)(hi:(P.info? t).isSome=true)(h:(o.op,o.dst,ev τ x,H id,cellsA (ev τ y),Nat.ble (k+l.length) cells.length)=(.store t x y,none,.ptr id 0 k,.box T p cells,some l,true)) :
 St P o N τ H [id] τ (upd H id (.box T p (cells.take k++l++cells.drop (k+l.length)))):=
 St.storeBox (P:=P) (o:=o) (N:=N) (τ:=τ) (H:=H) id (t:=t) (T:=T) (x:=x) (y:=y) (k:=k) (p:=p) (cells:=cells) (l:=l) (congrArg (·.1) h) (congrArg (·.2.1) h) (congrArg (·.2.2.1) h) (congrArg (·.2.2.2.1) h) (congrArg (·.2.2.2.2.1) h) hsz hi (Nat.le_of_ble_eq_true (congrArg (·.2.2.2.2.2) h))
theorem zA(id:Nat){T:TypeId}{t:Nat}{zs:List Value}(hz:zeroA P T=some zs)(h:(o.op,o.dst,Nat.blt t N)=(.alloc T,some t,true)) :
 St P o N τ H [] (upd (fun s=>kil (one? id) (τ s)) t (.ptr id 0 0)) (upd (fun j=>(H j).kil (one? id)) id (.box T none (zs.map fun c=>.p (.v c)))):=
 St.alloc (P:=P) (o:=o) (N:=N) (τ:=τ) (H:=H) id (T:=T) (t:=t) (zs:=zs) (congrArg (·.1) h) (congrArg (·.2.1) h) (Nat.le_of_ble_eq_true (congrArg (·.2.2) h)) hz
theorem zX(id:Nat){T:TypeId}{t:Nat}{x:Operand}{l:List AV}(h:(o.op,o.dst,Nat.blt t N,cellsA (ev τ x))=(.box T x,some t,true,some l)) :
 St P o N τ H [] (upd (fun s=>kil (one? id) (τ s)) t (.ptr id 0 0)) (upd (fun j=>(H j).kil (one? id)) id (.box T none (kilL (one? id) l))):=
 St.box (P:=P) (o:=o) (N:=N) (τ:=τ) (H:=H) id (T:=T) (t:=t) (x:=x) (l:=l) (congrArg (·.1) h) (congrArg (·.2.1) h) (Nat.le_of_ble_eq_true (congrArg (·.2.2.1) h)) (congrArg (·.2.2.2) h)
theorem zC(r:List (Nat×Nat))(kl pl:List Nat){y:Operand}{l:List Operand}{ts:Array TypeId}{f:FuncId}{fn:Func}{fs caps args:List AV}{ob0 ob1:List (Nat×AO)}{x:AV}(hf:P.funcs[f]? = some fn)(hc:GC P f args ob0 x ob1)(hp:pins ob0 ob1 pl)
 (h : (o.op,dstOk o.dst N,ev τ y,(fn.name == "runtime.NumGoroutine"),fn.body.isNone,renL (sw r) (fs ++ l.map (ev τ) ++ caps)) = (.call { callee := .value y,args := l.toArray,argTypes := ts },true,.clo (.func f) fs caps,false,false,args)) (h0 : allv r H ob0 = allw ob0)
 (hr:(nodupB (r.map Prod.fst)&&(nodupB (r.map Prod.snd)&&okK r kl pl))=true:=by decide) :
 St P o N τ H (exL r ob0) (updo (fun t=>kil (inK kl) (τ t)) o.dst (ren r x)) (callH r (inK kl) ob1 H):=by
 simp only[Prod.mk.injEq]at h
 simp only[Bool.and_eq_true]at hr
 exact St.call r kl pl h.1 (dstOk.at h.2.1) h.2.2.1 hf h.2.2.2.1 h.2.2.2.2.1 hc hr (allv.all0 h0) hp h.2.2.2.2.2
theorem gi(t:Nat){f:FuncId}{fn:Func}{c:Code}{args:List AV}{ob0 ob1:List (Nat×AO)}{x:AV}(hf:P.funcs[f]? = some fn)(hb:fn.body=some c)(hn:fn.ntmps=N)(h0:(Nat.ble args.length N,fn.results.toList)=(true,[.tmp t]))
 (h:∀L O w0,AW P L O w0 N c (ofL args) (ofO ob0) (Ends [.tmp t] x ob1)):GC P f args ob0 x ob1:=GC.intro hf hb hn (Nat.le_of_ble_eq_true (congrArg (·.1) h0)) (by rw[show fn.results.toList=_ from congrArg (·.2) h0];exact⟨rfl,trivial⟩) h
theorem zL{y:Operand}{l:List Operand}{ts:Array TypeId}{f:FuncId}{fn:Func}{args:List AV}{x:AV}(hf:P.funcs[f]? = some fn)(hc:GC P f args [] x [])
 (h : (o.op,dstOk o.dst N,ev τ y,(fn.name == "runtime.NumGoroutine"),fn.body.isNone,flatA x,lendL H (l.map (ev τ))) = (.call { callee := .value y,args := l.toArray,argTypes := ts },true,.clo (.func f) [] [],false,false,true,args)) : St P o N τ H [] (updo τ o.dst x) H := by
 simp only[Prod.mk.injEq]at h
 exact St.lend h.1 (dstOk.at h.2.1) h.2.2.1 hf h.2.2.2.1 h.2.2.2.2.1 hc h.2.2.2.2.2.1 h.2.2.2.2.2.2
end
section
variable {P:Program}{L O:Nat→Prop}{w0:World}{N:Nat}{τ:Nat→AV}{H:Nat→AO}{Q:AQ}{ops:Array Oper}{l:List Oper}{F:List Nat}{n f:Nat}{X:Nat→Bool}{listed:Array Bool}{c:Code}
theorem fsB(t:Nat)(x:Bool){y:Bool}(ht:τ t=boo y)(e:y=x)(h:AF P L O w0 N ops F n listed (upd τ t (boo x)) H Q):AF P L O w0 N ops F n listed τ H Q:=AF.slot t _ (ht.trans (congrArg boo e)) h
end
def Rdy(R:Prop)(N:Nat)(τ:Nat→AV)(ops:Array Oper)(o:Oper)(t:Nat):Prop:=R∧gv τ ops o=some true∧o.dst=some t∧t<N
def oAt(ops:Array Oper)(i:Nat):Oper:=ops.getD i default
theorem oAt.some{ops:Array Oper}{i:Nat}(h:Nat.blt i ops.size=true):ops[i]? = some (oAt ops i):=by
 have h':i<ops.size:=Nat.le_of_ble_eq_true h
 unfold oAt
 rw[Array.getElem?_eq_getElem h']
 simp[Array.getD,h']
section
variable {P:Program}{L O:Nat→Prop}{w0:World}{N:Nat}{τ:Nat→AV}{H:Nat→AO}{Q:AQ}{ops:Array Oper}{o:Oper}{l:List Oper}{F:List Nat}{n f:Nat}{X:Nat→Bool}{listed:Array Bool}{x:AV}{t:Nat}
theorem lq(r:Rdy (Rd P o τ H (fun _=>false) x) N τ ops o t)(K:AL P L O w0 N ops l (upd τ t x) H Q):AL P L O w0 N ops (o::l) τ H Q:=AL.rd r.1 r.2.1 r.2.2.1 r.2.2.2 K
theorem rd{X:Nat→Bool}(hr:Rd P o τ H X x)(h:(gv τ ops o,o.dst,Nat.blt t N)=(some true,some t,true)):Rdy (Rd P o τ H X x) N τ ops o t:=by
 simp only[Prod.mk.injEq]at h
 exact⟨hr,h.1,h.2.1,Nat.le_of_ble_eq_true h.2.2⟩
def tk1(ops:Array Oper)(listed:Array Bool)(i:Nat):Bool:=Nat.blt i ops.size&&(Region.ready .any ops listed==[i])
theorem tk1.at{i:Nat}(h:tk1 ops listed i=true):ops[i]? = some (oAt ops i)∧Region.ready .any ops listed=[i]:=by
 unfold tk1 at h
 rw[Bool.and_eq_true]at h
 exact⟨oAt.some h.1,by simpa using h.2⟩
theorem yq(i:Nat)(r:Rdy (Rd P (oAt ops i) τ H (fun _=>false) x) N τ ops (oAt ops i) t)(K:AG P L O w0 N ops f X n (listed.setIfInBounds i true) (upd τ t x) H Q)(hb:tk1 ops listed i=true:=by kernel_rfl):AG P L O w0 N ops f X (n+1) listed τ H Q:=
 AG.rd (tk1.at hb).1 (tk1.at hb).2 r.1 r.2.1 r.2.2.1 r.2.2.2 K
theorem vq(i:Nat)(r:Rdy (Rd P (oAt ops i) τ H (fun _=>false) x) N τ ops (oAt ops i) t)(K:AF P L O w0 N ops F n (listed.setIfInBounds i true) (upd τ t x) H Q)(hb:tk1 ops listed i=true:=by kernel_rfl):AF P L O w0 N ops F (n+1) listed τ H Q:=
 AF.rd (tk1.at hb).1 (tk1.at hb).2 r.1 r.2.1 r.2.2.1 r.2.2.2 K
theorem tq[cq:CNP Q](i:Nat)(r:Rdy (Rd P (oAt ops i) τ H X x) N τ ops (oAt ops i) t)(K:AG P L O w0 N ops f X n (listed.setIfInBounds i true) (upd τ t x) H Q)(hb:(Nat.blt i ops.size&&tkG ops f listed i)=true:=by kernel_rfl):AG P L O w0 N ops f X (n+1) listed τ H Q:=by
 rw[Bool.and_eq_true]at hb
 have hc:=and5 hb.2
 exact AG.take (oAt.some hb.1) hc.1 hc.2.1 hc.2.2.1 hc.2.2.2.1 hc.2.2.2.2 r.1 r.2.1 r.2.2.1 r.2.2.2 cq.np K
theorem sq[cq:CNP Q](i:Nat)(r:Rdy (Rd P (oAt ops i) τ H (fun _=>false) x) N τ ops (oAt ops i) t)(K:AF P L O w0 N ops F n (listed.setIfInBounds i true) (upd τ t x) H Q)(hb:(Nat.blt i ops.size&&tkF ops F listed i)=true:=by kernel_rfl):AF P L O w0 N ops F (n+1) listed τ H Q:=by
 rw[Bool.and_eq_true]at hb
 have hc:=and5 hb.2
 exact AF.take (oAt.some hb.1) hc.1 hc.2.1 hc.2.2.1 hc.2.2.2.1 hc.2.2.2.2 r.1 r.2.1 r.2.2.1 r.2.2.2 cq.np K
theorem pq[cq:CNP Q](i:Nat)(r:Rdy (Pd P (oAt ops i) τ H x) N τ ops (oAt ops i) t)(K:AF P L O w0 N ops F n (listed.setIfInBounds i true) (upd τ t x) H Q)(hb:(Nat.blt i ops.size&&tkP ops listed i)=true:=by kernel_rfl):AF P L O w0 N ops F (n+1) listed τ H Q:=by
 rw[Bool.and_eq_true]at hb
 have hc:=and4 hb.2
 exact AF.takeP (oAt.some hb.1) hc.1 hc.2.1 hc.2.2.1 hc.2.2.2 r.1 r.2.1 r.2.2.1 r.2.2.2 cq.np K
end
section
variable {P:Program}{o:Oper}{N:Nat}{τ:Nat→AV}{H:Nat→AO}
theorem zS(id:Nat)(rows:List (List PV)){t e:TypeId}{len d sz:Nat}{parts:List (Nat×Operand)}{zs:List Value}{bp:List (Nat×Nat×AV)}(he:elA P t=some (e,sz))(hz:zeroA P e=some zs)
 (h:(o.op,o.dst,Nat.blt d N,bparts (fun i=>some (i*sz,sz)) τ parts,buildv ((List.replicate len zs).flatten.map fun c=>.p (.v c)) bp,rows.length,Nat.ble (len*sz) 16777216,Nat.blt 0 sz,zs.length)=(.buildSlice t len parts.toArray,some d,true,some bp,some (rows.flatten.map AV.p),len,true,true,sz))
 (hrs:∀r∈rows,r.length=sz:=by intro r hr;simp[rowsOf]at hr;subst hr;rfl) :
 St P o N τ H [] (upd (fun s=>kil (one? id) (τ s)) d (.own id)) (upd (fun j=>(H j).kil (one? id)) id (.arr e sz rows)):=by
 simp only[Prod.mk.injEq]at h
 obtain⟨h1,h2,h3,h4,h5,h6,h7,h8,h9⟩:=h
 exact St.bslice id h1 h2 (Nat.le_of_ble_eq_true h3) he hz h9 h4 h5 rfl hrs h6 (Nat.le_of_ble_eq_true h7) (Nat.le_of_ble_eq_true h8)
theorem zP(id:Nat){t e:TypeId}{s x:Operand}{d sz:Nat}{zs:List Value}{rows rows2:List (List PV)}{pn:Option Value}(he:elA P t=some (e,sz))(hz:zeroA P e=some zs)(hb:P.bytesOf e≤512)
 (h:(o.op,o.dst,Nat.blt d N,zs.length,Nat.blt 0 sz,ev τ s,H id)=(.call { callee:=.builtin .append,args:=#[s,x],argTypes:=#[t,t] },some d,true,sz,true,.own id,.arr ⟨e,pn⟩ sz rows)) (hsrc:Src τ H x sz rows2) (hm:rows.length+rows2.length≤274877906944:=by simp[rowsOf]at *;omega) :
 St P o N τ H [id] (upd (fun s=>kil (one? id) (τ s)) d (.own id)) (upd (fun j=>(H j).kil (one? id)) id (.arr e sz (rows++rows2))):=by
 simp only[Prod.mk.injEq]at h
 obtain⟨h1,h2,h3,h4,h5,h6,h7⟩:=h
 exact St.app id h1 h2 (Nat.le_of_ble_eq_true h3) he hz h4 (Nat.le_of_ble_eq_true h5) h6 h7 hsrc (by unfold maxLen;omega) (Nat.le_trans (Nat.mul_le_mul_left _ hb) (by omega))
theorem zQ(id:Nat)(pl:List PV){t:TypeId}{e:Pin}{x y:Operand}{i k sz:Nat}{rows:List (List PV)}{row:List PV}(hsz:P.cellsOf t=pl.length)(hi:(P.info? t).isSome=true)
 (h:(o.op,o.dst,ev τ x,H id,cellsA (ev τ y),Nat.ble (k+pl.length) sz)=(.store t x y,none,.ptr id i k,.arr e sz rows,some (pl.map AV.p),true)) (hrow:rows[i]? = some row) :
 St P o N τ H [id] τ (upd H id (.arr e sz (rows.set i (row.take k++pl++row.drop (k+pl.length))))):=by
 simp only[Prod.mk.injEq]at h
 obtain⟨h1,h2,h3,h4,h5,h6⟩:=h
 exact St.storeArr id h1 h2 h3 h4 hrow h5 hsz hi (Nat.le_of_ble_eq_true h6)
variable {ops:Array Oper}{X:Nat→Bool}{t:Nat}
theorem rj(i1:Nat){T e:TypeId}{e':Pin}{y y2:Operand}{k0:IntKind}{sz id:Nat}{n1:Int}{rows:List (List PV)}(f0:elA P T=some (e,sz))(h:(o.op,ev τ y,H id,ev τ y2,n1,gv τ ops o,o.dst,Nat.blt t N)=(.indexAddr T y y2,.own id,.arr e' sz rows,.p (.v (.int k0 n1)),(i1:Int),some true,some t,true))(hi:i1<rows.length):Rdy (Rd P o τ H X (.ptr id i1 0)) N τ ops o t:=by
 simp only[Prod.mk.injEq]at h
 obtain⟨h1,h2,h3,h4,h5,h6,h7,h8⟩:=h
 exact⟨rd_iaddr_own h1 f0 h2 h3 h4 h5 hi,h6,h7,Nat.le_of_ble_eq_true h8⟩
end
section
variable {P:Program}{L O:Nat→Prop}{w0:World}{N:Nat}{τ τ':Nat→AV}{H H':Nat→AO}{Q:AQ}{ops:Array Oper}{o:Oper}{F:List Nat}{n f:Nat}{X:Nat→Bool}{listed:Array Bool}
theorem v1(i:Nat){E:List Nat}(h0:(ops[i]?,gv τ ops o)=(some o,some true))(hs:St P o N τ H E τ' H')(hF:F.contains i=true∨E=[])(h:AF P L O w0 N ops F n (listed.setIfInBounds i true) τ' H' Q):AF1 P L O w0 N ops F n listed i τ H Q:=by
 simp only[Prod.mk.injEq]at h0
 exact AF1.st h0.1 hs hF h0.2 h
theorem yl{E:List Nat}(h0:(ops[f]?,gv τ ops o)=(some o,some true))(hs:St P o N τ H E τ' H')(h:Q .normal τ' H')(hr:(Region.ready .any ops listed==[f]&&Region.ready .any ops (listed.setIfInBounds f true)==[])=true:=by kernel_rfl):AG P L O w0 N ops f X (n+1) listed τ H Q:=by
 simp only[Prod.mk.injEq]at h0
 simp only[Bool.and_eq_true,beq_iff_eq]at hr
 exact AG.last h0.1 hr.1 hr.2 hs h0.2 h
variable {id:Nat}{l l2:List Oper}{y:Code}
theorem nG{K:(Nat→AV)→(Nat→AO)→Prop}(h:K τ H):AL P L O w0 N ops [] τ H (AQ.andThen K Q):=AL.nil h
theorem sL(h:AL P L O w0 N l2.toArray l2 τ H (Q.andThen fun τ H=>AW P L O w0 N y τ H Q)):AW P L O w0 N (.seq (.region id l2.toArray false) y) τ H Q:=AW.seq (AW.list h)
theorem gA(h:AL P L O w0 N l2.toArray l2 τ H (Q.andThen fun τ H=>AW P L O w0 N y τ H Q)):AQ.andThen (fun τ H=>AW P L O w0 N (.seq (.region id l2.toArray false) y) τ H Q) Q .normal τ H:=sL (id:=id) h
theorem nA(h:AL P L O w0 N l2.toArray l2 τ H (Q.andThen fun τ H=>AW P L O w0 N y τ H Q)):AL P L O w0 N ops [] τ H (AQ.andThen (fun τ H=>AW P L O w0 N (.seq (.region id l2.toArray false) y) τ H Q) Q):=AL.nil (sL (id:=id) h)
end
theorem ofK_zip{k:List Nat}{v:List AV}:∀ {l:List (Nat×AV)},ofT (l++k.zip v)=ofK l (of2 .bad k v)
 |[]=>of2_zip
 |(s,x)::l=>funext fun t=>by simp only[List.cons_append,ofT,ofK,ofK_zip (l:=l)]
theorem ofH_zip{k:List Nat}{v:List AO}:∀ {l:List (Nat×AO)},ofO (l++k.zip v)=ofH l (of2 .gone k v)
 |[]=>of2_zipO
 |(s,x)::l=>funext fun t=>by simp only[List.cons_append,ofO,ofH,ofH_zip (l:=l)]
section
variable {P:Program}{L O:Nat→Prop}{w0:World}{N:Nat}{τ:Nat→AV}{H:Nat→AO}{Q:AQ}
theorem aW(ks os:List Nat){v:List AV}{b:List AO}{D:Type}(T:D→List (Nat×AV))(B:D→List (Nat×AO))(I:D→Prop)(μ:D→Nat){c:Code}(d:D)(h0:I d)(h1:allT (T d) τ)(h2:allO (B d) H)
 (round:∀d,I d→AW P L O w0 N c (ofK (T d) (of2 .bad ks v)) (ofH (B d) (of2 .gone os b)) (Q.andThen fun τ' H'=>∃d',I d'∧μ d'<μ d∧allT (T d') τ'∧allO (B d') H'∧at2 τ' ks=v∧at2 H' os=b)) (h3:at2 τ ks=v:=by exact nz) (h4:at2 H os=b:=by exact nz):AW P L O w0 N (.loop c) τ H Q:=
 AW.loopE (ks.zip v) (os.zip b) T B I μ d h0 h1 h2 (allT_zip h3) (allO_zip h4) fun d hI=>by
  rw[ofK_zip,ofH_zip]
  exact(round d hI).mono fun e τ' H' q=>by
   cases e<;>first|exact q|(obtain⟨d',q1,q2,q3,q4,q5,q6⟩:=q;exact⟨d',q1,q2,q3,q4,allT_zip q5,allO_zip q6⟩)
theorem aJ(ks os:List Nat){v:List AV}{b:List AO}{D:Type}(T:D→List (Nat×AV))(B:D→List (Nat×AO))(I:D→Prop){x y:Code}
 (h:AW P L O w0 N x τ H (Q.andThen fun τ H=>∃d,I d∧allT (T d) τ∧allO (B d) H∧at2 τ ks=v∧at2 H os=b)) (h2:∀d,I d→AW P L O w0 N y (ofK (T d) (of2 .bad ks v)) (ofH (B d) (of2 .gone os b)) Q) (h3:at2 τ ks=v:=by exact nz) (h4:at2 H os=b:=by exact nz):AW P L O w0 N (.seq x y) τ H Q:=
 AW.seqE (ks.zip v) (os.zip b) T B I (allT_zip h3) (allO_zip h4) (h.mono fun e τ' H' q=>by
  cases e<;>first|exact q|(obtain⟨d',q1,q3,q4,q5,q6⟩:=q;exact⟨d',q1,q3,q4,allT_zip q5,allO_zip q6⟩)) fun d hI=>by
  rw[ofK_zip,ofH_zip]
  exact h2 d hI
end
theorem eBo{τ:Nat→AV}{H:Nat→AO}{rs:List RVar}{b c:Bool}{ob1:List (Nat×AO)}(h2:allO ob1 H)(h:b=c)(h1:retX τ H rs=some (boo b):=by rfl):Ends rs (boo c) ob1 .ret τ H:=⟨by rw[h1,h],h2⟩
theorem lX{P:Program}{L O:Nat→Prop}{w0:World}{N:Nat}{ops:Array Oper}{o:Oper}{os:List Oper}{τ:Nat→AV}{H:Nat→AO}{Q:AQ}(r:List (Nat×Nat))(kl pl:List Nat){y:Operand}{l:List Operand}{ts:Array TypeId}{f:FuncId}{fn:Func}{fs caps args:List AV}{ob0:List (Nat×AO)}{R:AV→List (Nat×AO)→Prop}(hf:P.funcs[f]? = some fn)(hc:GX P f args ob0 R)(h0:all0 r H ob0)(hp:∀x ob1,R x ob1→pins ob0 ob1 pl)
 (h1:(o.op,ev τ y,renL (sw r) (fs++l.map (ev τ)++caps))=(.call { callee:=.value y,args:=l.toArray,argTypes:=ts },.clo (.func f) fs caps,args))
 (h:∀x ob1,R x ob1→AL P L O w0 N ops os (updo (fun t=>kil (inK kl) (τ t)) o.dst (ren r x)) (callH r (inK kl) ob1 H) Q)
 (ht : ∀ s,o.dst = some s → s < N := by intro s hs;cases hs;decide) (hf1 : (fn.name == "runtime.NumGoroutine") = false := by rfl) (hf2 : fn.body.isNone = false := by rfl) (hr : nodupB (r.map Prod.fst) = true ∧ nodupB (r.map Prod.snd) = true ∧ okK r kl pl = true := by exact ⟨rfl,rfl,rfl⟩) (hg : gv τ ops o = some true := by rfl) : AL P L O w0 N ops (o :: os) τ H Q :=
 AL.stx (St.callX r kl pl (Prod.mk.inj h1).1 ht (Prod.mk.inj (Prod.mk.inj h1).2).1 hf hf1 hf2 hc hr h0 hp (Prod.mk.inj (Prod.mk.inj h1).2).2) hg (by rintro _ _ ⟨x,ob,hR,rfl,rfl⟩;exact h x ob hR)
abbrev Hm(o:Oper)(N:Nat)(τ:Nat→AV)(H:Nat→AO)(X:Nat→Bool)(ops:Array Oper)(t:Nat)(x:AV)(y:Operand):Prop:=(o.op,ev τ y,gv τ ops o,o.dst,Nat.blt t N)=(.move y,x,some true,some t,true)
abbrev Ha(o:Oper)(N:Nat)(τ:Nat→AV)(H:Nat→AO)(X:Nat→Bool)(ops:Array Oper)(t:Nat)(x:AV)(y:Operand):Prop:=(o.op,ev τ y,gv τ ops o,o.dst,Nat.blt t N)=(.assign y,x,some true,some t,true)
abbrev Hb(o:Oper)(N:Nat)(τ:Nat→AV)(H:Nat→AO)(X:Nat→Bool)(ops:Array Oper)(t:Nat)(x:AV)(op:BinOp)(T yT:TypeId)(y y2:Operand)(A:IntKind):Prop:=(o.op,binv op (ev τ y) (ev τ y2),gv τ ops o,o.dst,Nat.blt t N)=(.binOp op T y y2 yT,some ((A=A),x),some true,some t,true)
abbrev Hk(o:Oper)(N:Nat)(τ:Nat→AV)(H:Nat→AO)(X:Nat→Bool)(ops:Array Oper)(t:Nat)(x:AV)(c y y2:Operand):Prop:=(o.op,pickv (ev τ c) (ev τ y) (ev τ y2),gv τ ops o,o.dst,Nat.blt t N)=(.pick c y y2,some x,some true,some t,true)
abbrev Hu(o:Oper)(N:Nat)(τ:Nat→AV)(H:Nat→AO)(X:Nat→Bool)(ops:Array Oper)(t:Nat)(x:AV)(uop:UnOp)(T:TypeId)(y:Operand):Prop:=(o.op,unv uop (ev τ y),gv τ ops o,o.dst,Nat.blt t N)=(.unOp uop T y,some (True,x),some true,some t,true)
abbrev Hx(o:Oper)(N:Nat)(τ:Nat→AV)(H:Nat→AO)(X:Nat→Bool)(ops:Array Oper)(t:Nat)(x:AV)(y:Operand)(k:Nat):Prop:=(o.op,extv (ev τ y) k,gv τ ops o,o.dst,Nat.blt t N)=(.extract y k,some x,some true,some t,true)
abbrev Hn(o:Oper)(N:Nat)(τ:Nat→AV)(H:Nat→AO)(X:Nat→Bool)(ops:Array Oper)(t:Nat)(x:AV)(y:Operand)(T:TypeId):Prop:=(o.op,lenv H (ev τ y),gv τ ops o,o.dst,Nat.blt t N)=(.call { callee:=.builtin .len,args:=#[y],argTypes:=#[T] },some x,some true,some t,true)
abbrev Ho(o:Oper)(N:Nat)(τ:Nat→AV)(H:Nat→AO)(X:Nat→Bool)(ops:Array Oper)(t:Nat)(x:AV)(y:Operand)(T T2:TypeId)(n0:Option Nat)(id k:Nat)(p:Option Value)(cells:List AV):Prop:=(o.op,ev τ y,H id,X id,ldA n0 (cells.drop k),gv τ ops o,o.dst,Nat.blt t N)=(.load T y,.ptr id 0 k,.box T2 p cells,false,some x,some true,some t,true)
abbrev Hr(o:Oper)(N:Nat)(τ:Nat→AV)(H:Nat→AO)(X:Nat→Bool)(ops:Array Oper)(t:Nat)(x:AV)(y:Operand)(T:TypeId)(n0:Option Nat)(cellp:List PV):Prop:=(o.op,ev τ y,ldA n0 (cellp.map AV.p),gv τ ops o,o.dst,Nat.blt t N)=(.load T y,.rp cellp,some x,some true,some t,true)
abbrev Hh(o:Oper)(N:Nat)(τ:Nat→AV)(H:Nat→AO)(X:Nat→Bool)(ops:Array Oper)(t:Nat)(x:AV)(op:BinOp)(T yT:TypeId)(y y2:Operand)(pre:Prop):Prop:=(o.op,binv op (ev τ y) (ev τ y2),gv τ ops o,o.dst,Nat.blt t N)=(.binOp op T y y2 yT,some (pre,x),some true,some t,true)
abbrev Hg(o:Oper)(N:Nat)(τ:Nat→AV)(H:Nat→AO)(X:Nat→Bool)(ops:Array Oper)(t:Nat)(x:AV)(op:BinOp)(T yT:TypeId)(y y2:Operand)(A:IntKind)(n1:Int):Prop:=(o.op,binv op (ev τ y) (ev τ y2),gv τ ops o,o.dst,Nat.blt t N)=(.binOp op T y y2 yT,some ((A=A∧Fits .i64 n1),x),some true,some t,true)
abbrev Hf(o:Oper)(N:Nat)(τ:Nat→AV)(H:Nat→AO)(X:Nat→Bool)(ops:Array Oper)(t:Nat)(x:AV)(k1:Nat)(T k off ft:Nat)(y:Operand)(id i1 j:Nat):Prop:=(o.op,ev τ y,(H id).here,j+off,gv τ ops o,o.dst,Nat.blt t N)=(.fieldAddr T y k,.ptr id i1 j,true,k1,some true,some t,true)
abbrev Hc(o:Oper)(N:Nat)(τ:Nat→AV)(H:Nat→AO)(X:Nat→Bool)(ops:Array Oper)(t:Nat)(x:AV)(y:Operand)(id i1 k1:Nat):Prop:=(o.op,ev τ y,(H id).here,gv τ ops o,o.dst,Nat.blt t N)=(.nilCheck y,.ptr id i1 k1,true,some true,some t,true)
abbrev Hi(o:Oper)(N:Nat)(τ:Nat→AV)(H:Nat→AO)(X:Nat→Bool)(ops:Array Oper)(t:Nat)(x:AV)(i1:Nat)(T e e2 sz:Nat)(y y2:Operand)(k0:IntKind)(n1:Int)(rows:List (List PV))(row:List PV):Prop:=(o.op,ev τ y,ev τ y2,n1,gv τ ops o,o.dst,Nat.blt t N)=(.indexAddr T y y2,.p (.lst e2 sz rows),.p (.v (.int k0 n1)),(i1:Int),some true,some t,true)
section
variable {P:Program}{o:Oper}{N:Nat}{τ:Nat→AV}{H:Nat→AO}{X:Nat→Bool}{ops:Array Oper}{y y2 c:Operand}{op:BinOp}{uop:UnOp}{T T2 yT e e2 ft:TypeId}{A k0:IntKind}{n0:Option Nat}{id k t off i1 j sz k1:Nat}{p:Option Value}{cells:List AV}{cellp:List PV}{pre:Prop}{n1:Int}{rows:List (List PV)}{row:List PV}{xi:Int}{xb:Bool}{xv:Value}{xo xp xq xt:Nat}{xl:List (List PV)}{xr:List PV}
theorem rmX(x:AV)(h:Hm o N τ H X ops t x y):Rdy (Rd P o τ H X x) N τ ops o t:=by
 have ⟨q0,h⟩:=Prod.mk.inj h
 have ⟨q1,h⟩:=Prod.mk.inj h
 have ⟨q2,h⟩:=Prod.mk.inj h
 have ⟨q3,q4⟩:=Prod.mk.inj h
 exact⟨rd_mvx (.inl q0) q1,q2,q3,Nat.le_of_ble_eq_true q4⟩
theorem rmI(h:Hm o N τ H X ops t (vI k0 xi) y):Rdy (Rd P o τ H X (vI k0 xi)) N τ ops o t:=rmX (vI k0 xi) h
theorem rmB(h:Hm o N τ H X ops t (vB xb) y):Rdy (Rd P o τ H X (vB xb)) N τ ops o t:=rmX (vB xb) h
theorem rmT(h:Hm o N τ H X ops t (vB true) y):Rdy (Rd P o τ H X (vB true)) N τ ops o t:=rmX (vB true) h
theorem rmZ(h:Hm o N τ H X ops t (vB false) y):Rdy (Rd P o τ H X (vB false)) N τ ops o t:=rmX (vB false) h
theorem rmO(h:Hm o N τ H X ops t (.own xo) y):Rdy (Rd P o τ H X (.own xo)) N τ ops o t:=rmX (.own xo) h
theorem rmP(h:Hm o N τ H X ops t (.ptr xo xp xq) y):Rdy (Rd P o τ H X (.ptr xo xp xq)) N τ ops o t:=rmX (.ptr xo xp xq) h
theorem rmL(h:Hm o N τ H X ops t (vL xt xo xl) y):Rdy (Rd P o τ H X (vL xt xo xl)) N τ ops o t:=rmX (vL xt xo xl) h
theorem qmX(x:AV)(h:Hm o N τ H (fun _=>false) ops t x y):Rdy (Pd P o τ H x) N τ ops o t:=by
 have ⟨q0,h⟩:=Prod.mk.inj h
 have ⟨q1,h⟩:=Prod.mk.inj h
 have ⟨q2,h⟩:=Prod.mk.inj h
 have ⟨q3,q4⟩:=Prod.mk.inj h
 exact⟨pd_mvx (.inl q0) q1,q2,q3,Nat.le_of_ble_eq_true q4⟩
theorem qmP(h:Hm o N τ H (fun _=>false) ops t (.ptr xo xp xq) y):Rdy (Pd P o τ H (.ptr xo xp xq)) N τ ops o t:=qmX (.ptr xo xp xq) h
theorem qmL(h:Hm o N τ H (fun _=>false) ops t (vL xt xo xl) y):Rdy (Pd P o τ H (vL xt xo xl)) N τ ops o t:=qmX (vL xt xo xl) h
theorem raX(x:AV)(h:Ha o N τ H X ops t x y):Rdy (Rd P o τ H X x) N τ ops o t:=by
 have ⟨q0,h⟩:=Prod.mk.inj h
 have ⟨q1,h⟩:=Prod.mk.inj h
 have ⟨q2,h⟩:=Prod.mk.inj h
 have ⟨q3,q4⟩:=Prod.mk.inj h
 exact⟨rd_mvx (.inr q0) q1,q2,q3,Nat.le_of_ble_eq_true q4⟩
theorem raI(h:Ha o N τ H X ops t (vI k0 xi) y):Rdy (Rd P o τ H X (vI k0 xi)) N τ ops o t:=raX (vI k0 xi) h
theorem raB(h:Ha o N τ H X ops t (vB xb) y):Rdy (Rd P o τ H X (vB xb)) N τ ops o t:=raX (vB xb) h
theorem raT(h:Ha o N τ H X ops t (vB true) y):Rdy (Rd P o τ H X (vB true)) N τ ops o t:=raX (vB true) h
theorem raZ(h:Ha o N τ H X ops t (vB false) y):Rdy (Rd P o τ H X (vB false)) N τ ops o t:=raX (vB false) h
theorem raV(h:Ha o N τ H X ops t (vV xv) y):Rdy (Rd P o τ H X (vV xv)) N τ ops o t:=raX (vV xv) h
theorem raO(h:Ha o N τ H X ops t (.own xo) y):Rdy (Rd P o τ H X (.own xo)) N τ ops o t:=raX (.own xo) h
theorem raP(h:Ha o N τ H X ops t (.ptr xo xp xq) y):Rdy (Rd P o τ H X (.ptr xo xp xq)) N τ ops o t:=raX (.ptr xo xp xq) h
theorem raL(h:Ha o N τ H X ops t (vL xt xo xl) y):Rdy (Rd P o τ H X (vL xt xo xl)) N τ ops o t:=raX (vL xt xo xl) h
theorem rbB(h:Hb o N τ H X ops t (vB xb) op T yT y y2 A):Rdy (Rd P o τ H X (vB xb)) N τ ops o t:=by
 have ⟨q0,h⟩:=Prod.mk.inj h
 have ⟨q1,h⟩:=Prod.mk.inj h
 have ⟨q2,h⟩:=Prod.mk.inj h
 have ⟨q3,q4⟩:=Prod.mk.inj h
 exact⟨rd_bin q0 q1 rfl,q2,q3,Nat.le_of_ble_eq_true q4⟩
theorem rkX(x:AV)(h:Hk o N τ H X ops t x c y y2):Rdy (Rd P o τ H X x) N τ ops o t:=by
 have ⟨q0,h⟩:=Prod.mk.inj h
 have ⟨q1,h⟩:=Prod.mk.inj h
 have ⟨q2,h⟩:=Prod.mk.inj h
 have ⟨q3,q4⟩:=Prod.mk.inj h
 exact⟨rd_pick q0 q1,q2,q3,Nat.le_of_ble_eq_true q4⟩
theorem rkB(h:Hk o N τ H X ops t (vB xb) c y y2):Rdy (Rd P o τ H X (vB xb)) N τ ops o t:=rkX (vB xb) h
theorem rkT(h:Hk o N τ H X ops t (vB true) c y y2):Rdy (Rd P o τ H X (vB true)) N τ ops o t:=rkX (vB true) h
theorem rkZ(h:Hk o N τ H X ops t (vB false) c y y2):Rdy (Rd P o τ H X (vB false)) N τ ops o t:=rkX (vB false) h
theorem ruB(h:Hu o N τ H X ops t (vB xb) uop T y):Rdy (Rd P o τ H X (vB xb)) N τ ops o t:=by
 have ⟨q0,h⟩:=Prod.mk.inj h
 have ⟨q1,h⟩:=Prod.mk.inj h
 have ⟨q2,h⟩:=Prod.mk.inj h
 have ⟨q3,q4⟩:=Prod.mk.inj h
 exact⟨rd_un q0 q1 trivial,q2,q3,Nat.le_of_ble_eq_true q4⟩
theorem ruT(h:Hu o N τ H X ops t (vB true) uop T y):Rdy (Rd P o τ H X (vB true)) N τ ops o t:=by
 have ⟨q0,h⟩:=Prod.mk.inj h
 have ⟨q1,h⟩:=Prod.mk.inj h
 have ⟨q2,h⟩:=Prod.mk.inj h
 have ⟨q3,q4⟩:=Prod.mk.inj h
 exact⟨rd_un q0 q1 trivial,q2,q3,Nat.le_of_ble_eq_true q4⟩
theorem rxX(x:AV)(h:Hx o N τ H X ops t x y k):Rdy (Rd P o τ H X x) N τ ops o t:=by
 have ⟨q0,h⟩:=Prod.mk.inj h
 have ⟨q1,h⟩:=Prod.mk.inj h
 have ⟨q2,h⟩:=Prod.mk.inj h
 have ⟨q3,q4⟩:=Prod.mk.inj h
 exact⟨rd_ext q0 q1,q2,q3,Nat.le_of_ble_eq_true q4⟩
theorem rxB(h:Hx o N τ H X ops t (vB xb) y k):Rdy (Rd P o τ H X (vB xb)) N τ ops o t:=rxX (vB xb) h
theorem rxO(h:Hx o N τ H X ops t (.own xo) y k):Rdy (Rd P o τ H X (.own xo)) N τ ops o t:=rxX (.own xo) h
theorem rxL(h:Hx o N τ H X ops t (vL xt xo xl) y k):Rdy (Rd P o τ H X (vL xt xo xl)) N τ ops o t:=rxX (vL xt xo xl) h
theorem rnI(f0:isSlice P T=true)(h:Hn o N τ H X ops t (vI k0 xi) y T):Rdy (Rd P o τ H X (vI k0 xi)) N τ ops o t:=by
 have ⟨q0,h⟩:=Prod.mk.inj h
 have ⟨q1,h⟩:=Prod.mk.inj h
 have ⟨q2,h⟩:=Prod.mk.inj h
 have ⟨q3,q4⟩:=Prod.mk.inj h
 exact⟨rd_len q0 f0 q1,q2,q3,Nat.le_of_ble_eq_true q4⟩
theorem roX(x:AV)(f0:kindA P T=some n0)(h:Ho o N τ H X ops t x y T T2 n0 id k p cells):Rdy (Rd P o τ H X x) N τ ops o t:=by
 have ⟨q0,h⟩:=Prod.mk.inj h
 have ⟨q1,h⟩:=Prod.mk.inj h
 have ⟨q2,h⟩:=Prod.mk.inj h
 have ⟨q3,h⟩:=Prod.mk.inj h
 have ⟨q4,h⟩:=Prod.mk.inj h
 have ⟨q5,h⟩:=Prod.mk.inj h
 have ⟨q6,q7⟩:=Prod.mk.inj h
 exact⟨rd_load_box q0 f0 q1 q2 q3 q4,q5,q6,Nat.le_of_ble_eq_true q7⟩
theorem roI(f0:kindA P T=some n0)(h:Ho o N τ H X ops t (vI k0 xi) y T T2 n0 id k p cells):Rdy (Rd P o τ H X (vI k0 xi)) N τ ops o t:=roX (vI k0 xi) f0 h
theorem roO(f0:kindA P T=some n0)(h:Ho o N τ H X ops t (.own xo) y T T2 n0 id k p cells):Rdy (Rd P o τ H X (.own xo)) N τ ops o t:=roX (.own xo) f0 h
theorem roL(f0:kindA P T=some n0)(h:Ho o N τ H X ops t (vL xt xo xl) y T T2 n0 id k p cells):Rdy (Rd P o τ H X (vL xt xo xl)) N τ ops o t:=roX (vL xt xo xl) f0 h
theorem rrX(x:AV)(f0:kindA P T=some n0)(h:Hr o N τ H X ops t x y T n0 cellp):Rdy (Rd P o τ H X x) N τ ops o t:=by
 have ⟨q0,h⟩:=Prod.mk.inj h
 have ⟨q1,h⟩:=Prod.mk.inj h
 have ⟨q2,h⟩:=Prod.mk.inj h
 have ⟨q3,h⟩:=Prod.mk.inj h
 have ⟨q4,q5⟩:=Prod.mk.inj h
 exact⟨rd_load_rp q0 f0 q1 q2,q3,q4,Nat.le_of_ble_eq_true q5⟩
theorem rrI(f0:kindA P T=some n0)(h:Hr o N τ H X ops t (vI k0 xi) y T n0 cellp):Rdy (Rd P o τ H X (vI k0 xi)) N τ ops o t:=rrX (vI k0 xi) f0 h
theorem rhX(x:AV)(h:Hh o N τ H X ops t x op T yT y y2 pre)(hp:pre):Rdy (Rd P o τ H X x) N τ ops o t:=by
 have ⟨q0,h⟩:=Prod.mk.inj h
 have ⟨q1,h⟩:=Prod.mk.inj h
 have ⟨q2,h⟩:=Prod.mk.inj h
 have ⟨q3,q4⟩:=Prod.mk.inj h
 exact⟨rd_bin q0 q1 hp,q2,q3,Nat.le_of_ble_eq_true q4⟩
theorem rhI(h:Hh o N τ H X ops t (vI k0 xi) op T yT y y2 pre)(hp:pre):Rdy (Rd P o τ H X (vI k0 xi)) N τ ops o t:=rhX (vI k0 xi) h hp
theorem rgI(h:Hg o N τ H X ops t (vI k0 xi) op T yT y y2 A n1)(hp:i64 n1):Rdy (Rd P o τ H X (vI k0 xi)) N τ ops o t:=by
 have ⟨q0,h⟩:=Prod.mk.inj h
 have ⟨q1,h⟩:=Prod.mk.inj h
 have ⟨q2,h⟩:=Prod.mk.inj h
 have ⟨q3,q4⟩:=Prod.mk.inj h
 exact⟨rd_bin q0 q1 ⟨rfl,fits_i64 hp⟩,q2,q3,Nat.le_of_ble_eq_true q4⟩
theorem rf(k1:Nat)(f0:FA P T k off ft)(h:Hf o N τ H X ops t (.ptr id i1 k1) k1 T k off ft y id i1 j):Rdy (Rd P o τ H X (.ptr id i1 k1)) N τ ops o t:=by
 have ⟨q0,h⟩:=Prod.mk.inj h
 have ⟨q1,h⟩:=Prod.mk.inj h
 have ⟨q2,h⟩:=Prod.mk.inj h
 have ⟨q3,h⟩:=Prod.mk.inj h
 have ⟨q4,h⟩:=Prod.mk.inj h
 have ⟨q5,q6⟩:=Prod.mk.inj h
 subst q3
 exact⟨rd_faddr q0 f0.1 f0.2.1 f0.2.2 q1 q2,q4,q5,Nat.le_of_ble_eq_true q6⟩
theorem qf(k1:Nat)(f0:FA P T k off ft)(h:Hf o N τ H (fun _=>false) ops t (.ptr id i1 k1) k1 T k off ft y id i1 j):Rdy (Pd P o τ H (.ptr id i1 k1)) N τ ops o t:=by
 have ⟨q0,h⟩:=Prod.mk.inj h
 have ⟨q1,h⟩:=Prod.mk.inj h
 have ⟨q2,h⟩:=Prod.mk.inj h
 have ⟨q3,h⟩:=Prod.mk.inj h
 have ⟨q4,h⟩:=Prod.mk.inj h
 have ⟨q5,q6⟩:=Prod.mk.inj h
 subst q3
 exact⟨pd_faddr q0 f0.1 f0.2.1 f0.2.2 q1 q2,q4,q5,Nat.le_of_ble_eq_true q6⟩
theorem rc(h:Hc o N τ H X ops t (.ptr id i1 k1) y id i1 k1):Rdy (Rd P o τ H X (.ptr id i1 k1)) N τ ops o t:=by
 have ⟨q0,h⟩:=Prod.mk.inj h
 have ⟨q1,h⟩:=Prod.mk.inj h
 have ⟨q2,h⟩:=Prod.mk.inj h
 have ⟨q3,h⟩:=Prod.mk.inj h
 have ⟨q4,q5⟩:=Prod.mk.inj h
 exact⟨rd_nilc q0 q1 q2,q3,q4,Nat.le_of_ble_eq_true q5⟩
theorem qc(h:Hc o N τ H (fun _=>false) ops t (.ptr id i1 k1) y id i1 k1):Rdy (Pd P o τ H (.ptr id i1 k1)) N τ ops o t:=by
 have ⟨q0,h⟩:=Prod.mk.inj h
 have ⟨q1,h⟩:=Prod.mk.inj h
 have ⟨q2,h⟩:=Prod.mk.inj h
 have ⟨q3,h⟩:=Prod.mk.inj h
 have ⟨q4,q5⟩:=Prod.mk.inj h
 exact⟨pd_nilc q0 q1 q2,q3,q4,Nat.le_of_ble_eq_true q5⟩
theorem ri(i1:Nat)(f0:elA P T=some (e,sz))(h:Hi o N τ H X ops t (.rp row) i1 T e e2 sz y y2 k0 n1 rows row)(hr:rows[i1]? = some row):Rdy (Rd P o τ H X (.rp row)) N τ ops o t:=by
 have ⟨q0,h⟩:=Prod.mk.inj h
 have ⟨q1,h⟩:=Prod.mk.inj h
 have ⟨q2,h⟩:=Prod.mk.inj h
 have ⟨q3,h⟩:=Prod.mk.inj h
 have ⟨q4,h⟩:=Prod.mk.inj h
 have ⟨q5,q6⟩:=Prod.mk.inj h
 exact⟨rd_iaddr_p q0 f0 q1 q2 q3 hr,q4,q5,Nat.le_of_ble_eq_true q6⟩
variable {L O:Nat→Prop}{w0:World}{Q:AQ}{l:List Oper}
theorem lmI(h:Hm o N τ H (fun _=>false) ops t (vI k0 xi) y)(K:AL P L O w0 N ops l (upd τ t (vI k0 xi)) H Q):AL P L O w0 N ops (o::l) τ H Q:=lq (rmI h) K
theorem lmB(h:Hm o N τ H (fun _=>false) ops t (vB xb) y)(K:AL P L O w0 N ops l (upd τ t (vB xb)) H Q):AL P L O w0 N ops (o::l) τ H Q:=lq (rmB h) K
theorem lmO(h:Hm o N τ H (fun _=>false) ops t (.own xo) y)(K:AL P L O w0 N ops l (upd τ t (.own xo)) H Q):AL P L O w0 N ops (o::l) τ H Q:=lq (rmO h) K
theorem lmP(h:Hm o N τ H (fun _=>false) ops t (.ptr xo xp xq) y)(K:AL P L O w0 N ops l (upd τ t (.ptr xo xp xq)) H Q):AL P L O w0 N ops (o::l) τ H Q:=lq (rmP h) K
theorem lmL(h:Hm o N τ H (fun _=>false) ops t (vL xt xo xl) y)(K:AL P L O w0 N ops l (upd τ t (vL xt xo xl)) H Q):AL P L O w0 N ops (o::l) τ H Q:=lq (rmL h) K
theorem lmX(x:AV)(h:Hm o N τ H (fun _=>false) ops t x y)(K:AL P L O w0 N ops l (upd τ t x) H Q):AL P L O w0 N ops (o::l) τ H Q:=lq (rmX x h) K
theorem laI(h:Ha o N τ H (fun _=>false) ops t (vI k0 xi) y)(K:AL P L O w0 N ops l (upd τ t (vI k0 xi)) H Q):AL P L O w0 N ops (o::l) τ H Q:=lq (raI h) K
theorem laB(h:Ha o N τ H (fun _=>false) ops t (vB xb) y)(K:AL P L O w0 N ops l (upd τ t (vB xb)) H Q):AL P L O w0 N ops (o::l) τ H Q:=lq (raB h) K
theorem laT(h:Ha o N τ H (fun _=>false) ops t (vB true) y)(K:AL P L O w0 N ops l (upd τ t (vB true)) H Q):AL P L O w0 N ops (o::l) τ H Q:=lq (raT h) K
theorem laZ(h:Ha o N τ H (fun _=>false) ops t (vB false) y)(K:AL P L O w0 N ops l (upd τ t (vB false)) H Q):AL P L O w0 N ops (o::l) τ H Q:=lq (raZ h) K
theorem laV(h:Ha o N τ H (fun _=>false) ops t (vV xv) y)(K:AL P L O w0 N ops l (upd τ t (vV xv)) H Q):AL P L O w0 N ops (o::l) τ H Q:=lq (raV h) K
theorem laO(h:Ha o N τ H (fun _=>false) ops t (.own xo) y)(K:AL P L O w0 N ops l (upd τ t (.own xo)) H Q):AL P L O w0 N ops (o::l) τ H Q:=lq (raO h) K
theorem laP(h:Ha o N τ H (fun _=>false) ops t (.ptr xo xp xq) y)(K:AL P L O w0 N ops l (upd τ t (.ptr xo xp xq)) H Q):AL P L O w0 N ops (o::l) τ H Q:=lq (raP h) K
theorem laL(h:Ha o N τ H (fun _=>false) ops t (vL xt xo xl) y)(K:AL P L O w0 N ops l (upd τ t (vL xt xo xl)) H Q):AL P L O w0 N ops (o::l) τ H Q:=lq (raL h) K
theorem lbB(h:Hb o N τ H (fun _=>false) ops t (vB xb) op T yT y y2 A)(K:AL P L O w0 N ops l (upd τ t (vB xb)) H Q):AL P L O w0 N ops (o::l) τ H Q:=lq (rbB h) K
theorem lkB(h:Hk o N τ H (fun _=>false) ops t (vB xb) c y y2)(K:AL P L O w0 N ops l (upd τ t (vB xb)) H Q):AL P L O w0 N ops (o::l) τ H Q:=lq (rkB h) K
theorem lkT(h:Hk o N τ H (fun _=>false) ops t (vB true) c y y2)(K:AL P L O w0 N ops l (upd τ t (vB true)) H Q):AL P L O w0 N ops (o::l) τ H Q:=lq (rkT h) K
theorem lkZ(h:Hk o N τ H (fun _=>false) ops t (vB false) c y y2)(K:AL P L O w0 N ops l (upd τ t (vB false)) H Q):AL P L O w0 N ops (o::l) τ H Q:=lq (rkZ h) K
theorem luB(h:Hu o N τ H (fun _=>false) ops t (vB xb) uop T y)(K:AL P L O w0 N ops l (upd τ t (vB xb)) H Q):AL P L O w0 N ops (o::l) τ H Q:=lq (ruB h) K
theorem lxB(h:Hx o N τ H (fun _=>false) ops t (vB xb) y k)(K:AL P L O w0 N ops l (upd τ t (vB xb)) H Q):AL P L O w0 N ops (o::l) τ H Q:=lq (rxB h) K
theorem lxO(h:Hx o N τ H (fun _=>false) ops t (.own xo) y k)(K:AL P L O w0 N ops l (upd τ t (.own xo)) H Q):AL P L O w0 N ops (o::l) τ H Q:=lq (rxO h) K
theorem lxL(h:Hx o N τ H (fun _=>false) ops t (vL xt xo xl) y k)(K:AL P L O w0 N ops l (upd τ t (vL xt xo xl)) H Q):AL P L O w0 N ops (o::l) τ H Q:=lq (rxL h) K
theorem lxX(x:AV)(h:Hx o N τ H (fun _=>false) ops t x y k)(K:AL P L O w0 N ops l (upd τ t x) H Q):AL P L O w0 N ops (o::l) τ H Q:=lq (rxX x h) K
theorem lnI(f0:isSlice P T=true)(h:Hn o N τ H (fun _=>false) ops t (vI k0 xi) y T)(K:AL P L O w0 N ops l (upd τ t (vI k0 xi)) H Q):AL P L O w0 N ops (o::l) τ H Q:=lq (rnI f0 h) K
theorem loI(f0:kindA P T=some n0)(h:Ho o N τ H (fun _=>false) ops t (vI k0 xi) y T T2 n0 id k p cells)(K:AL P L O w0 N ops l (upd τ t (vI k0 xi)) H Q):AL P L O w0 N ops (o::l) τ H Q:=lq (roI f0 h) K
theorem loO(f0:kindA P T=some n0)(h:Ho o N τ H (fun _=>false) ops t (.own xo) y T T2 n0 id k p cells)(K:AL P L O w0 N ops l (upd τ t (.own xo)) H Q):AL P L O w0 N ops (o::l) τ H Q:=lq (roO f0 h) K
theorem loL(f0:kindA P T=some n0)(h:Ho o N τ H (fun _=>false) ops t (vL xt xo xl) y T T2 n0 id k p cells)(K:AL P L O w0 N ops l (upd τ t (vL xt xo xl)) H Q):AL P L O w0 N ops (o::l) τ H Q:=lq (roL f0 h) K
theorem loX(x:AV)(f0:kindA P T=some n0)(h:Ho o N τ H (fun _=>false) ops t x y T T2 n0 id k p cells)(K:AL P L O w0 N ops l (upd τ t x) H Q):AL P L O w0 N ops (o::l) τ H Q:=lq (roX x f0 h) K
theorem lrI(f0:kindA P T=some n0)(h:Hr o N τ H (fun _=>false) ops t (vI k0 xi) y T n0 cellp)(K:AL P L O w0 N ops l (upd τ t (vI k0 xi)) H Q):AL P L O w0 N ops (o::l) τ H Q:=lq (rrI f0 h) K
theorem lrX(x:AV)(f0:kindA P T=some n0)(h:Hr o N τ H (fun _=>false) ops t x y T n0 cellp)(K:AL P L O w0 N ops l (upd τ t x) H Q):AL P L O w0 N ops (o::l) τ H Q:=lq (rrX x f0 h) K
theorem lhI(h:Hh o N τ H (fun _=>false) ops t (vI k0 xi) op T yT y y2 pre)(hp:pre)(K:AL P L O w0 N ops l (upd τ t (vI k0 xi)) H Q):AL P L O w0 N ops (o::l) τ H Q:=lq (rhI h hp) K
theorem lgI(h:Hg o N τ H (fun _=>false) ops t (vI k0 xi) op T yT y y2 A n1)(K:AL P L O w0 N ops l (upd τ t (vI k0 xi)) H Q)(hp:i64 n1:=by unfold i64;omega):AL P L O w0 N ops (o::l) τ H Q:=lq (rgI h hp) K
theorem lf(k1:Nat)(f0:FA P T k off ft)(h:Hf o N τ H (fun _=>false) ops t (.ptr id i1 k1) k1 T k off ft y id i1 j)(K:AL P L O w0 N ops l (upd τ t (.ptr id i1 k1)) H Q):AL P L O w0 N ops (o::l) τ H Q:=lq (rf k1 f0 h) K
theorem lc(h:Hc o N τ H (fun _=>false) ops t (.ptr id i1 k1) y id i1 k1)(K:AL P L O w0 N ops l (upd τ t (.ptr id i1 k1)) H Q):AL P L O w0 N ops (o::l) τ H Q:=lq (rc h) K
theorem li(i1:Nat)(f0:elA P T=some (e,sz))(h:Hi o N τ H (fun _=>false) ops t (.rp row) i1 T e e2 sz y y2 k0 n1 rows row)(hr:rows[i1]? = some row)(K:AL P L O w0 N ops l (upd τ t (.rp row)) H Q):AL P L O w0 N ops (o::l) τ H Q:=lq (ri i1 f0 h hr) K
end

def rowO:AO→Bool
 |.arr _ _ _=>true
 |.gone=>true
 |_=>false
def rowF(F:List AO):Prop:=∀o∈F,rowO o=true
def tl(h:Nat→AO)(F:List AO):Nat→AO:=fun i=>bif Nat.blt i 1000000 then h i else (F[i-1000000]?).getD .gone
def Tl(H:Nat→AO)(F:List AO):Prop:=(∀i,H (1000000+i)=(F[i]?).getD .gone)∧rowF F
theorem rowO.kil{k:Nat→Bool}{o:AO}(h:rowO o=true):o.kil k=o:=by cases o<;>first|rfl|cases h
theorem rowO.ren{r:List (Nat×Nat)}{o:AO}(h:rowO o=true):o.ren r=o:=by cases o<;>first|rfl|cases h
theorem rowO.frz{id:Nat}{y:PV}{o:AO}(h:rowO o=true):o.frz id y=o:=by cases o<;>first|rfl|cases h
theorem rowF.nil:rowF []:=fun _ h=>by cases h
theorem rowF.at{F:List AO}(h:rowF F)(i:Nat):rowO ((F[i]?).getD .gone)=true:=by
 cases e:F[i]? with
 |none=>rfl
 |some o=>exact h o (List.mem_of_getElem? e)
theorem tl_lo{h:Nat→AO}{F:List AO}{i:Nat}(hi:i<1000000):tl h F i=h i:=by
 unfold tl
 rw[show Nat.blt i 1000000=true from Nat.ble_eq_true_of_le hi]
 rfl
theorem tl_hi{h:Nat→AO}{F:List AO}{i:Nat}:tl h F (1000000+i)=(F[i]?).getD .gone:=by
 unfold tl
 rw[show Nat.blt (1000000+i) 1000000=false from by
  cases e:Nat.blt (1000000+i) 1000000 with
  |false=>rfl
  |true=>have:1000000+i<1000000:=Nat.le_of_ble_eq_true e;omega]
 simp
theorem lo_or_hi(j:Nat):j<1000000∨∃i,j=1000000+i:=by
 rcases Nat.lt_or_ge j 1000000 with h|h
 ·exact .inl h
 ·exact .inr ⟨j-1000000,by omega⟩
theorem Tl.tl{h:Nat→AO}{F:List AO}(hF:rowF F):Tl (tl h F) F:=⟨fun _=>tl_hi,hF⟩
theorem Tl.upd{H:Nat→AO}{F:List AO}{i:Nat}{o:AO}(hi:Nat.blt i 1000000=true)(h:Tl H F):Tl (upd H i o) F:=⟨fun j=>by
 have:i<1000000:=Nat.le_of_ble_eq_true hi
 rw[upd_ne _ _ (by omega)];exact h.1 j,h.2⟩
theorem Tl.kil{H:Nat→AO}{F:List AO}{k:Nat→Bool}(h:Tl H F):Tl (fun j=>(H j).kil k) F:=⟨fun j=>by
 show (H (1000000+j)).kil k=_
 rw[h.1 j];exact rowO.kil (rowF.at h.2 j),h.2⟩
theorem Tl.frz{H:Nat→AO}{F:List AO}{id:Nat}{y:PV}(hi:Nat.blt id 1000000=true)(h:Tl H F):Tl (frzH id y H) F:=Tl.upd hi ⟨fun j=>by
 show (H (1000000+j)).frz id y=_
 rw[h.1 j];exact rowO.frz (rowF.at h.2 j),h.2⟩
theorem Tl.swap{H:Nat→AO}{F:List AO}{a b:Nat}(hi:(Nat.blt a 1000000&&Nat.blt b 1000000)=true)(h:Tl H F):Tl (fun j=>(H (swp a b j)).per a b) F:=⟨fun j=>by
 rw[Bool.and_eq_true]at hi
 have h1:a<1000000:=Nat.le_of_ble_eq_true hi.1
 have h2:b<1000000:=Nat.le_of_ble_eq_true hi.2
 have e:swp a b (1000000+j)=1000000+j:=by unfold swp;rw[if_neg (by omega),if_neg (by omega)]
 show (H (swp a b (1000000+j))).per a b=_
 rw[e,h.1 j]
 have:=rowF.at h.2 j
 cases hq:(F[j]?).getD .gone with
 |box T p cells=>rw[hq]at this;cases this
 |_=>rfl,h.2⟩
theorem rn_none{r:List (Nat×Nat)}{i:Nat}(h:∀p∈r,p.1≠i):rn r i=none:=by
 induction r with
 |nil=>rfl
 |cons p r ih=>
  obtain⟨a,b⟩:=p
  unfold rn
  rw[if_neg (fun q=>h (a,b) (by simp) q.symm)]
  exact ih (fun p hp=>h p (by simp[hp]))
def smallR(r:List (Nat×Nat)):Bool:=r.all fun p=>Nat.blt p.1 1000000&&Nat.blt p.2 1000000
theorem smallR.at{r:List (Nat×Nat)}(h:smallR r=true):∀p∈r,p.1<1000000∧p.2<1000000:=fun p hp=>by
 have:=List.all_eq_true.1 h p hp
 rw[Bool.and_eq_true]at this
 exact⟨Nat.le_of_ble_eq_true this.1,Nat.le_of_ble_eq_true this.2⟩
theorem smallR.hi{r:List (Nat×Nat)}(h:smallR r=true)(i:Nat):rn (sw r) (1000000+i)=none:=rn_none fun p hp=>by
 unfold sw at hp
 obtain⟨q,hq,rfl⟩:=List.mem_map.1 hp
 have:=(smallR.at h q hq).2
 show q.2≠_
 omega
theorem smallR.hi'{r:List (Nat×Nat)}(h:smallR r=true)(i:Nat):rn r (1000000+i)=none:=rn_none fun p hp=>by
 have:=(smallR.at h p hp).1
 omega
theorem Tl.call{H:Nat→AO}{F:List AO}{r:List (Nat×Nat)}{k:Nat→Bool}{ob1:List (Nat×AO)}(hr:smallR r=true)(h:Tl H F):Tl (callH r k ob1 H) F:=⟨fun j=>by
 unfold callH
 rw[smallR.hi hr j]
 show (H (1000000+j)).kil k=_
 rw[h.1 j];exact rowO.kil (rowF.at h.2 j),h.2⟩
def famL(n:Nat):List AO→List (Nat×AO)
 |[]=>[]
 |o::l=>(n,o)::famL (n+1) l
theorem famL_at:∀(F:List AO) (n i:Nat),ofO (famL n F) i=if n≤i then (F[i-n]?).getD .gone else .gone
 |[],n,i=>by simp[famL,ofO]
 |o::F,n,i=>by
  show (if i=n then o else ofO (famL (n+1) F) i)=_
  rw[famL_at F]
  by_cases e:i=n
  ·subst e;simp
  ·rw[if_neg e]
   by_cases h:n≤i
   ·rw[if_pos (by omega),if_pos h,show i-n=(i-(n+1))+1 by omega]
    simp
   ·rw[if_neg (by omega),if_neg h]
def smallO(l:List (Nat×AO)):Bool:=l.all fun p=>Nat.blt p.1 1000000
theorem ofO_hi:∀ {l:List (Nat×AO)} {m:List (Nat×AO)} {i:Nat},smallO l=true→ofO (l++m) (1000000+i)=ofO m (1000000+i)
 |[],m,i,_=>rfl
 |(a,o)::l,m,i,h=>by
  have h1:=List.all_eq_true.1 h (a,o) (by simp)
  have h2:a<1000000:=Nat.le_of_ble_eq_true h1
  show (if 1000000+i=a then o else ofO (l++m) (1000000+i))=_
  rw[if_neg (by omega)]
  exact ofO_hi (by unfold smallO at *;rw[List.all_cons,Bool.and_eq_true]at h;exact h.2)
theorem ofO_lo:∀ {l:List (Nat×AO)} {F:List AO} {i:Nat},i<1000000→ofO (l++famL 1000000 F) i=ofO l i
 |[],F,i,h=>by
  show ofO (famL 1000000 F) i=_
  rw[famL_at,if_neg (by omega)]
  rfl
 |(a,o)::l,F,i,h=>by
  show (if i=a then o else ofO (l++famL 1000000 F) i)=if i=a then o else ofO l i
  rw[ofO_lo h]
theorem ofO_fam{l:List (Nat×AO)}{F:List AO}(h:smallO l=true):ofO (l++famL 1000000 F)=tl (ofO l) F:=funext fun j=>by
 rcases lo_or_hi j with q|⟨i,rfl⟩
 ·rw[tl_lo q,ofO_lo q]
 ·rw[tl_hi,ofO_hi h,famL_at,if_pos (by omega)]
  simp
theorem allO_fam:∀ {F:List AO} {n:Nat} {H:Nat→AO},(∀i,i<F.length→H (n+i)=(F[i]?).getD .gone)→allO (famL n F) H
 |[],n,H,_=>trivial
 |o::F,n,H,h=>⟨by have:=h 0 (by simp);simpa using this,allO_fam fun i hi=>by
  have:=h (i+1) (by simp;omega)
  rw[show n+1+i=n+(i+1) by omega];simpa using this⟩
theorem Tl.all{H:Nat→AO}{F:List AO}(h:Tl H F):allO (famL 1000000 F) H:=allO_fam fun i _=>h.1 i
theorem Tl.list{l:List (Nat×AO)}(h:smallO l=true):Tl (ofO l) []:=⟨fun i=>by have:=ofO_hi (m:=[]) (i:=i) h;rw[List.append_nil]at this;rw[this];rfl,rowF.nil⟩
section
variable {P:Program}{L O:Nat→Prop}{w0:World}{N:Nat}{τ τ':Nat→AV}{H H':Nat→AO}{Q:AQ}{c:Code}{ops:Array Oper}{l:List Oper}{F:List AO}
end

mutual
def lowA:AV→Bool
 |.own id=>Nat.blt id 1000000
 |.sub id _ _=>Nat.blt id 1000000
 |.ptr id _ _=>Nat.blt id 1000000
 |.agg cs=>lowL cs
 |.tup cs=>lowL cs
 |.clo _ f cs=>lowL f&&lowL cs
 |_=>true
def lowL:List AV→Bool
 |[]=>true
 |x::xs=>lowA x&&lowL xs
end
def lowO:AO→Bool
 |.box _ _ cells=>lowL cells
 |_=>true
def lowEq{α:Type}(k k':Nat→α):Prop:=∀i,i<1000000→k i=k' i
mutual
theorem kil_low{k k':Nat→Bool}(h:lowEq k k'):∀x,lowA x=true→kil k x=kil k' x
 |.own id,q=>by rw[kil,kil,h id (Nat.le_of_ble_eq_true q)]
 |.sub id off len,q=>by rw[kil,kil,h id (Nat.le_of_ble_eq_true q)]
 |.ptr id r c,q=>by rw[kil,kil,h id (Nat.le_of_ble_eq_true q)]
 |.agg cs,q=>by rw[kil,kil,kilL_low h cs q]
 |.tup cs,q=>by rw[kil,kil,kilL_low h cs q]
 |.clo fn f cs,q=>by
  have q':lowL f=true∧lowL cs=true:=by rw[←Bool.and_eq_true];exact q
  rw[kil,kil,kilL_low h f q'.1,kilL_low h cs q'.2]
 |.p _,_=>by simp[kil]
 |.rp _,_=>by simp[kil]
 |.dead,_=>by simp[kil]
 |.bad,_=>by simp[kil]
theorem kilL_low{k k':Nat→Bool}(h:lowEq k k'):∀l,lowL l=true→kilL k l=kilL k' l
 |[],_=>rfl
 |x::xs,q=>by
  have q':lowA x=true∧lowL xs=true:=by rw[←Bool.and_eq_true];exact q
  rw[kilL,kilL,kil_low h x q'.1,kilL_low h xs q'.2]
end
theorem lowO.kil{k k':Nat→Bool}(h:lowEq k k'){o:AO}(q:lowO o=true):o.kil k=o.kil k':=by
 cases o with
 |box T p cells=>show AO.box T p _=AO.box T p _;rw[kilL_low h cells q]
 |_=>rfl
mutual
theorem ren_low{r r':List (Nat×Nat)}(h:lowEq (rn r) (rn r')):∀x,lowA x=true→ren r x=ren r' x
 |.own id,q=>by rw[ren,ren,h id (Nat.le_of_ble_eq_true q)]
 |.sub id off len,q=>by rw[ren,ren,h id (Nat.le_of_ble_eq_true q)]
 |.ptr id i c,q=>by rw[ren,ren,h id (Nat.le_of_ble_eq_true q)]
 |.agg cs,q=>by rw[ren,ren,renL_low h cs q]
 |.tup cs,q=>by rw[ren,ren,renL_low h cs q]
 |.clo fn f cs,q=>by
  have q':lowL f=true∧lowL cs=true:=by rw[←Bool.and_eq_true];exact q
  rw[ren,ren,renL_low h f q'.1,renL_low h cs q'.2]
 |.p _,_=>by simp[ren]
 |.rp _,_=>by simp[ren]
 |.dead,_=>by simp[ren]
 |.bad,_=>by simp[ren]
theorem renL_low{r r':List (Nat×Nat)}(h:lowEq (rn r) (rn r')):∀l,lowL l=true→renL r l=renL r' l
 |[],_=>rfl
 |x::xs,q=>by
  have q':lowA x=true∧lowL xs=true:=by rw[←Bool.and_eq_true];exact q
  rw[renL,renL,ren_low h x q'.1,renL_low h xs q'.2]
end
theorem lowO.ren{r r':List (Nat×Nat)}(h:lowEq (rn r) (rn r')){o:AO}(q:lowO o=true):o.ren r=o.ren r':=by
 cases o with
 |box T p cells=>show AO.box T p _=AO.box T p _;rw[renL_low h cells q]
 |_=>rfl
section
variable {P:Program}{L O:Nat→Prop}{w0:World}{N:Nat}{τ τ':Nat→AV}{H H':Nat→AO}{Q:AQ}{c:Code}{F:List AO}
end
def GN(P:Program)(f:FuncId)(args:List AV)(ob0:List (Nat×AO))(F0:List AO)(R:AV→List (Nat×AO)→List AO→Prop):Prop:=
 GX P f args (ob0++famL 1000000 F0) fun x ob1=>∃l1 F1,(smallO l1&&(l1.all (fun p=>lowO p.2)&&lowA x))=true∧rowF F1∧F1.length≤10000000∧ob1=l1++famL 1000000 F1∧R x l1 F1
theorem mem_famL:∀ {F:List AO} {n i:Nat} {o:AO},(i,o)∈famL n F→∃m,m<F.length∧i=n+m
 |[],n,i,o,h=>by cases h
 |x::F,n,i,o,h=>by
  rcases List.mem_cons.1 h with h|h
  ·injection h with h1 h2
   exact⟨0,by simp,by omega⟩
  ·obtain⟨m,q1,q2⟩:=mem_famL h
   exact⟨m+1,by simp;omega,by omega⟩
section
variable {P:Program}{o:Oper}{N:Nat}{τ:Nat→AV}{H:Nat→AO}{F:List AO}
end

inductive All2 {α β:Type} (R:α→β→Prop):List α→List β→Prop
 |nil:All2 R [] []
 |cons {a:α} {b:β} {l:List α} {m:List β}:R a b→All2 R l m→All2 R (a::l) (b::m)
theorem All2.len{α β:Type}{R:α→β→Prop}{l:List α}{m:List β}(h:All2 R l m):l.length=m.length:=by
 induction h with
 |nil=>rfl
 |cons _ _ ih=>simp[ih]
theorem All2.of{α β:Type}{R:α→β→Prop}:∀ {l:List α} {m:List β},l.length=m.length→(∀(i:Nat) (a:α) (b:β),l[i]? = some a→m[i]? = some b→R a b)→All2 R l m
 |[],[],_,_=>.nil
 |a::l,b::m,hl,h=>.cons (h 0 a b rfl rfl) (All2.of (by simpa using hl) fun i x y h1 h2=>h (i+1) x y (by simpa using h1) (by simpa using h2))
 |[],_::_,hl,_=>by cases hl
 |_::_,[],hl,_=>by cases hl
def dpC(H:Nat→AO)(p q:PV):Prop:=p=q∨∃v m e sz rows,p=.v v∧H m=.arr ⟨e,some v⟩ sz rows∧q=.lst e sz rows
section
variable {L:Nat→Prop}{ρ:Nat→Value}{H:Nat→AO}{w:World}
theorem RWL.deep(hob:∀id,∃f,OB L ρ H w (ρ id) f (H id)):∀ {x y:List PV} {c:List Value} {fp:List Nat},All2 (dpC H) x y→RWL w false x c fp→∃fp',RWL w false y c fp'
 |_,_,c,fp,.nil,h=>⟨fp,h⟩
 |_,_,c,fp,.cons h1 h2,h=>by
  rw[RWL]at h
  obtain⟨c,r,f1,f2,rfl,rfl,k1,k2⟩:=h
  obtain⟨g2,k3⟩:=RWL.deep hob h2 k2
  rcases h1 with rfl|⟨v,m,e,sz,rows,rfl,hm,rfl⟩
  ·exact⟨f1++g2,by rw[RWL];exact⟨c,r,f1,g2,rfl,rfl,k1,k3⟩⟩
  ·obtain⟨f,ho⟩:=hob m
   rw[hm]at ho
   obtain⟨g1,k4⟩:=OB.readsW ho
   have hv:ρ m=v:=by obtain⟨_,_,_,_,_,_,k⟩:=ho;exact k v rfl
   rw[RW]at k1
   rw[k1.1,←hv]
   exact⟨g1++g2,by rw[RWL];exact⟨ρ m,r,g1,g2,rfl,rfl,k4,k3⟩⟩
theorem RWR.deep(hob:∀id,∃f,OB L ρ H w (ρ id) f (H id)){sz:Nat}:∀ {x y:List (List PV)} {c:List Value} {fp:List Nat},All2 (All2 (dpC H)) x y→RWR w false sz x c fp→∃fp',RWR w false sz y c fp'
 |_,_,c,fp,.nil,h=>⟨fp,h⟩
 |_,_,c,fp,.cons h1 h2,h=>by
  rw[RWR]at h
  obtain⟨hl,c,r,f1,f2,rfl,rfl,k1,k2⟩:=h
  obtain⟨g1,k3⟩:=RWL.deep hob h1 k1
  obtain⟨g2,k4⟩:=RWR.deep hob h2 k2
  exact⟨g1++g2,by rw[RWR];exact⟨by rw[←h1.len];exact hl,c,r,g1,g2,rfl,rfl,k3,k4⟩⟩
end
def Reads(H:Nat→AO)(x y:AV):Prop:=∀ {L:Nat→Prop} {ρ:Nat→Value} {w:World} {c:Value},(∀id,∃f,OB L ρ H w (ρ id) f (H id))→RV L ρ H w x c→RV L0 ρ0 (ofO []) w y c
theorem Reads.lend{H:Nat→AO}{x y:AV}(h:lend H x=y):Reads H x y:=fun hob hx=>h▸RV.lend hob x hx
theorem Reads.own{H:Nat→AO}{id:Nat}{t:TypeId}{pt:Option Value}{sz:Nat}{rows rows':List (List PV)}(hH:H id=.arr ⟨t,pt⟩ sz rows)(h:All2 (All2 (dpC H)) rows rows'):Reads H (.own id) (.p (.lst t sz rows')):=fun{L ρ w c} hob hx=>by
 rw[RV]at hx
 have hc:=hx.2 (by rw[hH];rfl)
 obtain⟨f,ho⟩:=hob id
 rw[hH]at ho
 obtain⟨xs,fr,b1,b2,b3,b4,b5⟩:=ho
 obtain⟨g,k1⟩:=RWR.deep hob h b1
 have hr:=OB.readsW (L:=L) (ρ:=ρ) (H:=H) (w:=w) (v:=ρ id) (f:=f) (e:=⟨t,pt⟩) (sz:=sz) (rows:=rows) ⟨xs,fr,b1,b2,b3,b4,b5⟩
 rw[hc]
 rw[RV]
 have hlen:rows'.length=rows.length:=h.len.symm
 rcases b3.2 with⟨q,q2⟩|⟨gb,cap,cur,q,_,hg,hnc,hcm,_⟩
 ·refine⟨[]++g,?_,fun b _=>no_live⟩
  rw[RW]
  refine⟨xs,[],g,k1,?_,rfl⟩
  unfold SlAt
  simp only[Bool.false_eq_true,if_false]
  exact⟨none,0,by rw[q,hlen,q2],by omega,by simp[maxLen],.inl ⟨by omega,trivial⟩⟩
 ·have b3':=b3
  rw[q]at b3'
  refine⟨[gb]++g,?_,fun b _=>no_live⟩
  rw[RW]
  refine⟨xs,[gb],g,k1,?_,rfl⟩
  unfold SlAt
  simp only[Bool.false_eq_true,if_false]
  exact⟨_,cap,by rw[q,hlen],by omega,hcm,.inr ⟨gb,0,rfl,cellsAt_of_own b3',(Array.getElem?_eq_some_iff.1 hg).1,rfl⟩⟩
theorem RVL.reads{H:Nat→AO}{L:Nat→Prop}{ρ:Nat→Value}{w:World}(hob:∀id,∃f,OB L ρ H w (ρ id) f (H id)):∀ {l m:List AV} {cs:List Value},All2 (Reads H) l m→RVL L ρ H w l cs→RVL L0 ρ0 (ofO []) w m cs
 |_,_,cs,.nil,h=>by rw[RVL]at *;exact h
 |_,_,cs,.cons h1 h2,h=>by
  rw[RVL]at *
  obtain⟨c,r,rfl,k1,k2⟩:=h
  exact⟨c,r,rfl,h1 hob k1,RVL.reads hob h2 k2⟩
theorem Reads.agg{H:Nat→AO}{l m:List AV}(h:All2 (Reads H) l m):Reads H (.agg l) (.agg m):=fun hob hx=>by
 rw[RV]at *
 obtain⟨cs,rfl,h1⟩:=hx
 exact⟨cs,rfl,RVL.reads hob h h1⟩
section
variable {P:Program}{o:Oper}{N:Nat}{τ:Nat→AV}{H:Nat→AO}
end
theorem rowF.app{F G:List AO}(h:rowF F)(g:rowF G):rowF (F++G):=fun o ho=>by
 rcases List.mem_append.1 ho with q|q
 ·exact h o q
 ·exact g o q
def nR(R:AV→List (Nat×AO)→List AO→Prop):AV→List (Nat×AO)→Prop:=fun x ob1=>∃l1 F1,(smallO l1&&(l1.all (fun p=>lowO p.2)&&lowA x))=true∧rowF F1∧F1.length≤10000000∧ob1=l1++famL 1000000 F1∧R x l1 F1
section
variable {P:Program}{L O:Nat→Prop}{w0:World}{N:Nat}{τ:Nat→AV}{H:Nat→AO}{Q:AQ}{c:Code}{ops:Array Oper}{l:List Oper}{F:List AO}
theorem GN.intro{f:FuncId}{fn:Func}{c:Code}{args:List AV}{ob0:List (Nat×AO)}{F0:List AO}{R:AV→List (Nat×AO)→List AO→Prop}{rs:List RVar}(hf:P.funcs[f]? = some fn)(hb:fn.body=some c)(hn:fn.ntmps=N)(hl:args.length≤N)(hrs:resOk P fn.results.toList rs)(h0:smallO ob0=true)
 (h:∀L O w0,AW P L O w0 N c (ofL args) (tl (ofO ob0) F0) (EndsX rs (nR R))):GN P f args ob0 F0 R:=GX.intro hf hb hn hl hrs (fun L O w0=>by rw[ofO_fam h0];exact h L O w0)
end

def flatR:AO→Prop
 |.arr e sz rows=>∀r∈rows,∀p∈r,∃v,p=PV.v v
 |_=>False
theorem GX.lent{P:Program}{f:FuncId}{args args':List AV}{ob0:List (Nat×AO)}{R:AV→List (Nat×AO)→Prop}(hc:GX P f args [] R)(hl:lendL (ofO ob0) args'=args)(h0:∀p∈ob0,arrO p.2=true)
 (hR:∀x ob1,R x ob1→ownA x=true∧(∀id∈ownN x,inO ob1 id=true)∧(∀p∈ob1,flatR p.2)∧(∀p∈ob0,inO ob1 p.1=false)) :
 GX P f args' ob0 fun x ob=>∃ob1,R x ob1∧ob=ob1++ob0:=by
 intro L w cs ρ fp hL hargs hob hdj hLf
 have hv:=RVL.lend (fun id=>⟨_,hob id⟩) args' hargs
 rw[hl]at hv
 refine Calls.mono (hc L0 w cs ρ0 (fun _=>[]) (fun _ q=>q.elim) hv (fun i=>rfl) (by simp) (by simp)) ?_
 rintro e w' ⟨x,ob1,hR1,v,ρ',fp',rfl,g1,g2,g3,g4,g5⟩
 obtain⟨hx,hn,h1,hd⟩:=hR x ob1 hR1
 have hnew:∀i,∀b∈fp' i,w.heap.size≤b:=fun i b hb=>by
  rcases(g5 i b hb).1 with⟨j,q⟩|q
  ·cases q
  ·exact q
 have hsame:∀b,b<w.heap.size→w'.heap[b]? = w.heap[b]?:=fun b hb=>g1.block b hb (by simp)
 generalize hρ2:(fun i=>if inO ob1 i=true then ρ' i else ρ i)=ρ2
 generalize hf2:(fun i=>if inO ob1 i=true then fp' i else fp i)=f2
 have eρ1:∀ {i},inO ob1 i=true→ρ2 i=ρ' i:=fun{i} h=>by rw[←hρ2];simp only[h,if_true]
 have eρ0:∀ {i},inO ob1 i=false→ρ2 i=ρ i:=fun{i} h=>by rw[←hρ2];simp[h]
 have ef1:∀ {i},inO ob1 i=true→f2 i=fp' i:=fun{i} h=>by rw[←hf2];simp only[h,if_true]
 have ef0:∀ {i},inO ob1 i=false→f2 i=fp i:=fun{i} h=>by rw[←hf2];simp[h]
 have eH1:∀ {i},inO ob1 i=true→ofO (ob1++ob0) i=ofO ob1 i:=fun{i} h=>by rw[ofO_app,if_pos h]
 have eH0:∀ {i},inO ob1 i=false→ofO (ob1++ob0) i=ofO ob0 i:=fun{i} h=>by rw[ofO_app,if_neg (by simp[h])]
 have hlive:∀b,b<w.heap.size→¬live L ρ (ofO ob0) b→¬live L ρ2 (ofO (ob1++ob0)) b:=by
  rintro b hb hn (hl|⟨i,q1,q2⟩)
  ·exact hn (.inl hl)
  ·rcases hi:inO ob1 i with _|_
   ·rw[eH0 hi]at q1;rw[eρ0 hi]at q2;exact hn (.inr ⟨i,q1,q2⟩)
   ·rw[eH1 hi]at q1;rw[eρ1 hi]at q2
    have:=hnew i b ((g3 i).top q1 q2)
    omega
 have E:Env L ρ ρ2 (ofO ob0) (ofO (ob1++ob0)) w w' (inO ob1):=⟨g1.size,fun b hb hn=>⟨hsame b hb,hlive b hb hn⟩,fun i hk hi=>by
  rw[eH0 hk]at hi ⊢
  exact⟨hi,eρ0 hk,rfl,rfl⟩⟩
 refine⟨x,ob1++ob0,⟨ob1,hR1,rfl⟩,v,ρ2,f2,rfl,⟨g1.os,g1.tape,g1.output,g1.size,fun b hb _=>hsame b hb,fun b o hb hlt=>?_⟩,?_,fun i=>?_,fun i j hij b hb hb'=>?_,fun i b hb=>?_⟩
 ·rcases Nat.lt_or_ge b w.heap.size with hb2|hb2
  ·rcases hb with⟨i,hi⟩|hb
   ·rw[World.frozen?_of_block (w:=w) (hsame b hb2)]
    exact(hob i).frozen b hi o
   ·omega
  ·exact g1.nf b o (.inr hb2) hlt
 ·refine RV.owned x hx g2 fun id hid=>?_
  obtain⟨o,q1,q2⟩:=ofO_mem (hn id hid)
  have hfl:=h1 _ q1
  refine⟨?_,eρ1 (hn id hid)⟩
  rw[q2]
  cases o with
  |arr e sz rows=>rfl
  |box T p c=>exact hfl.elim
  |gone=>exact hfl.elim
 ·rcases hi:inO ob1 i with _|_
  ·rw[eH0 hi,eρ0 hi,ef0 hi]
   have h:=(hob i).env E (fun b hb=>hsame b ((hob i).lt b hb))
   have ek:(ofO ob0 i).kil (inO ob1)=ofO ob0 i:=by
    rcases hj:inO ob0 i with _|_
    ·rw[ofO_out hj];rfl
    ·obtain⟨o,q1,q2⟩:=ofO_mem hj
     have:=h0 _ q1
     rw[q2]
     cases o with
     |arr e sz rows=>rfl
     |box T p c=>cases this
     |gone=>rfl
   rwa [ek]at h
  ·rw[eH1 hi,eρ1 hi,ef1 hi]
   obtain⟨o,q1,q2⟩:=ofO_mem hi
   have hfl:=h1 _ q1
   have h:=g3 i
   rw[q2]at h ⊢
   cases o with
   |arr e sz rows=>
    obtain⟨xs,fr,k1,k2,k3,k4,k5⟩:=h
    have hfr:=k1.flat_fp hfl
    subst hfr
    exact⟨xs,[],k1,by simp,k3,k4,k5⟩
   |box T p c=>exact hfl.elim
   |gone=>exact hfl.elim
 ·rcases hi:inO ob1 i with _|_<;>rcases hj:inO ob1 j with _|_
  ·rw[ef0 hi]at hb;rw[ef0 hj]at hb';exact hdj i j hij b hb hb'
  ·rw[ef0 hi]at hb;rw[ef1 hj]at hb'
   have:=(hob i).lt b hb
   have:=hnew j b hb'
   omega
  ·rw[ef1 hi]at hb;rw[ef0 hj]at hb'
   have:=(hob j).lt b hb'
   have:=hnew i b hb
   omega
  ·rw[ef1 hi]at hb;rw[ef1 hj]at hb';exact g4 i j hij b hb hb'
 ·rcases hi:inO ob1 i with _|_
  ·rw[ef0 hi]at hb;exact⟨.inl ⟨i,hb⟩,hLf i b hb⟩
  ·rw[ef1 hi]at hb
   have:=hnew i b hb
   exact⟨.inr this,fun hl=>by have:=hL b hl;omega⟩
theorem GX.same{P:Program}{f:FuncId}{args:List AV}{ob0:List (Nat×AO)}{R R':AV→List (Nat×AO)→Prop}(h:GX P f args ob0 R)(hR:∀x ob,R x ob→∃ob',R' x ob'∧ofO ob'=ofO ob):GX P f args ob0 R':=fun L w cs ρ fp h1 h2 h3 h4 h5=>
 Calls.mono (h L w cs ρ fp h1 h2 h3 h4 h5) fun e w' ⟨x,ob,q,r⟩=>by
  obtain⟨ob',q1,q2⟩:=hR x ob q
  exact⟨x,ob',q1,by rw[q2];exact r⟩
theorem inO_fam{F:List AO}{i:Nat}(h:i<1000000):inO (famL 1000000 F) i=false:=by
 cases e:inO (famL 1000000 F) i with
 |false=>rfl
 |true=>
  obtain⟨o,q,_⟩:=ofO_mem e
  obtain⟨m,_,q2⟩:=mem_famL q
  omega
theorem inO_app{l m:List (Nat×AO)}{i:Nat}:inO (l++m) i=(inO l i||inO m i):=by unfold inO;rw[List.map_append,List.contains_eq_any_beq,List.any_append,←List.contains_eq_any_beq,←List.contains_eq_any_beq]
theorem GN.lent{P:Program}{f:FuncId}{args args':List AV}{ob0:List (Nat×AO)}{R:AV→List (Nat×AO)→List AO→Prop}(hc:GN P f args [] [] R)(hl:lendL (ofO ob0) args'=args)(h0:(ob0.all fun p=>arrO p.2&&(lowO p.2&&Nat.blt p.1 1000000))=true)
 (hR:∀x l1 F1,R x l1 F1→ownA x=true∧(∀id∈ownN x,inO l1 id=true)∧(∀p∈l1,flatR p.2)∧(∀o∈F1,flatR o)∧(∀p∈ob0,inO l1 p.1=false)) :
 GN P f args' ob0 [] fun x l F=>∃l1,R x l1 F∧l=l1++ob0:=by
 have hs:smallO ob0=true:=List.all_eq_true.2 fun p hp=>by
  have:=List.all_eq_true.1 h0 p hp
  simp only[Bool.and_eq_true]at this
  exact this.2.2
 have hlo:(ob0.all fun p=>lowO p.2)=true:=List.all_eq_true.2 fun p hp=>by
  have:=List.all_eq_true.1 h0 p hp
  simp only[Bool.and_eq_true]at this
  exact this.2.1
 have hc':GX P f args [] _:=hc
 have h:=GX.lent (ob0:=ob0) hc' hl (fun p hp=>by
  have:=List.all_eq_true.1 h0 p hp
  simp only[Bool.and_eq_true]at this
  exact this.1) (fun x ob1 ⟨l1,F1,q1,q2,q3,q4,q5⟩=>by
  subst q4
  obtain⟨r1,r2,r3,r4,r5⟩:=hR x l1 F1 q5
  refine⟨r1,fun id hid=>by rw[inO_app,r2 id hid];rfl,fun p hp=>?_,fun p hp=>?_⟩
  ·rcases List.mem_append.1 hp with hp|hp
   ·exact r3 p hp
   ·have:∀(F:List AO) (n:Nat),p∈famL n F→p.2∈F:=by
     intro F
     induction F with
     |nil=>intro n h;cases h
     |cons o F ih=>
      intro n h
      rcases List.mem_cons.1 h with h|h
      ·rw[h];simp
      ·exact List.mem_cons_of_mem _ (ih _ h)
    exact r4 _ (this _ _ hp)
  ·rw[inO_app,r5 p hp,inO_fam (Nat.le_of_ble_eq_true (List.all_eq_true.1 hs p hp))];rfl)
 show GX P f args' (ob0++[]) _
 rw[List.append_nil]
 refine h.same fun x ob ⟨ob1,⟨l1,F1,q1,q2,q3,q4,q5⟩,q6⟩=>?_
 subst q4 q6
 simp only[Bool.and_eq_true]at q1
 have s1:smallO (l1++ob0)=true:=by unfold smallO at *;rw[List.all_append,q1.1,hs];rfl
 refine⟨(l1++ob0)++famL 1000000 F1,⟨l1++ob0,F1,?_,q2,q3,rfl,l1,q5,rfl⟩,?_⟩
 ·rw[s1,List.all_append,q1.2.1,hlo,q1.2.2];rfl
 ·funext i
  rcases lo_or_hi i with q|⟨m,rfl⟩
  ·rw[ofO_lo q,ofO_app,ofO_app,inO_app,inO_fam q,Bool.or_false,ofO_lo q]
  ·rw[ofO_hi s1,List.append_assoc,ofO_hi q1.1,ofO_app]
   split
   ·rfl
   ·rename_i z
    rw[ofO_out (by simpa using z)]
    have:inO ob0 (1000000+m)=false:=by
     cases e:inO ob0 (1000000+m)with
     |false=>rfl
     |true=>
      obtain⟨o,w1,_⟩:=ofO_mem e
      have:=List.all_eq_true.1 hs _ w1
      have:1000000+m<1000000:=Nat.le_of_ble_eq_true this
      omega
    rw[ofO_out this]
theorem exK{E l:List Nat}{X:Nat→Bool}(h:E=l)(h2:l.all X=true):∀id∈E,X id=true:=fun id hid=>by subst h;exact List.all_eq_true.1 h2 id hid

theorem bits_and_le(x:Int)(m:Nat)(hm:m<9223372036854775808):0≤bits BinOp.and IntKind.i64 x (m:Int)∧bits BinOp.and IntKind.i64 x (m:Int)≤m:=by
 have h1:(BitVec.ofInt 64 x &&& BitVec.ofInt 64 (m:Int)).toNat≤m:=by
  rw[BitVec.toNat_and]
  have h2:(BitVec.ofInt 64 (m:Int)).toNat=m:=by
   rw[BitVec.toNat_ofInt]
   omega
  rw[h2]
  exact Nat.and_le_right
 have h3:bits BinOp.and IntKind.i64 x (m:Int)=IntKind.i64.wrap ((BitVec.ofInt 64 x &&& BitVec.ofInt 64 (m:Int)).toNat:Int):=rfl
 rw[h3]
 generalize (BitVec.ofInt 64 x &&& BitVec.ofInt 64 (m:Int)).toNat=z at *
 have h4:IntKind.i64.wrap (z:Int)=z:=by
  simp[IntKind.wrap,IntKind.bits,IntKind.signed]
  omega
 rw[h4]
 omega
abbrev encU8(b:Int):List Value:=[.int .u8 b]
abbrev curO(g:Value)(code:List Int)(i:Nat)(h:Int):AO:=.box 58 (some g) [.p (.lst 5 1 (rowsOf encU8 code)),int (i:Int),int h]
def CurOk(code:List Int)(i:Nat):Prop:=i≤code.length∧code.length≤1048576
def DrR(g:Value)(code:List Int)(R:AV→Prop):AV→List (Nat×AO)→Prop:=fun x ob=>∃i h,CurOk code i∧R x∧ob=[(0,curO g code i h)]
def DrI(R:Int→Prop):AV→Prop:=fun x=>∃n,R n∧x=int n
theorem pins_cur{g:Value}{code:List Int}{i:Nat}{h:Int}{R:AV→Prop}:∀x ob1,DrR g code R x ob1→pins [(0,curO g code i h)] ob1 [0]:=fun x ob1 ⟨_,_,_,_,e⟩=>by
 subst e
 exact⟨stays.box (Eq.refl 3),trivial⟩
theorem and_bd(x:Int)(m:Nat)(hm:m<9223372036854775808):0≤bits .and .i64 x (m:Int)∧bits .and .i64 x (m:Int)≤m:=bits_and_le x m hm
theorem tmod_bd{n m:Int}(h0:0≤n)(hm:1≤m):0≤n.tmod m∧n.tmod m<m:=⟨Int.tmod_nonneg _ h0,Int.tmod_lt_of_pos _ (by omega)⟩
end Go.Proofs.Ytlgamhhfgaeaoaa

namespace Go.Proofs.Ytlgamhhfgaeaoaa.ty
open Go Go.Proofs Go.Proofs.Ytlgamhhfgaeaoaa
theorem kd3:kindA Try.prog 3=some none:=by kernel_rfl
theorem co3:Try.prog.cellsOf 3=1:=by kernel_rfl
theorem by3:Try.prog.bytesOf 3≤512:=Nat.le_of_ble_eq_true (by kernel_rfl)
theorem inf3:(Try.prog.info? 3).isSome=true:=by kernel_rfl
theorem ik3:intKind Try.prog 3=some .i64:=by kernel_rfl
theorem ze3:zeroA Try.prog 3=some [.int .i64 0]:=by kernel_rfl
theorem kd5:kindA Try.prog 5=some none:=by kernel_rfl
theorem ik5:intKind Try.prog 5=some .u8:=by kernel_rfl
theorem kd22:kindA Try.prog 22=some none:=by kernel_rfl
theorem el22:elA Try.prog 22=some (5,1):=by kernel_rfl
theorem sl22:isSlice Try.prog 22=true:=by kernel_rfl
theorem kd23:kindA Try.prog 23=some none:=by kernel_rfl
theorem co23:Try.prog.cellsOf 23=1:=by kernel_rfl
theorem inf23:(Try.prog.info? 23).isSome=true:=by kernel_rfl
theorem el23:elA Try.prog 23=some (53,4):=by kernel_rfl
theorem sl23:isSlice Try.prog 23=true:=by kernel_rfl
theorem kd25:kindA Try.prog 25=some (some 2):=by kernel_rfl
theorem co25:Try.prog.cellsOf 25=2:=by kernel_rfl
theorem inf25:(Try.prog.info? 25).isSome=true:=by kernel_rfl
theorem F25_0:FA Try.prog 25 0 0 3:=⟨by kernel_rfl,by rw[show Try.prog.cellsOf 3=1 by kernel_rfl];decide,by kernel_rfl⟩
theorem F25_1:FA Try.prog 25 1 1 23:=⟨by kernel_rfl,by rw[show Try.prog.cellsOf 23=1 by kernel_rfl];decide,by kernel_rfl⟩
theorem ze25:zeroA Try.prog 25=some [.int .i64 0,.slice none 0 0]:=by kernel_rfl
theorem sa25:structA Try.prog 25=some ([.int .i64 0,.slice none 0 0],[(0,1),(1,1)]):=by kernel_rfl
theorem el26:elA Try.prog 26=some (3,1):=by kernel_rfl
theorem sl26:isSlice Try.prog 26=true:=by kernel_rfl
theorem el45:elA Try.prog 45=some (48,5):=by kernel_rfl
theorem sl45:isSlice Try.prog 45=true:=by kernel_rfl
theorem kd48:kindA Try.prog 48=some (some 5):=by kernel_rfl
theorem co48:Try.prog.cellsOf 48=5:=by kernel_rfl
theorem inf48:(Try.prog.info? 48).isSome=true:=by kernel_rfl
theorem F48_0:FA Try.prog 48 0 0 3:=⟨by kernel_rfl,by rw[show Try.prog.cellsOf 3=1 by kernel_rfl];decide,by kernel_rfl⟩
theorem F48_3:FA Try.prog 48 3 3 3:=⟨by kernel_rfl,by rw[show Try.prog.cellsOf 3=1 by kernel_rfl];decide,by kernel_rfl⟩
theorem ze48:zeroA Try.prog 48=some [.int .i64 0,.int .i64 0,.int .i64 0,.int .i64 0,.int .i64 0]:=by kernel_rfl
theorem kd53:kindA Try.prog 53=some (some 4):=by kernel_rfl
theorem co53:Try.prog.cellsOf 53=4:=by kernel_rfl
theorem by53:Try.prog.bytesOf 53≤512:=Nat.le_of_ble_eq_true (by kernel_rfl)
theorem inf53:(Try.prog.info? 53).isSome=true:=by kernel_rfl
theorem F53_0:FA Try.prog 53 0 0 3:=⟨by kernel_rfl,by rw[show Try.prog.cellsOf 3=1 by kernel_rfl];decide,by kernel_rfl⟩
theorem F53_1:FA Try.prog 53 1 1 3:=⟨by kernel_rfl,by rw[show Try.prog.cellsOf 3=1 by kernel_rfl];decide,by kernel_rfl⟩
theorem F53_2:FA Try.prog 53 2 2 3:=⟨by kernel_rfl,by rw[show Try.prog.cellsOf 3=1 by kernel_rfl];decide,by kernel_rfl⟩
theorem F53_3:FA Try.prog 53 3 3 3:=⟨by kernel_rfl,by rw[show Try.prog.cellsOf 3=1 by kernel_rfl];decide,by kernel_rfl⟩
theorem ze53:zeroA Try.prog 53=some [.int .i64 0,.int .i64 0,.int .i64 0,.int .i64 0]:=by kernel_rfl
theorem sa53:structA Try.prog 53=some ([.int .i64 0,.int .i64 0,.int .i64 0,.int .i64 0],[(0,1),(1,1),(2,1),(3,1)]):=by kernel_rfl
theorem F58_0:FA Try.prog 58 0 0 22:=⟨by kernel_rfl,by rw[show Try.prog.cellsOf 22=1 by kernel_rfl];decide,by kernel_rfl⟩
theorem F58_1:FA Try.prog 58 1 1 3:=⟨by kernel_rfl,by rw[show Try.prog.cellsOf 3=1 by kernel_rfl];decide,by kernel_rfl⟩
theorem F58_2:FA Try.prog 58 2 2 3:=⟨by kernel_rfl,by rw[show Try.prog.cellsOf 3=1 by kernel_rfl];decide,by kernel_rfl⟩
theorem sa58:structA Try.prog 58=some ([.slice none 0 0,.int .i64 0,.int .i64 0],[(0,1),(1,1),(2,1)]):=by kernel_rfl
end Go.Proofs.Ytlgamhhfgaeaoaa.ty

namespace Go.Proofs.Ytlgamhhfgaeaoaa
open Go.RowKit
set_option maxHeartbeats 16000000
set_option maxRecDepth 100000
set_option linter.unusedSimpArgs false
set_option linter.unusedVariables false
theorem l01New_e(code:List Int)(hm:code.length≤1048576):GX Try.prog 16 [.p (.lst 5 1 (rowsOf encU8 code))] [] (fun x ob=>∃h,x=.ptr 31 0 0∧ob=[(31,.box 58 none [.p (.lst 5 1 (rowsOf encU8 code)),int ((0:Nat):Int),int h])]):=by
 refine GX.intro (rs:=[.tmp 2]) Try.func16 rfl Try.ntmps16 (Nat.le_of_ble_eq_true rfl) ⟨rfl,trivial⟩ ?_
 intro L O w0
 refine sL<|laV Z<|nA<|lmL Z<|lnI ty.sl22 Z ?_
 refine lhI rfl ⟨rfl,fits_i64 (by rw[length_rowsOf];unfold i64;omega)⟩<|laI Z<|nG<|aS<|sL<|laI Z<|nG<|aB ?_
 refine aW [0,2] [] (D:=Nat×Int) (fun d=>[(4,int (d.1:Int)),(3,int d.2)]) (fun d=>[]) (fun d=>d.1≤code.length) (fun d=>code.length-d.1) ((0,_)) (Nat.zero_le _) ⟨rfl,rfl,trivial⟩ trivial ?_
 intro ⟨j,q⟩ hI
 replace hI:j≤code.length:=hI
 refine aS<|sL<|lmI Z<|lmL Z<|lnI ty.sl22 Z<|lbB Z<|lmB Z ?_
 refine AL.bool (t:=12) rfl ?_ ?_
 ·intro h1
  refine lmI Z<|lbB Z<|lkB Z<|nG ?_
  refine AW.cond rfl ?_ ?_
  ·intro h2
   refine aK<|gT<|aS<|aB<|aL<|lmI Z<|lq (rd (x:=vI _ _) (rd_val Z Z Z (run_mulw Z) Z) Z)<|lmL Z<|lmI Z ?_
   have hj:j<code.length:=by have h:=h1;rw[length_rowsOf]at h;simp only[decide_eq_true_eq,Bool.and_eq_true]at h;omega
   refine li j ty.el22 Z (row_map hj)<|lrI ty.kd5 Z<|lq (rd (x:=vI _ _) (rd_conv Z ty.ik5 ty.ik3 Z) Z)<|lq (rd (x:=vI _ _) (rd_val Z Z Z (run_addw Z) Z) Z)<|lq (rd (x:=vI _ _) (rd_val Z Z Z (run_addw Z) Z) Z)<|lq (rd (x:=vI _ _) (rd_val Z Z Z (run_and Z) Z) Z)<|laI Z<|lN<|gB<|gT<|aL<|lmI Z<|lgI Z<|laI Z<|nG ?_
   refine⟨(j+1,_),hj,by show code.length-(j+1)<code.length-j;omega,⟨(iq rfl),rfl,trivial⟩,trivial,rfl,rfl⟩
  ·intro h2
   refine aE<|eT<|eT<|eB<|gA<|lmL Z<|lmI Z<|lT [2,28,29] [] ?_
   refine lq (rd (x:=.agg [vL _ _ _,vI _ _,vI _ _]) (rd_build Z ty.sa58 Z Z Z) Z)<|lst (zX 31 Z) Z<|laP Z<|nG<|aR ?_
   refine end_xret (.ptr 31 0 0) [(31,.box 58 none [.p (.lst 5 1 (rowsOf encU8 code)),int ((0:Nat):Int),int q])] ?_ rfl ⟨rfl,trivial⟩
   exact⟨_,rfl,rfl⟩
 ·intro h1
  refine lno Z<|lno Z<|lkZ Z<|nG<|aN Z<|aE<|eT<|eT<|eB<|gA<|lmL Z<|lmI Z<|lq (rd (x:=.agg [vL _ _ _,vI _ _,vI _ _]) (rd_build Z ty.sa58 Z Z Z) Z)<|lst (zX 31 Z) Z<|laP Z<|nG<|aR ?_
  refine end_xret (.ptr 31 0 0) [(31,.box 58 none [.p (.lst 5 1 (rowsOf encU8 code)),int ((0:Nat):Int),int q])] ?_ rfl ⟨rfl,trivial⟩
  exact⟨_,rfl,rfl⟩
theorem l01Byte_e(g:Value)(code:List Int)(i:Nat)(h:Int)(hc:CurOk code i):GX Try.prog 31 [.ptr 0 0 0] [(0,curO g code i h)] (DrR g code (DrI fun n=>0≤n∧n≤255)):=by
 refine GX.intro (rs:=[.tmp 2]) Try.func31 rfl Try.ntmps31 (Nat.le_of_ble_eq_true rfl) ⟨rfl,trivial⟩ ?_
 intro L O w0
 refine sL<|laI Z<|nA<|lmP Z<|lmP Z<|lc Z<|lf 2 ty.F58_2 Z<|loI ty.kd3 Z<|lq (rd (x:=vI _ _) (rd_val Z Z Z (run_mulw Z) Z) Z)<|lq (rd (x:=vI _ _) (rd_val Z Z Z (run_addw Z) Z) Z)<|lc Z<|lf 2 ty.F58_2 Z<|lst (zB 0 ty.co3 ty.inf3 Z) Z<|nG<|aS<|aF []<|pq 0 (qmP Z)<|pq 1 (qc Z)<|pq 2 (qf 2 ty.F58_2 Z)<|sq 3 (roI ty.kd3 Z) ?_
 refine sq 4 (rhI rfl ⟨rfl,by decide,by decide⟩)<|vq 5 (rmP rfl)<|vq 6 (rc rfl)<|vq 7 (rf 2 ty.F58_2 rfl)<|vq 8 (roI ty.kd3 rfl) ?_
 refine vq 9 (rhI rfl ⟨rfl,by decide,by decide⟩)<|vq 10 (rd (x:=vI _ _) (rd_val rfl rfl rfl (run_xor rfl) rfl) rfl)<|vq 11 (rd (x:=vI _ _) (rd_val rfl rfl rfl (run_and rfl) rfl) rfl)<|vq 12 (raI rfl)<|fD<|gT<|aS<|aS<|aF []<|pq 0 (qmP rfl)<|pq 1 (qc rfl)<|pq 2 (qf 1 ty.F58_1 rfl)<|sq 3 (roI ty.kd3 rfl)<|vq 4 (rmP rfl)<|vq 5 (rc rfl)<|fT [0,2,3,28,30] [0] ?_
 refine vq 6 (rf 0 ty.F58_0 Z)<|vq 7 (roL ty.kd22 Z)<|vq 8 (rnI ty.sl22 Z)<|vq 9 (rbB Z)<|fD<|gT ?_
 refine AW.cond rfl ?_ ?_
 ·intro h1
  refine aS<|aF []<|pq 0 (qmX (vI _ _) Z)<|pq 1 (qmP Z)<|pq 2 (qc Z)<|pq 3 (qf 0 ty.F58_0 Z)<|sq 4 (roL ty.kd22 Z)<|vq 5 (rmP Z)<|vq 6 (rc Z)<|vq 7 (rf 1 ty.F58_1 Z)<|vq 8 (roI ty.kd3 Z) ?_
  have hi:i<code.length:=by have h:=h1;rw[length_rowsOf]at h;simp only[decide_eq_true_eq]at h;omega
  refine vq 9 (ri i ty.el22 Z (row_map hi))<|vq 10 (rrI ty.kd5 Z)<|vq 11 (rd (x:=vI _ _) (rd_conv Z ty.ik5 ty.ik3 Z) Z)<|vq 12 (rd (x:=vI _ _) (rd_val Z Z Z (run_addw Z) Z) Z)<|vq 13 (rd (x:=vI _ _) (rd_val Z Z Z (run_and Z) Z) Z)<|vq 14 (raI Z)<|fD<|gT<|aL<|lmP Z<|lmP Z<|lc Z<|lf 1 ty.F58_1 Z<|loI ty.kd3 Z ?_
  refine lhI rfl ⟨rfl,fits_i64 (by unfold i64;have:=hc.2;omega)⟩<|lc Z<|lf 1 ty.F58_1 Z<|lst (zB 0 ty.co3 ty.inf3 rfl) Z<|lT [2,3] [0] ?_
  refine nA<|lmI Z<|laI Z<|nG<|aR ?_
  refine end_xret (int _) [(0,curO g code (i+1) _)] ?_ rfl ⟨(congrArg (fun z:Int=>AO.box 58 (some g) [.p (.lst 5 1 (rowsOf encU8 code)),int z,int _]) (by omega)),trivial⟩
  exact⟨i+1,_,⟨hi,hc.2⟩,⟨_,and_bd _ 255 (by decide),rfl⟩,rfl⟩
 ·intro h1
  refine aK<|gA<|lmI Z<|laI Z<|nG<|aR ?_
  refine end_xret (int _) [(0,curO g code i _)] ?_ rfl ⟨rfl,trivial⟩
  exact⟨i,_,hc,⟨_,and_bd _ 255 (by decide),rfl⟩,rfl⟩
theorem l01Below_e(g:Value)(code:List Int)(i:Nat)(h m:Int)(hc:CurOk code i):GX Try.prog 28 [.ptr 0 0 0,int m] [(0,curO g code i h)] (DrR g code (DrI fun n=>0≤n∧(n<m∨m≤0∧n=0))):=by
 refine GX.intro (rs:=[.tmp 4]) Try.func28 rfl Try.ntmps28 (Nat.le_of_ble_eq_true rfl) ⟨rfl,trivial⟩ ?_
 intro L O w0
 refine sL<|laI Z<|nG<|aS<|sL<|lmI Z<|lbB Z<|nG ?_
 refine AW.cond rfl ?_ ?_
 ·intro h1
  refine sL<|laI Z<|nG<|aR<|rT ?_
  have hm0:m≤0:=by have h:=h1;simpa using h
  refine end_xret (int 0) [(0,curO g code i h)] ?_ rfl ⟨rfl,trivial⟩
  exact⟨i,h,hc,⟨0,⟨by omega,.inr ⟨hm0,rfl⟩⟩,rfl⟩,rfl⟩
 ·intro h1
  refine aK<|gT<|aS<|sL<|lmI Z<|lbB Z<|nG ?_
  refine AW.cond rfl ?_ ?_
  ·intro h2
   refine sL<|lmP Z ?_
   refine lX [(0,0)] [] [0] Try.func31 (l01Byte_e g code _ _ hc) (⟨⟨0,rfl,rfl⟩,trivial⟩) (pins_cur) Z ?_
   intro xz1 oz1 hz1
   obtain⟨i1,q1,hc1,⟨n1,⟨na1,nb1⟩,rfl⟩,rfl⟩:=hz1
   refine lmI rfl ?_
   refine lhI rfl ⟨rfl,by have h:=h1;simp only[decide_eq_false_iff_not]at h;omega⟩<|laI Z<|nG<|aR<|rT ?_
   have hm1:1≤m:=by have h:=h1;simp only[decide_eq_false_iff_not]at h;omega
   obtain⟨z1,z2⟩:=tmod_bd (n:=n1) (m:=m) (by omega) hm1
   refine end_xret (int (n1.tmod m)) [(0,curO g code i1 q1)] ?_ rfl ⟨rfl,trivial⟩
   exact⟨i1,q1,hc1,⟨_,⟨z1,.inl z2⟩,rfl⟩,rfl⟩
  ·intro h2
   refine aK<|gA<|lmP Z ?_
   refine lX [(0,0)] [] [0] Try.func31 (l01Byte_e g code _ _ hc) (⟨⟨0,rfl,rfl⟩,trivial⟩) (pins_cur) Z ?_
   intro xz2 oz2 hz2
   obtain⟨i2,q2,hc2,⟨n2,⟨na2,nb2⟩,rfl⟩,rfl⟩:=hz2
   refine laI Z<|nA<|lmP Z ?_
   refine lX [(0,0)] [] [0] Try.func31 (l01Byte_e g code _ _ hc2) (⟨⟨0,rfl,rfl⟩,trivial⟩) (pins_cur) Z ?_
   intro xz3 oz3 hz3
   obtain⟨i3,q3,hc3,⟨n3,⟨na3,nb3⟩,rfl⟩,rfl⟩:=hz3
   refine lT [0,1,4,5,20] [0] ?_
   refine laI Z<|nA<|lmP Z ?_
   refine lX [(0,0)] [] [0] Try.func31 (l01Byte_e g code _ _ hc3) (⟨⟨0,rfl,rfl⟩,trivial⟩) (pins_cur) Z ?_
   intro xz4 oz4 hz4
   obtain⟨i4,q4,hc4,⟨n4,⟨na4,nb4⟩,rfl⟩,rfl⟩:=hz4
   refine laI Z<|nA<|lmP Z ?_
   refine lX [(0,0)] [] [0] Try.func31 (l01Byte_e g code _ _ hc4) (⟨⟨0,rfl,rfl⟩,trivial⟩) (pins_cur) Z ?_
   intro xz5 oz5 hz5
   obtain⟨i5,q5,hc5,⟨n5,⟨na5,nb5⟩,rfl⟩,rfl⟩:=hz5
   refine laI Z<|nA<|lmI Z<|lgI Z<|lmI Z<|lgI Z<|lgI Z<|lmI Z<|lgI Z<|lgI Z<|lmI Z<|lgI Z<|lmI Z ?_
   refine lhI rfl ⟨rfl,by have h:=h1;simp only[decide_eq_false_iff_not]at h;omega⟩<|laI Z<|nG<|aR ?_
   have hm1:1≤m:=by have h:=h1;simp only[decide_eq_false_iff_not]at h;omega
   obtain⟨z1,z2⟩:=tmod_bd (n:=(n2*16777216+n3*65536+n4*256+n5)) (m:=m) (by omega) hm1
   refine end_xret (int ((n2*16777216+n3*65536+n4*256+n5).tmod m)) [(0,curO g code i5 q5)] ?_ rfl ⟨rfl,trivial⟩
   exact⟨i5,q5,hc5,⟨_,⟨z1,.inl z2⟩,rfl⟩,rfl⟩
theorem shl_bd{n:Int}(h0:0≤n)(h1:n<51):0<1*(2:Int) ^ n.toNat∧1*(2:Int) ^ n.toNat≤1125899906842624:=by
 obtain⟨k,rfl⟩:=Int.eq_ofNat_of_zero_le h0
 have hk:k<51:=by omega
 have e:((k:Int)).toNat=k:=Int.toNat_natCast k
 rw[e,Int.one_mul]
 refine⟨Int.pow_pos (by decide),?_⟩
 have h2:(2:Nat) ^ k≤2 ^ 50:=Nat.pow_le_pow_right (by decide) (by omega)
 have h3:((2 ^ k:Nat):Int)≤((2 ^ 50:Nat):Int):=Int.ofNat_le.2 h2
 rw[Int.natCast_pow]at h3
 have h4:((2 ^ 50:Nat):Int)=1125899906842624:=by decide
 omega
theorem l01Raw_e(g:Value)(code:List Int)(i:Nat)(h:Int)(hc:CurOk code i):GX Try.prog 29 [.ptr 0 0 0] [(0,curO g code i h)] (DrR g code (DrI i64)):=by
 refine GX.intro (rs:=[.tmp 2]) Try.func29 rfl Try.ntmps29 (Nat.le_of_ble_eq_true rfl) ⟨rfl,trivial⟩ ?_
 intro L O w0
 refine sL<|laI Z<|nA<|lmP Z ?_
 refine lX [(0,0)] [] [0] Try.func28 (l01Below_e g code _ _ _ hc) (⟨⟨0,rfl,rfl⟩,trivial⟩) (pins_cur) Z ?_
 intro xz1 oz1 hz1
 obtain⟨i1,q1,hc1,⟨n1,⟨na1,nb1⟩,rfl⟩,rfl⟩:=hz1
 refine laI Z<|nG<|aS<|sL<|lmI Z<|lbB Z<|nG ?_
 refine AW.cond rfl ?_ ?_
 ·intro h1
  refine sL<|lmP Z ?_
  refine lX [(0,0)] [] [0] Try.func28 (l01Below_e g code _ _ _ hc1) (⟨⟨0,rfl,rfl⟩,trivial⟩) (pins_cur) Z ?_
  intro xz2 oz2 hz2
  obtain⟨i2,q2,hc2,⟨n2,⟨na2,nb2⟩,rfl⟩,rfl⟩:=hz2
  refine lgI Z<|laI Z<|nG<|aR<|rT ?_
  refine end_xret (int _) [(0,curO g code i2 q2)] ?_ rfl ⟨rfl,trivial⟩
  exact⟨i2,q2,hc2,⟨_,by unfold i64;omega,rfl⟩,rfl⟩
 ·intro h1
  refine aK<|gT<|aS<|sL<|lmI Z<|lbB Z<|nG ?_
  refine AW.cond rfl ?_ ?_
  ·intro h2
   refine sL<|lmP Z ?_
   refine lX [(0,0)] [] [0] Try.func28 (l01Below_e g code _ _ _ hc1) (⟨⟨0,rfl,rfl⟩,trivial⟩) (pins_cur) Z ?_
   intro xz3 oz3 hz3
   obtain⟨i3,q3,hc3,⟨n3,⟨na3,nb3⟩,rfl⟩,rfl⟩:=hz3
   refine lT [0,2,3,14] [0] ?_
   refine lgI Z<|laI Z<|nG<|aR<|rT ?_
   refine end_xret (int _) [(0,curO g code i3 q3)] ?_ rfl ⟨rfl,trivial⟩
   exact⟨i3,q3,hc3,⟨_,by unfold i64;omega,rfl⟩,rfl⟩
  ·intro h2
   refine aK<|gT<|aS<|sL<|lmI Z<|lbB Z<|nG ?_
   refine AW.cond rfl ?_ ?_
   ·intro h3
    refine sL<|lmP Z ?_
    refine lX [(0,0)] [] [0] Try.func28 (l01Below_e g code _ _ _ hc1) (⟨⟨0,rfl,rfl⟩,trivial⟩) (pins_cur) Z ?_
    intro xz4 oz4 hz4
    obtain⟨i4,q4,hc4,⟨n4,⟨na4,nb4⟩,rfl⟩,rfl⟩:=hz4
    refine lgI Z<|laI Z<|nG<|aR<|rT ?_
    refine end_xret (int _) [(0,curO g code i4 q4)] ?_ rfl ⟨rfl,trivial⟩
    exact⟨i4,q4,hc4,⟨_,by unfold i64;omega,rfl⟩,rfl⟩
   ·intro h3
    refine aK<|gT<|aS<|sL<|lmI Z<|lbB Z<|nG ?_
    refine AW.cond rfl ?_ ?_
    ·intro h4
     refine sL<|lmP Z ?_
     refine lX [(0,0)] [] [0] Try.func28 (l01Below_e g code _ _ _ hc1) (⟨⟨0,rfl,rfl⟩,trivial⟩) (pins_cur) Z ?_
     intro xz5 oz5 hz5
     obtain⟨i5,q5,hc5,⟨n5,⟨na5,nb5⟩,rfl⟩,rfl⟩:=hz5
     refine lgI Z<|laI Z<|nG<|aR<|rT ?_
     refine end_xret (int _) [(0,curO g code i5 q5)] ?_ rfl ⟨rfl,trivial⟩
     exact⟨i5,q5,hc5,⟨_,by unfold i64;omega,rfl⟩,rfl⟩
    ·intro h4
     refine aK<|gT<|aS<|sL<|lmI Z<|lbB Z<|nG ?_
     refine AW.cond rfl ?_ ?_
     ·intro h5
      refine sL<|lmP Z ?_
      refine lX [(0,0)] [] [0] Try.func28 (l01Below_e g code _ _ _ hc1) (⟨⟨0,rfl,rfl⟩,trivial⟩) (pins_cur) Z ?_
      intro xz6 oz6 hz6
      obtain⟨i6,q6,hc6,⟨n6,⟨na6,nb6⟩,rfl⟩,rfl⟩:=hz6
      refine lT [0,2,3,29] [0] ?_
      refine lgI Z<|laI Z<|nG<|aR<|rT ?_
      refine end_xret (int _) [(0,curO g code i6 q6)] ?_ rfl ⟨rfl,trivial⟩
      exact⟨i6,q6,hc6,⟨_,by unfold i64;omega,rfl⟩,rfl⟩
     ·intro h5
      refine aK<|gT<|aS<|sL<|lmI Z<|lbB Z<|nG ?_
      refine AW.cond rfl ?_ ?_
      ·intro h6
       refine sL<|lmP Z ?_
       refine lX [(0,0)] [] [0] Try.func28 (l01Below_e g code _ _ _ hc1) (⟨⟨0,rfl,rfl⟩,trivial⟩) (pins_cur) Z ?_
       intro xz7 oz7 hz7
       obtain⟨i7,q7,hc7,⟨n7,⟨na7,nb7⟩,rfl⟩,rfl⟩:=hz7
       refine lgI Z<|laI Z<|nG<|aR<|rT ?_
       refine end_xret (int _) [(0,curO g code i7 q7)] ?_ rfl ⟨rfl,trivial⟩
       exact⟨i7,q7,hc7,⟨_,by unfold i64;omega,rfl⟩,rfl⟩
      ·intro h6
       refine aK<|gT<|aS<|sL<|lmI Z<|lbB Z<|nG ?_
       refine AW.cond rfl ?_ ?_
       ·intro h7
        refine sL<|lmP Z ?_
        refine lX [(0,0)] [] [0] Try.func28 (l01Below_e g code _ _ _ hc1) (⟨⟨0,rfl,rfl⟩,trivial⟩) (pins_cur) Z ?_
        intro xz8 oz8 hz8
        obtain⟨i8,q8,hc8,⟨n8,⟨na8,nb8⟩,rfl⟩,rfl⟩:=hz8
        obtain⟨hs1,hs2⟩:=shl_bd (n:=n8) na8 (by omega)
        refine lhI rfl ⟨rfl,na8,by omega,by show IntKind.i64.wrap _=_;exact fits_i64 (by unfold i64;omega)⟩<|laI Z<|nG<|aR<|rT ?_
        refine end_xret (int _) [(0,curO g code i8 q8)] ?_ rfl ⟨rfl,trivial⟩
        exact⟨i8,q8,hc8,⟨_,by unfold i64;omega,rfl⟩,rfl⟩
       ·intro h7
        refine aK<|gA<|lmP Z ?_
        refine lX [(0,0)] [] [0] Try.func28 (l01Below_e g code _ _ _ hc1) (⟨⟨0,rfl,rfl⟩,trivial⟩) (pins_cur) Z ?_
        intro xz9 oz9 hz9
        obtain⟨i9,q9,hc9,⟨n9,⟨na9,nb9⟩,rfl⟩,rfl⟩:=hz9
        refine lT [0,2,42] [0] ?_
        refine lmP rfl ?_
        refine lX [(0,0)] [] [0] Try.func28 (l01Below_e g code _ _ _ hc9) (⟨⟨0,rfl,rfl⟩,trivial⟩) (pins_cur) Z ?_
        intro xz10 oz10 hz10
        obtain⟨i10,q10,hc10,⟨n10,⟨na10,nb10⟩,rfl⟩,rfl⟩:=hz10
        have hm1:0≤n9*n10:=Int.mul_nonneg na9 na10
        have hm2:n9*n10≤1000000*1000000:=Int.mul_le_mul (by omega) (by omega) na10 (by decide)
        refine lgI Z<|laI Z<|nG<|aR ?_
        refine end_xret (int _) [(0,curO g code i10 q10)] ?_ rfl ⟨rfl,trivial⟩
        exact⟨i10,q10,hc10,⟨_,by unfold i64;omega,rfl⟩,rfl⟩

section
variable {P:Program}{o:Oper}{N:Nat}{τ:Nat→AV}{H:Nat→AO}
end

theorem no_liveN{L:Nat→Prop}{ρ:Nat→Value}{b:Nat}(h:¬L b):¬live L ρ (ofO []) b:=by
 rintro(q|⟨_,q,_⟩)
 ·exact h q
 ·cases q
theorem GC.of_row{P:Program}{f:FuncId}{args:List AV}{x:AV}{R:World→Nat→Value→Prop}
 (ho:∀ {L:Nat→Prop} {ρ:Nat→Value} {w:World} {lo:Nat} {v:Value},(∀b,L b→b<lo)→R w lo v→RV L ρ (ofO []) w x v)
 (h:∀(L:Nat→Prop) (ρ:Nat→Value) (w:World) (cs:List Value),RVL L ρ (ofO []) w args cs→Calls P f cs.toArray w fun e w'=>∃v,e=.returned v∧Grow w w'∧R w' w.heap.size v):GC P f args [] x []:=by
 intro L w cs ρ fp hL hargs hob hdj hLf
 refine Calls.mono (h L ρ w cs hargs) ?_
 rintro e w' ⟨v,rfl,g,hR⟩
 refine⟨x,[],⟨rfl,rfl⟩,v,ρ,fun _=>[],rfl,⟨g.below.os,g.below.tape,g.below.output,g.size,fun b hb _=>g.below.block b hb,fun b o hb hlt=>?_⟩,ho hL hR,fun i=>rfl,by simp,by simp⟩
 rcases hb with⟨i,hi⟩|hb
 ·have:=(hob i).only hi
  cases this.1
 ·exact g.nf b o hb hlt
def RowN{α:Type}(sz:Nat)(rep:World→Nat→Nat→List Value→α→Prop)(xs:List α)(w:World)(lo:Nat)(v:Value):Prop:=SlR sz rep w lo w.heap.size v xs
theorem RowN.rv{α:Type}{enc:α→List Value}{e:TypeId}{sz:Nat}{rep:World→Nat→Nat→List Value→α→Prop}{xs:List α}(hrep:∀w lo hi cs x,rep w lo hi cs x→cs=enc x)(hs:∀x,(enc x).length=sz)(h1:∀x,∀u∈enc x,u.oneCell'=true)
 {L:Nat→Prop} {ρ:Nat→Value} {w:World} {lo:Nat} {v:Value} (hL:∀b,L b→b<lo) (h:RowN sz rep xs w lo v):RV L ρ (ofO []) w (.p (.lst e sz (rowsOf enc xs))) v:=
 RV.of_slr h (fun _ _ q=>hrep _ _ _ _ _ q) hs h1 (Nat.le_refl _) (fun b q _=>no_liveN fun z=>by have:=hL b z;omega)
theorem GC.of_sl{α:Type}{P:Program}{f:FuncId}{args:List AV}{enc:α→List Value}{e:TypeId}{sz:Nat}{rep:World→Nat→Nat→List Value→α→Prop}{xs:List α}(hrep:∀w lo hi cs x,rep w lo hi cs x→cs=enc x)(hs:∀x,(enc x).length=sz)(h1:∀x,∀u∈enc x,u.oneCell'=true)
 (h:∀(L:Nat→Prop) (ρ:Nat→Value) (w:World) (cs:List Value),RVL L ρ (ofO []) w args cs→Calls P f cs.toArray w fun en w'=>∃v,en=.returned v∧Grow w w'∧RowN sz rep xs w' w.heap.size v):GC P f args [] (.p (.lst e sz (rowsOf enc xs))) []:=
 GC.of_row (R:=RowN sz rep xs) (fun hL q=>q.rv hrep hs h1 hL) h
theorem GC.of_slb{α:Type}{P:Program}{f:FuncId}{args:List AV}{enc:α→List Value}{e:TypeId}{sz:Nat}{rep:World→Nat→Nat→List Value→α→Prop}{xs:List α}{b:Bool}(hrep:∀w lo hi cs x,rep w lo hi cs x→cs=enc x)(hs:∀x,(enc x).length=sz)(h1:∀x,∀u∈enc x,u.oneCell'=true)
 (h:∀(L:Nat→Prop) (ρ:Nat→Value) (w:World) (cs:List Value),RVL L ρ (ofO []) w args cs→Calls P f cs.toArray w fun en w'=>∃v,en=.returned (.tuple #[v,.bool b])∧Grow w w'∧RowN sz rep xs w' w.heap.size v):GC P f args [] (.tup [.p (.lst e sz (rowsOf enc xs)),boo b]) []:=
 GC.of_row (R:=fun w lo u=>∃v,u=.tuple #[v,.bool b]∧RowN sz rep xs w lo v) (fun hL ⟨v,e1,q⟩=>by
  rw[RV]
  exact⟨[v,.bool b],e1,v,[.bool b],rfl,q.rv hrep hs h1 hL,_,[],rfl,RV.v_mk rfl,rfl⟩) fun L ρ w cs q=>Calls.mono (h L ρ w cs q) fun en w' ⟨v,e1,g,r⟩=>⟨_,e1,g,v,rfl,r⟩
section
variable {L:Nat→Prop}{ρ:Nat→Value}{H:Nat→AO}{w:World}{S:Nat→Prop}
def Lie(L:Nat→Prop)(ρ:Nat→Value)(H:Nat→AO)(w:World)(S:Nat→Prop):Prop:=(∀id,∃f,OB L ρ H w (ρ id) f (H id)∧∀b∈f,S b)∧∀b,¬live L ρ H b→S b
theorem Lie.row(hl:Lie L ρ H w S){id:Nat}{e:Pin}{sz:Nat}{rows rows':List (List PV)}(hH:H id=.arr e sz rows)(h:∀ {xs fp},RWR w false sz rows xs fp→(∀b∈fp,S b)→∃g,RWR w false sz rows' xs g∧∀b∈g,S b)(hlen:rows'.length=rows.length) :
 ∃g,RW w false (.lst e.ty sz rows') (ρ id) g∧∀b∈g,S b:=by
 obtain⟨f,ho,hf⟩:=hl.1 id
 rw[hH]at ho
 obtain⟨xs,fr,b1,b2,b3,b4,b5⟩:=ho
 obtain⟨g,k1,k2⟩:=h b1 (fun b hb=>hl.2 b (b2 b hb))
 rcases b3.2 with⟨q,q2⟩|⟨gb,cap,cur,q,_,hg,hnc,hcm,_⟩
 ·refine⟨[]++g,?_,fun b hb=>k2 b (by simpa using hb)⟩
  rw[RW]
  refine⟨xs,[],g,k1,?_,rfl⟩
  unfold SlAt
  simp only[Bool.false_eq_true,if_false]
  exact⟨none,0,by rw[q,hlen,q2],by omega,by simp[maxLen],.inl ⟨by omega,trivial⟩⟩
 ·have b3':=b3
  rw[q]at b3'
  refine⟨[gb]++g,?_,fun b hb=>?_⟩
  ·rw[RW]
   refine⟨xs,[gb],g,k1,?_,rfl⟩
   unfold SlAt
   simp only[Bool.false_eq_true,if_false]
   exact⟨_,cap,by rw[q,hlen],by omega,hcm,.inr ⟨gb,0,rfl,cellsAt_of_own b3',(Array.getElem?_eq_some_iff.1 hg).1,rfl⟩⟩
  ·rcases List.mem_append.1 hb with hb|hb
   ·refine hf b ?_
    rw[List.mem_singleton.1 hb,b4,q]
    simp[Value.ownBlock]
   ·exact k2 b hb
theorem Lie.self(hl:Lie L ρ H w S){id:Nat}{e:Pin}{sz:Nat}{rows:List (List PV)}(hH:H id=.arr e sz rows):∃g,RW w false (.lst e.ty sz rows) (ρ id) g∧∀b∈g,S b:=hl.row hH (fun h hs=>⟨_,h,hs⟩) rfl
theorem RWL.deepS(hl:Lie L ρ H w S):∀ {x y:List PV} {c:List Value} {fp:List Nat},All2 (dpC H) x y→RWL w false x c fp→(∀b∈fp,S b)→∃fp',RWL w false y c fp'∧∀b∈fp',S b
 |_,_,c,fp,.nil,h,hs=>⟨fp,h,hs⟩
 |_,_,c,fp,.cons h1 h2,h,hs=>by
  rw[RWL]at h
  obtain⟨c,r,f1,f2,rfl,rfl,k1,k2⟩:=h
  obtain⟨g2,k3,k4⟩:=RWL.deepS hl h2 k2 (fun b hb=>hs b (List.mem_append_right _ hb))
  rcases h1 with rfl|⟨v,m,e,sz,rows,rfl,hm,rfl⟩
  ·refine⟨f1++g2,by rw[RWL];exact⟨c,r,f1,g2,rfl,rfl,k1,k3⟩,fun b hb=>?_⟩
   rcases List.mem_append.1 hb with q|q
   ·exact hs b (List.mem_append_left _ q)
   ·exact k4 b q
  ·obtain⟨g1,k5,k6⟩:=hl.self hm
   have hv:ρ m=v:=by
    obtain⟨f,ho,_⟩:=hl.1 m
    rw[hm]at ho
    obtain⟨_,_,_,_,_,_,k⟩:=ho
    exact k v rfl
   rw[RW]at k1
   rw[k1.1,←hv]
   refine⟨g1++g2,by rw[RWL];exact⟨ρ m,r,g1,g2,rfl,rfl,k5,k3⟩,fun b hb=>?_⟩
   rcases List.mem_append.1 hb with q|q
   ·exact k6 b q
   ·exact k4 b q
theorem RWR.deepS(hl:Lie L ρ H w S){sz:Nat}:∀ {x y:List (List PV)} {c:List Value} {fp:List Nat},All2 (All2 (dpC H)) x y→RWR w false sz x c fp→(∀b∈fp,S b)→∃fp',RWR w false sz y c fp'∧∀b∈fp',S b
 |_,_,c,fp,.nil,h,hs=>⟨fp,h,hs⟩
 |_,_,c,fp,.cons h1 h2,h,hs=>by
  rw[RWR]at h
  obtain⟨hn,c,r,f1,f2,rfl,rfl,k1,k2⟩:=h
  obtain⟨g1,k3,k5⟩:=RWL.deepS hl h1 k1 (fun b hb=>hs b (List.mem_append_left _ hb))
  obtain⟨g2,k4,k6⟩:=RWR.deepS hl h2 k2 (fun b hb=>hs b (List.mem_append_right _ hb))
  refine⟨g1++g2,by rw[RWR];exact⟨by rw[←h1.len];exact hn,c,r,g1,g2,rfl,rfl,k3,k4⟩,fun b hb=>?_⟩
  rcases List.mem_append.1 hb with q|q
  ·exact k5 b q
  ·exact k6 b q
end
structure Still(H:Nat→AO)(x y:AV):Prop where
 to:∀ {L:Nat→Prop} {ρ:Nat→Value} {w:World} {c:Value},Lie L ρ H w (fun b=>¬L b)→RV L ρ H w x c→RV L ρ (ofO []) w y c
theorem Still.p{H:Nat→AO}(x:PV):Still H (.p x) (.p x):=.mk fun{L ρ w c} hl h=>by
 rw[RV]at *
 obtain⟨fp,h1,h2⟩:=h
 exact⟨fp,h1,fun b hb=>no_liveN (hl.2 b (h2 b hb))⟩
theorem Still.own{H:Nat→AO}{id:Nat}{e:Pin}{sz:Nat}{rows rows':List (List PV)}(hH:H id=.arr e sz rows)(h:All2 (All2 (dpC H)) rows rows'):Still H (.own id) (.p (.lst e.ty sz rows')):=.mk fun{L ρ w c} hl hx=>by
 rw[RV]at hx
 have hc:=hx.2 (by rw[hH];rfl)
 obtain⟨g,k1,k2⟩:=hl.row hH (fun q hs=>RWR.deepS hl h q hs) h.len.symm
 rw[hc,RV]
 exact⟨g,k1,fun b hb=>no_liveN (k2 b hb)⟩
theorem Still.row{H:Nat→AO}{id:Nat}{e:Pin}{sz:Nat}{rows:List (List PV)}(hH:H id=.arr e sz rows):Still H (.own id) (.p (.lst e.ty sz rows)):=.mk fun{L ρ w c} hl hx=>by
 rw[RV]at hx
 have hc:=hx.2 (by rw[hH];rfl)
 obtain⟨g,k1,k2⟩:=hl.self hH
 rw[hc,RV]
 exact⟨g,k1,fun b hb=>no_liveN (k2 b hb)⟩
theorem RVL.still{H:Nat→AO}{L:Nat→Prop}{ρ:Nat→Value}{w:World}(hl:Lie L ρ H w (fun b=>¬L b)):∀ {l m:List AV} {cs:List Value},All2 (Still H) l m→RVL L ρ H w l cs→RVL L ρ (ofO []) w m cs
 |_,_,cs,.nil,h=>by rw[RVL]at *;exact h
 |_,_,cs,.cons h1 h2,h=>by
  rw[RVL]at *
  obtain⟨c,r,rfl,k1,k2⟩:=h
  exact⟨c,r,rfl,h1.to hl k1,RVL.still hl h2 k2⟩
theorem Still.agg{H:Nat→AO}{l m:List AV}(h:All2 (Still H) l m):Still H (.agg l) (.agg m):=.mk fun hl hx=>by
 rw[RV]at *
 obtain⟨cs,rfl,h1⟩:=hx
 exact⟨cs,rfl,RVL.still hl h h1⟩
theorem Still.tup{H:Nat→AO}{l m:List AV}(h:All2 (Still H) l m):Still H (.tup l) (.tup m):=.mk fun hl hx=>by
 rw[RV]at *
 obtain⟨cs,rfl,h1⟩:=hx
 exact⟨cs,rfl,RVL.still hl h h1⟩
theorem GX.frozen{P:Program}{f:FuncId}{args:List AV}{R:AV→List (Nat×AO)→Prop}{Z:AV→Prop}(h:GX P f args [] R)(hR:∀x ob1,R x ob1→∃y,Still (ofO ob1) x y∧Z y):GX P f args [] fun y ob=>ob=[]∧Z y:=fun L w cs ρ fp h1 h2 h3 h4 h5=>
 Calls.mono (h L w cs ρ fp h1 h2 h3 h4 h5) fun e w' ⟨x,ob1,q,v,ρ',fp',q1,q2,q3,q4,q5,q6⟩=>by
  obtain⟨y,hy,hz⟩:=hR x ob1 q
  have hl:Lie L ρ' (ofO ob1) w' (fun b=>¬L b):=⟨fun id=>⟨fp' id,q4 id,fun b hb=>(q6 id b hb).2⟩,fun b hb=>fun z=>hb (.inl z)⟩
  exact⟨y,[],⟨rfl,hz⟩,v,ρ',fun _=>[],q1,q2,hy.to hl q3,fun i=>rfl,by simp,by simp⟩
end Go.Proofs.Ytlgamhhfgaeaoaa

