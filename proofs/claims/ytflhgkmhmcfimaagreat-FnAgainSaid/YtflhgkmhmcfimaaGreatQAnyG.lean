/- A region that draws its order, with loads of a cell that its last store writes: a condition on the world is asked behind an operation only while something may still come up. No program in sight. -/
import Derived.Test.YtflhgkmhmcfimaaGreatQSup
import Derived.Deep.RegionHeld3
import Derived.StillTail
namespace Go.Proofs.YtflhgkmhmcfimaaGreat
set_option maxRecDepth 100000
open Go.RowKit
set_option linter.unusedSimpArgs false
set_option linter.unusedVariables false
section
variable {P:Program}{ops:Array Oper}{Q:Exit->Act->World->Prop}{md:Region.Mode}{S:World->Prop}
def rt(md:Region.Mode)(ops:Array Oper)(av:Array Bool):Bool:=
 (List.range ops.size).all fun j=>!av.getD j false||(match ops[j]? with|some oj=>oj.after.all (fun e=>!Region.binds md e||av.getD e.on false)|none=>true)
def xM(md:Region.Mode)(ops:Array Oper)(av:Array Bool):Prop:=
 ∀j oj,ops[j]? = some oj->av.getD j false=true->∀e∈oj.after,Region.binds md e=true->av.getD e.on false=true
theorem IH{av:Array Bool}(h:rt md ops av=true):xM md ops av:=fun j oj hj hl e he hb=>by
 unfold rt at h;have Fo:j<ops.size:=(Array.getElem?_eq_some_iff.1 hj).1;have V:=List.all_eq_true.1 h j (by simpa using Fo);rw[hl,hj]at V;have h2:=Array.all_eq_true'.1 (show (oj.after.all fun e=>!Region.binds md e||av.getD e.on false)=true from V) e he;simpa[hb]using h2
theorem xM.set{av:Array Bool}(h:xM md ops av){j:Nat}(hj:j∈Region.ready md ops av):xM md ops (av.setIfInBounds j true):=fun k ok hk hl e he hb=>by
 obtain⟨uH,oj,pQ,bB⟩:=mem_ready.1 hj;have up:∀m,av.getD m false=true->(av.setIfInBounds j true).getD m false=true:=fun m hm=>by
  by_cases q:j=m
  ·subst q;rcases Nat.lt_or_ge j av.size with h'|h'
   ·simp[h']
   simp[Array.getElem?_eq_none h']at hm
  rw[getD_set_ne false q];exact hm
 by_cases q:j=k
 ·subst q;rw[pQ]at hk;injection hk with hk;subst hk;exact up _ (bB e he hb)
 rw[getD_set_ne false q]at hl;exact up _ (h k ok hk hl e he hb)
def qw(P:Program)(md:Region.Mode)(ops:Array Oper)(Q:Exit->Act->World->Prop)(S:World->Prop)(f:Nat):Nat->Array Bool->Act->World->Prop
 |0,av,a,w=>Region.ready md ops av=[]/\Q .normal a w
 |cS+1,av,a,w=>
  (Region.ready md ops av=[]->Q .normal a w)/\
  ∀i∈Region.ready md ops av,wpOp P ops Q i (fun a' w'=>(i≠f->S w')/\qw P md ops Q S f cS (av.setIfInBounds i true) a' w') a w
theorem Pp{f:Nat}:∀(cS:Nat) (av:Array Bool) (a:Act) (w:World),qw P md ops Q S f cS av a w->wpAny P md ops Q cS av a w
 |0,_,_,_,h=>h
 |cS+1,_,_,_,h=>⟨h.1,fun i hi=>wpOp_mono (fun a' w' h'=>Pp cS _ a' w' h'.2) (h.2 i hi)⟩
theorem C0{f i:Nat}{o:Oper}{cS:Nat}{av:Array Bool}{a:Act}{w:World}(ho:ops[i]? = some o)(hr:Region.ready md ops av=[i])
 (h:∀K':Act->World->Prop,(∀a w,(i≠f->S w)->qw P md ops Q S f cS (av.setIfInBounds i true) a w->K' a w)->if Region.wanted o (yielded ops a.tmps)=true then Oper.wp P o a w K' Q else K' (a.put o.dst undef) w) :
 qw P md ops Q S f (cS+1) av a w:=by
 refine⟨fun h0=>(by rw[hr]at h0;cases h0),fun j hj=>?_⟩
 rw[hr]at hj
 obtain rfl:=List.mem_singleton.1 hj
 exact wpOp_step ho (fun K' hK=>h K' (fun a w V h2=>hK a w ⟨V,h2⟩))
theorem Pq{f:Nat}{av:Array Bool}{a:Act}{w:World}(hr:Region.ready md ops av=[])(h:Q .normal a w):∀cS,qw P md ops Q S f cS av a w
 |0=>⟨hr,h⟩
 |_+1=>⟨fun _=>h,by rw[hr];simp⟩
theorem Zb{f:Nat}{id:Nat}{a:Act}{w:World}(hm:P.follows .mixedOrders=true)(h:qw P .any ops Q S f ops.size (Array.replicate ops.size false) a w.drew):(Code.region id ops true).wp P Q a w:=
 wp_region_any hm (Pp _ _ _ _ h)
end
end Go.Proofs.YtflhgkmhmcfimaaGreat
