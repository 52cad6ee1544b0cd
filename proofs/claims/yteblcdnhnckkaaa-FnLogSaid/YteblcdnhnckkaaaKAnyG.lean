/- A region that draws its order, with loads of a cell that its last store writes: a condition on the world is asked behind an operation only while something may still come up. No program in sight. -/
import Derived.Test.YteblcdnhnckkaaaKSup
import Derived.Deep.RegionHeld3
import Derived.StillTail
namespace Go.Proofs.Yteblcdnhnckkaaa
open Go.RowKit
set_option linter.unusedSimpArgs false
set_option linter.unusedVariables false
section
variable {P:Program}{ops:Array Oper}{Q:Exit→Act→World→Prop}{md:Region.Mode}{S:World→Prop}
def closedB(md:Region.Mode)(ops:Array Oper)(listed:Array Bool):Bool:=
 (List.range ops.size).all fun j=>!listed.getD j false||(match ops[j]? with|some oj=>oj.after.all (fun e=>!Region.binds md e||listed.getD e.on false)|none=>true)
def Closed(md:Region.Mode)(ops:Array Oper)(listed:Array Bool):Prop:=
 ∀j oj,ops[j]? = some oj→listed.getD j false=true→∀e∈oj.after,Region.binds md e=true→listed.getD e.on false=true
theorem Closed.of{listed:Array Bool}(h:closedB md ops listed=true):Closed md ops listed:=fun j oj hj hl e he hb=>by
 unfold closedB at h
 have hjs:j<ops.size:=(Array.getElem?_eq_some_iff.1 hj).1
 have h1:=List.all_eq_true.1 h j (by simpa using hjs)
 rw[hl,hj]at h1
 have h2:=Array.all_eq_true'.1 (show (oj.after.all fun e=>!Region.binds md e||listed.getD e.on false)=true from h1) e he
 simpa[hb]using h2
theorem Closed.set{listed:Array Bool}(h:Closed md ops listed){j:Nat}(hj:j∈Region.ready md ops listed):Closed md ops (listed.setIfInBounds j true):=fun k ok hk hl e he hb=>by
 obtain⟨hjun,oj,hoj,hall⟩:=mem_ready.1 hj
 have up:∀m,listed.getD m false=true→(listed.setIfInBounds j true).getD m false=true:=fun m hm=>by
  by_cases q:j=m
  ·subst q
   rcases Nat.lt_or_ge j listed.size with h'|h'
   ·simp[h']
   ·simp[Array.getElem?_eq_none h']at hm
  ·rw[getD_set_ne false q];exact hm
 by_cases q:j=k
 ·subst q
  rw[hoj]at hk
  injection hk with hk
  subst hk
  exact up _ (hall e he hb)
 ·rw[getD_set_ne false q]at hl
  exact up _ (h k ok hk hl e he hb)
def wpAnyG(P:Program)(md:Region.Mode)(ops:Array Oper)(Q:Exit→Act→World→Prop)(S:World→Prop)(f:Nat):Nat→Array Bool→Act→World→Prop
 |0,listed,a,w=>Region.ready md ops listed=[]∧Q .normal a w
 |fuel+1,listed,a,w=>
  (Region.ready md ops listed=[]→Q .normal a w)∧
  ∀i∈Region.ready md ops listed,wpOp P ops Q i (fun a' w'=>(i≠f→S w')∧wpAnyG P md ops Q S f fuel (listed.setIfInBounds i true) a' w') a w
theorem wpAny_of_G{f:Nat}:∀(fuel:Nat) (listed:Array Bool) (a:Act) (w:World),wpAnyG P md ops Q S f fuel listed a w→wpAny P md ops Q fuel listed a w
 |0,_,_,_,h=>h
 |fuel+1,_,_,_,h=>⟨h.1,fun i hi=>wpOp_mono (fun a' w' h'=>wpAny_of_G fuel _ a' w' h'.2) (h.2 i hi)⟩
theorem wpAnyG_one{f i:Nat}{o:Oper}{fuel:Nat}{listed:Array Bool}{a:Act}{w:World}(ho:ops[i]? = some o)(hr:Region.ready md ops listed=[i])
 (h:∀K':Act→World→Prop,(∀a w,(i≠f→S w)→wpAnyG P md ops Q S f fuel (listed.setIfInBounds i true) a w→K' a w)→if Region.wanted o (yielded ops a.tmps)=true then Oper.wp P o a w K' Q else K' (a.put o.dst undef) w) :
 wpAnyG P md ops Q S f (fuel+1) listed a w:=by
 refine⟨fun h0=>(by rw[hr]at h0;cases h0),fun j hj=>?_⟩
 rw[hr]at hj
 obtain rfl:=List.mem_singleton.1 hj
 exact wpOp_step ho (fun K' hK=>h K' (fun a w h1 h2=>hK a w ⟨h1,h2⟩))
theorem wpAnyG_done{f:Nat}{listed:Array Bool}{a:Act}{w:World}(hr:Region.ready md ops listed=[])(h:Q .normal a w):∀fuel,wpAnyG P md ops Q S f fuel listed a w
 |0=>⟨hr,h⟩
 |_+1=>⟨fun _=>h,by rw[hr];simp⟩
theorem wp_region_G{f:Nat}{id:Nat}{a:Act}{w:World}(hm:P.follows .mixedOrders=true)(h:wpAnyG P .any ops Q S f ops.size (Array.replicate ops.size false) a w.drew):(Code.region id ops true).wp P Q a w:=
 wp_region_any hm (wpAny_of_G _ _ _ _ h)
end
end Go.Proofs.Yteblcdnhnckkaaa
