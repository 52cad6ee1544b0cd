/- Texts joined: Sup, Dat, Sup2. -/
import Derived.WalkKit
import Derived.ProofKit
import Derived.WalkSpells
import Derived.Lib.Hide
import Derived.Carry
import Derived.Deep.LoopGhost
import Derived.Deep.QuietTactic
import Derived.BigQuiet
import Derived.StillTailTactics
namespace Go.Proofs.Yteblcdnhnckkaaa
open Go.RowKit
def i64(n:Int):Prop:=-9223372036854775808≤n∧n≤9223372036854775807
def Same(lo hi:Nat)(w w':World):Prop:=∀k,lo≤k→k<hi→w'.heap[k]? = w.heap[k]?
theorem Same.refl(lo hi:Nat)(w:World):Same lo hi w w:=fun _ _ _=>rfl
theorem Same.trans{lo hi:Nat}{a b c:World}(h:Same lo hi a b)(k:Same lo hi b c):Same lo hi a c:=fun i h1 h2=>(k i h1 h2).trans (h i h1 h2)
theorem Same.mono{lo hi lo' hi':Nat}{a b:World}(h:Same lo hi a b)(h1:lo≤lo')(h2:hi'≤hi):Same lo' hi' a b:=fun i k1 k2=>h i (Nat.le_trans h1 k1) (Nat.lt_of_lt_of_le k2 h2)
theorem Same.below{B lo hi:Nat}{w w':World}(h:Below B w w')(hB:hi≤B):Same lo hi w w':=fun k _ hk=>h.block k (Nat.lt_of_lt_of_le hk hB)
theorem Same.cell{lo hi:Nat}{w w':World}(h:Same lo hi w w'){b o:Nat}{v:Value}(h1:lo≤b)(h2:b<hi)(hc:w.cell? ⟨b,o,none⟩=some v):w'.cell? ⟨b,o,none⟩=some v:=by
 rw[World.cell?_of_block (w:=w) (h b h1 h2)];exact hc
theorem cell_new{w:World}{c:Array Value}{T:TypeId}(o:Nat){v:Value}(h:c[o]? = some v):(w.alloc (.cells c T)).cell? ⟨w.heap.size,o,none⟩=some v:=by
 have:(w.alloc (.cells c T)).heap[w.heap.size]? = some (.cells c T):=(MapKept.heap_alloc w _).1
 unfold World.cell?
 rw[this]
 simpa using h
theorem cellIn{B:Nat}{w w':World}(hb:Below B w w'){b o:Nat}{v:Value}(h:b<B)(hc:w.cell? ⟨b,o,none⟩=some v):w'.cell? ⟨b,o,none⟩=some v:=by
 rw[hb.cell (p:=⟨b,o,none⟩) h];exact hc
theorem lt_of_cell{w:World}{b o:Nat}{v:Value}(h:w.cell? ⟨b,o,none⟩=some v):b<w.heap.size:=World.block_lt_of_cell? w ⟨b,o,none⟩ h
def CellsAt(w:World)(b off:Nat)(cs:List Value):Prop:=∀j v,cs[j]? = some v→w.cell? ⟨b,off+j,none⟩=some v
theorem CellsAt.same{lo hi:Nat}{w w':World}(h:Same lo hi w w'){b off:Nat}{cs:List Value}(h1:lo≤b)(h2:b<hi)(hc:CellsAt w b off cs):CellsAt w' b off cs:=
 fun j v hj=>h.cell h1 h2 (hc j v hj)
section
variable {α:Type}
def Elems(sz:Nat)(rep:World→Nat→Nat→List Value→α→Prop)(w:World)(lo hi b off:Nat)(xs:List α):Prop:=
 ∀i (h:i<xs.length),∃cs,rep w lo hi cs xs[i]∧CellsAt w b (off+i*sz) cs
def SlR(sz:Nat)(rep:World→Nat→Nat→List Value→α→Prop)(w:World)(lo hi:Nat)(v:Value)(xs:List α):Prop:=
 ∃a cap,v=.slice a xs.length cap∧xs.length≤cap∧cap≤maxLen∧(xs=[]∨∃b off,a=some ⟨b,off,none⟩∧lo≤b∧b<hi∧Elems sz rep w lo hi b off xs)
def Stable(rep:World→Nat→Nat→List Value→α→Prop):Prop:=
 ∀w w' lo hi lo' hi' cs x,Same lo hi w w'→lo'≤lo→hi≤hi'→rep w lo hi cs x→rep w' lo' hi' cs x
theorem Elems.stable{sz:Nat}{rep:World→Nat→Nat→List Value→α→Prop}(hst:Stable rep){w w':World}{lo hi lo' hi' b off:Nat}{xs:List α}
 (hs:Same lo hi w w') (hl:lo'≤lo) (hh:hi≤hi') (hb1:lo≤b) (hb2:b<hi) (h:Elems sz rep w lo hi b off xs):Elems sz rep w' lo' hi' b off xs:=
 fun i hi=>let ⟨cs,hr,hc⟩:=h i hi;⟨cs,hst _ _ _ _ _ _ _ _ hs hl hh hr,hc.same hs hb1 hb2⟩
theorem Elems.same{sz:Nat}{rep:World→Nat→Nat→List Value→α→Prop}(hst:Stable rep){w w':World}{lo hi b off:Nat}{xs:List α}
 (h:Elems sz rep w lo hi b off xs) (hs:Same lo hi w w') (hb1:lo≤b) (hb2:b<hi):Elems sz rep w' lo hi b off xs:=h.stable hst hs (Nat.le_refl _) (Nat.le_refl _) hb1 hb2
theorem SlR.stable{sz:Nat}{rep:World→Nat→Nat→List Value→α→Prop}(hst:Stable rep){w w':World}{lo hi lo' hi':Nat}{v:Value}{xs:List α}
 (hs:Same lo hi w w') (hl:lo'≤lo) (hh:hi≤hi') (h:SlR sz rep w lo hi v xs):SlR sz rep w' lo' hi' v xs:=by
 obtain⟨a,cap,rfl,h1,h2,h3⟩:=h
 refine⟨a,cap,rfl,h1,h2,?_⟩
 rcases h3 with h3|⟨b,off,rfl,hb1,hb2,h3⟩
 ·exact .inl h3
 ·exact .inr ⟨b,off,rfl,Nat.le_trans hl hb1,Nat.lt_of_lt_of_le hb2 hh,h3.stable hst hs hl hh hb1 hb2⟩
theorem SlR.same{sz:Nat}{rep:World→Nat→Nat→List Value→α→Prop}(hst:Stable rep){w w':World}{lo hi:Nat}{v:Value}{xs:List α}
 (h:SlR sz rep w lo hi v xs) (hs:Same lo hi w w'):SlR sz rep w' lo hi v xs:=h.stable hst hs (Nat.le_refl _) (Nat.le_refl _)
theorem SlR.below{sz:Nat}{rep:World→Nat→Nat→List Value→α→Prop}(hst:Stable rep){w w':World}{lo hi B:Nat}{v:Value}{xs:List α}
 (h:SlR sz rep w lo hi v xs) (hs:Below B w w') (hB:hi≤B):SlR sz rep w' lo hi v xs:=h.same hst (Same.below hs hB)
theorem SlR.nil{sz:Nat}{rep:World→Nat→Nat→List Value→α→Prop}{w:World}{lo hi:Nat}:SlR sz rep w lo hi (.slice none 0 0) ([]:List α):=
 ⟨none,0,rfl,Nat.le_refl _,by simp[maxLen],.inl rfl⟩
theorem SlR.of_trod{H:Type}{enc:TypeId×Value→H}{P:Program}{w:World}{sp:Nat→Bool}{held:Bool}{t e:TypeId}{sz:Nat}{rep:World→Nat→Nat→List Value→α→Prop}
 (ht:P.underlying t=some (.slice e)) (hsz:P.cellsOf e=sz) (hpos:0<sz)
 (helem:∀fuel cs x,DataW.trod enc P w 0 sp held fuel e cs=some x→∃y:α,rep w 0 w.heap.size cs y)
 {fuel:Nat} {v:Value} {x:DataW H×List MemPlace} (h:DataW.trod enc P w 0 sp held fuel t [v]=some x):∃xs:List α,SlR sz rep w 0 w.heap.size v xs:=by
 rcases DataW.trod_slice ht h with⟨hv,_⟩|⟨a,len,cap,elems,rest,n,_,hv,_,_,hlc,hcap,hel,he,_⟩
 ·obtain rfl:v=.slice none 0 0:=by simpa using hv
  exact⟨[],SlR.nil⟩
 ·obtain rfl:v=.slice (some a) len cap:=by simpa using hv
  rw[hsz]at he
  have key:∀i,i<len→∃(y:α) (cs:List Value),rep w 0 w.heap.size cs y∧(∀j u,cs[j]? = some u→w.cell? ((a.add (i*sz)).add j)=some u)∧cs.length=sz:=by
   intro i hi
   have h1:=he i hi
   have h2:elems[i]? = some elems[i]:=List.getElem?_eq_getElem (by omega)
   rw[h2]at h1
   cases hc:w.cells? 0 (a.add (i*sz)) sz with
   |none=>rw[hc]at h1;simp at h1
   |some cs=>
    rw[hc]at h1
    obtain⟨y,hy⟩:=helem _ _ _ h1
    unfold World.cells? at hc
    rw[if_pos (Nat.zero_le _)]at hc
    have hlen:=mapM_some_length hc
    refine⟨y,cs,hy,fun j u hj=>?_,by simpa using hlen⟩
    have hj':j<sz:=by
     have:=(List.getElem?_eq_some_iff.1 hj).1
     simp at hlen;omega
    have:=mapM_some_get hc j j (by simp[hj'])
    rw[this,hj]
  by_cases hl:len=0
  ·subst hl
   exact⟨[],some a,cap,rfl,Nat.zero_le _,hcap,.inl rfl⟩
  ·obtain⟨y0,cs0,_,hc0,hl0⟩:=key 0 (by omega)
   have hsp:a.spot=none∧a.block<w.heap.size:=by
    have h0:cs0[0]? = some cs0[0]:=List.getElem?_eq_getElem (by omega)
    have:=hc0 0 _ h0
    simp[Addr.add]at this
    refine⟨?_,World.block_lt_of_cell? w a this⟩
    unfold World.cell? at this
    cases hsp:a.spot with
    |none=>rfl
    |some k=>simp[hsp]at this;split at this<;>simp at this
   obtain⟨b,off,sp'⟩:=a
   obtain⟨rfl,hb⟩:=hsp
   have hex:∀i:Fin len,∃y:α,∃(cs:List Value),rep w 0 w.heap.size cs y∧(∀j u,cs[j]? = some u→w.cell? (((⟨b,off,none⟩:Addr).add (i.1*sz)).add j)=some u)∧cs.length=sz:=
    fun i=>key i.1 i.2
   let f:Fin len→α:=fun i=>Classical.choose (hex i)
   have hf:∀i,_:=fun i=>Classical.choose_spec (hex i)
   refine⟨List.ofFn f,some ⟨b,off,none⟩,cap,by simp,by simpa using hlc,hcap,.inr ⟨b,off,rfl,Nat.zero_le _,hb,?_⟩⟩
   intro i hi
   have hi':i<len:=by simpa using hi
   obtain⟨cs,hr,hc,_⟩:=hf ⟨i,hi'⟩
   refine⟨cs,by simpa[f]using hr,fun j u hj=>?_⟩
   have:=hc j u hj
   have e:((⟨b,off,none⟩:Addr).add (i*sz)).add j=⟨b,off+i*sz+j,none⟩:=by
    unfold Addr.add
    by_cases h1:i*sz=0<;>by_cases h2:j=0<;>simp[h1,h2]
   rw[e]at this
   exact this
end
def NF(lo hi:Nat)(w:World):Prop:=∀b o,lo≤b→b<hi→w.frozen? ⟨b,o,none⟩=false
theorem NF.same{lo hi:Nat}{w w':World}(h:NF lo hi w)(hs:Same lo hi w w'):NF lo hi w':=fun b o h1 h2=>by
 rw[World.frozen?_of_block (w:=w) (hs b h1 h2)];exact h b o h1 h2
theorem NF.mono{lo hi lo' hi':Nat}{w:World}(h:NF lo hi w)(h1:lo≤lo')(h2:hi'≤hi):NF lo' hi' w:=fun b o k1 k2=>h b o (Nat.le_trans h1 k1) (Nat.lt_of_lt_of_le k2 h2)
structure Grow(w w':World):Prop where
 below:Below w.heap.size w w'
 nf:NF w.heap.size w'.heap.size w'
theorem Grow.refl(w:World):Grow w w:=⟨Below.refl _ _,fun _ _ h1 h2=>absurd h2 (by omega)⟩
theorem Grow.size{w w':World}(h:Grow w w'):w.heap.size≤w'.heap.size:=h.below.size
theorem Grow.trans{a b c:World}(h:Grow a b)(k:Grow b c):Grow a c:=
 ⟨h.below.trans (k.below.mono h.size),fun x o h1 h2=>by
   by_cases hx:x<b.heap.size
   ·rw[World.frozen?_of_block (w:=b) (k.below.block x hx)];exact h.nf x o h1 hx
   ·exact k.nf x o (by omega) h2⟩
theorem Grow.alloc{a w:World}(h:Grow a w)(c:Array Value)(T:TypeId):Grow a (w.alloc (.cells c T)):=
 ⟨h.below.alloc h.size _,fun x o h1 h2=>by
   rw[frozen?_alloc_cells]
   by_cases hx:x<w.heap.size
   ·exact h.nf x o h1 hx
   ·unfold World.frozen?;simp[Array.getElem?_eq_none (show w.heap.size≤x by omega)]⟩
theorem Grow.setCell{a w:World}(h:Grow a w){p:Addr}(hp:a.heap.size≤p.block)(u:Value):Grow a (w.setCell p u):=
 ⟨h.below.setCell hp u,fun x o h1 h2=>by
   rw[World.frozen?_setCell];exact h.nf x o h1 (by simpa[World.setCell]using h2)⟩
theorem Grow.drew{a w:World}(h:Grow a w):Grow a w.drew:=⟨h.below.drew,h.nf⟩
theorem Grow.setCells{a:World}{g:Nat}(hp:a.heap.size≤g):∀(vs:List Value) (o:Nat) {w:World},Grow a w→Grow a (w.setCells g o vs)
 |[],_,_,h=>h
 |_::r,o,_,h=>Grow.setCells hp r (o+1) (h.setCell hp _)
theorem bcell{W w1:World}(hb:Grow W w1):(∀b o,b<W.heap.size→w1.cell? ⟨b,o,none⟩=W.cell? ⟨b,o,none⟩)∧(∀b o,b<W.heap.size→w1.frozen? ⟨b,o,none⟩=W.frozen? ⟨b,o,none⟩):=
 ⟨fun b o h=>hb.below.cell (p:=⟨b,o,none⟩) h,fun b o h=>hb.below.frozen (p:=⟨b,o,none⟩) h⟩
theorem Grow.same{w w':World}(h:Grow w w'){lo hi:Nat}(hh:hi≤w.heap.size):Same lo hi w w':=Same.below h.below hh
structure Filled(w:World)(g sz n k:Nat)(f:Nat→List Value):Prop where
 room:∀o,o<n*sz→(w.cell? ⟨g,o,none⟩).isSome=true
 held:∀i,i<k→CellsAt w g (i*sz) (f i)
theorem Filled.some{w:World}{g sz n k:Nat}{f:Nat→List Value}(h:Filled w g sz n k f){i:Nat}(hi:i<n)(j:Nat)(hj:j<sz):∃u,w.cell? ⟨g,i*sz+j,none⟩=Option.some u:=by
 have h2:(i+1)*sz≤n*sz:=Nat.mul_le_mul_right _ (by omega)
 rw[Nat.add_mul]at h2
 exact Option.isSome_iff_exists.1 (h.room _ (by omega))
theorem Filled.same{lo hi:Nat}{w w':World}{g sz n k:Nat}{f:Nat→List Value}(h:Filled w g sz n k f)(hs:Same lo hi w w')(h1:lo≤g)(h2:g<hi):Filled w' g sz n k f:=
 ⟨fun o ho=>by rw[World.cell?_of_block (w:=w) (hs g h1 h2)];exact h.room o ho,fun i hi=>(h.held i hi).same hs h1 h2⟩
theorem cell_setCells{g:Nat}:∀(vs:List Value) (o:Nat) (w:World) (x:Nat),(∀j,j<vs.length→(w.cell? ⟨g,o+j,none⟩).isSome=true)→
 (w.setCells g o vs).cell? ⟨g,x,none⟩=if o≤x∧x<o+vs.length then vs[x-o]? else w.cell? ⟨g,x,none⟩
 |[],o,w,x,_=>by rw[if_neg (by simp)];rfl
 |v::r,o,w,x,h=>by
  have h0:(w.cell? ⟨g,o,none⟩).isSome=true:=h 0 (by simp)
  obtain⟨u,hu⟩:=Option.isSome_iff_exists.1 h0
  have hsame:(w.setCell ⟨g,o,none⟩ v).cell? ⟨g,o,none⟩=some v:=World.cell?_setCell_same w ⟨g,o,none⟩ v hu
  have hother:∀y,y≠o→(w.setCell ⟨g,o,none⟩ v).cell? ⟨g,y,none⟩=w.cell? ⟨g,y,none⟩:=fun y hy=>
   World.cell?_setCell_other w ⟨g,o,none⟩ ⟨g,y,none⟩ v (by intro e;injection e with _ e2;omega)
  have ih:=cell_setCells r (o+1) (w.setCell ⟨g,o,none⟩ v) x (fun j hj=>by
   rw[hother _ (by omega)]
   have:=h (j+1) (by simpa using hj)
   rw[show o+1+j=o+(j+1)from by omega];exact this)
  show ((w.setCell ⟨g,o,none⟩ v).setCells g (o+1) r).cell? ⟨g,x,none⟩=_
  rw[ih]
  by_cases hx:x=o
  ·subst hx
   rw[if_neg (by omega),if_pos (by simp),hsame];simp
  ·by_cases hx2:o+1≤x∧x<o+1+r.length
   ·rw[if_pos hx2,if_pos (by simp only[List.length_cons];omega)]
    rw[show x-o=(x-(o+1))+1 from by omega];simp
   ·rw[if_neg hx2,if_neg (by simp only[List.length_cons];omega),hother _ hx]
theorem Filled.store{w:World}{g sz n k:Nat}{f:Nat→List Value}(h:Filled w g sz n k f)(hk:k<n)(hl:∀i,i≤k→(f i).length=sz):Filled (w.setCells g (k*sz) (f k)) g sz n (k+1) f:=by
 have hlk:=hl k (Nat.le_refl _)
 have hroom:∀j,j<(f k).length→(w.cell? ⟨g,k*sz+j,none⟩).isSome=true:=fun j hj=>h.room _ (by
  have:(k+1)*sz≤n*sz:=Nat.mul_le_mul_right _ (by omega)
  rw[Nat.add_mul]at this;omega)
 refine⟨fun o ho=>?_,fun i hi j v hj=>?_⟩
 ·rw[cell_setCells _ _ _ _ hroom]
  split
  ·rw[List.getElem?_eq_getElem (by omega)];rfl
  ·exact h.room o ho
 ·rw[cell_setCells _ _ _ _ hroom]
  by_cases hik:i=k
  ·subst hik
   have:=(List.getElem?_eq_some_iff.1 hj).1
   rw[if_pos (by omega),show i*sz+j-i*sz=j from by omega];exact hj
  ·have hik':i<k:=by omega
   have h2:(i+1)*sz≤k*sz:=Nat.mul_le_mul_right _ (by omega)
   rw[Nat.add_mul]at h2
   have hjl:=(List.getElem?_eq_some_iff.1 hj).1
   rw[hl i (by omega)]at hjl
   rw[if_neg (by omega)];exact h.held i hik' j v hj
theorem Same.setCell{lo hi:Nat}{a w:World}(h:Same lo hi a w){p:Addr}(hp:p.block<lo∨hi≤p.block)(u:Value):Same lo hi a (w.setCell p u):=fun k h1 h2=>by
 rw[Below.heap_setCell _ _ _ _ (by omega)];exact h k h1 h2
theorem Same.alloc{lo hi:Nat}{a w:World}(h:Same lo hi a w)(hh:hi≤w.heap.size)(o:Obj):Same lo hi a (w.alloc o):=fun k h1 h2=>by
 rw[Below.heap_alloc _ _ _ (by omega)];exact h k h1 h2
theorem Same.drew{lo hi:Nat}{a w:World}(h:Same lo hi a w):Same lo hi a w.drew:=h
theorem trodAll_below{H:Type}{enc:TypeId×Value→H}{P:Program}(hl:laidOutB P=true){W W':World}(hb:Below W.heap.size W W'):∀ {ts:List TypeId} {vs:List Value} {ds:List (DataW H)} {ps:List MemPlace},
 (∀t∈ts,P.readableRec t=true∧t<P.types.size)→DataW.TrodAll enc P W 0 (fun _=>true) true ts vs ds ps→
 DataW.TrodAll enc P W' 0 (fun b=>decide (b<W.heap.size)) true ts vs ds ps
 |[],[],[],_,_,h=>h
 |t::ts,v::vs,d::ds,ps,ht,h=>by
  have hlt:=DataW.TrodAll.lt h
  obtain⟨p,q,h1,h2,rfl⟩:=h
  exact⟨p,q,Below.trod hl (ht t (by simp)).1 (ht t (by simp)).2 h1 hb (fun x hx=>hlt x (by simp[hx])),trodAll_below hl hb (fun t' h'=>ht t' (by simp[h'])) h2,rfl⟩
 |[],_::_,_,_,_,h=>h.elim
 |[],[],_::_,_,_,h=>h.elim
 |_::_,[],_,_,_,h=>h.elim
 |_::_,_::_,[],_,_,h=>h.elim
theorem cellGrow{w w':World}(hg:Grow w w'){b o:Nat}{v:Value}(h:w.cell? ⟨b,o,none⟩=some v):w'.cell? ⟨b,o,none⟩=some v:=cellIn hg.below (lt_of_cell h) h
def IntsAt(w:World)(g:Nat)(s:List Int):Prop:=∀j (h:j<s.length),w.cell? ⟨g,j,none⟩=some (.int .i64 s[j])
theorem IntsAt.set{w:World}{g:Nat}{s:List Int}(h:IntsAt w g s){i:Nat}(hi:i<s.length)(v:Int):IntsAt (w.setCell ⟨g,i,none⟩ (.int .i64 v)) g (s.set i v):=fun j hj=>by
 have hj':j<s.length:=by simpa using hj
 by_cases e:i=j
 ·subst e
  rw[World.cell?_setCell_same w ⟨g,i,none⟩ _ (h i hi)];simp
 ·rw[World.cell?_setCell_other w ⟨g,i,none⟩ ⟨g,j,none⟩ _ (by intro e2;injection e2 with _ e3;exact e e3),h j hj']
  rw[List.getElem_set_ne e]
theorem IntsAt.same{lo hi:Nat}{w w':World}{g:Nat}{s:List Int}(h:IntsAt w g s)(hs:Same lo hi w w')(h1:lo≤g)(h2:g<hi):IntsAt w' g s:=fun j hj=>hs.cell h1 h2 (h j hj)
end Go.Proofs.Yteblcdnhnckkaaa
namespace Go.Proofs.Yteblcdnhnckkaaa
open Go.RowKit
structure Acc where
 kind:Int
 ch:Int
structure Line where
 acc:Acc
 amt:Int
structure Posting where
 id:Int
 lines:List Line
def encByte(x:Int):List Value:=[.int .u8 x]
def repByte(_:World)(_ _:Nat)(cs:List Value)(x:Int):Prop:=cs=encByte x∧(0≤x∧x≤255)
structure Sector where
 seq:Int
 epoch:Int
 body:List Int
structure Cell where
 bytes:List Int
structure Write where
 at_:Int
 bytes:List Int
structure Disk where
 cells:List Cell
 dirty:List Write
structure Event where
 kind:Int
 key:Int
 ch:Int
 to:Int
 amt:Int
 fee:Int
 yes:Bool
def wfEvent(x:Event):Prop:=i64 (x.kind)∧i64 (x.key)∧i64 (x.ch)∧i64 (x.to)∧i64 (x.amt)∧i64 (x.fee)
def encEvent(x:Event):List Value:=[.int .i64 x.kind,.int .i64 x.key,.int .i64 x.ch,.int .i64 x.to,.int .i64 x.amt,.int .i64 x.fee,.bool x.yes]
structure Log where
 disk:Disk
 next:Int
 epoch:Int
structure Chan where
 id:Int
 size:Int
 loc:Int
 remote:Int
 base:Int
 ppm:Int
 score:Int
def wfChan(x:Chan):Prop:=i64 (x.id)∧i64 (x.size)∧i64 (x.loc)∧i64 (x.remote)∧i64 (x.base)∧i64 (x.ppm)∧i64 (x.score)
structure Htlc where
 key:Int
 inn:Int
 out:Int
 amtIn:Int
 amtOut:Int
 kept:Bool
 age:Int
def wfHtlc(x:Htlc):Prop:=i64 (x.key)∧i64 (x.inn)∧i64 (x.out)∧i64 (x.amtIn)∧i64 (x.amtOut)∧i64 (x.age)
structure Circle where
 key:Int
 frm:Int
 to:Int
 amt:Int
 fee:Int
def wfCircle(x:Circle):Prop:=i64 (x.key)∧i64 (x.frm)∧i64 (x.to)∧i64 (x.amt)∧i64 (x.fee)
structure Book where
 tick:Int
 next:Int
 wallet:Int
 chans:List Chan
 htlcs:List Htlc
 circles:List Circle
structure Edge where
 frm:Int
 to:Int
 cap:Int
 cost:Int
structure Graph where
 n:Int
 edges:List Edge
structure Price where
 frm:Int
 to:Int
 ppm:Int
structure Move where
 frm:Int
 to:Int
 amt:Int
 ppm:Int
end Go.Proofs.Yteblcdnhnckkaaa
namespace Go.Proofs.Yteblcdnhnckkaaa
open Go.RowKit
theorem SlR.elems{α:Type}{sz:Nat}{rep:World→Nat→Nat→List Value→α→Prop}{w:World}{lo hi n c:Nat}{a:Option Addr}{xs:List α}(h:SlR sz rep w lo hi (.slice a n c) xs)(k:Nat)(hk:k<xs.length) :
 ∃b off,a=some ⟨b,off,none⟩∧lo≤b∧b<hi∧Elems sz rep w lo hi b off xs:=by
 obtain⟨a_,c_,heq,_,_,h⟩:=h
 injection heq with q1 q2 q3
 subst q1
 rcases h with h0|h
 ·rw[h0]at hk;exact absurd hk (by simp)
 ·exact h
end Go.Proofs.Yteblcdnhnckkaaa
