/- Texts of the proof of FnFnAgain, joined: E1, E2, E3, E4. -/
import Derived.Maps.AppendAt
import Derived.Deep.AppendLies
import Derived.Test.YtflhgkmhmcfimaaGreatQAnyG
import Derived.Scope
import Derived.Laws.MakeOwn
import Derived.Great.BuildSlice
namespace Go.Proofs.YtflhgkmhmcfimaaGreat
set_option maxRecDepth 100000
open Go.RowKit
set_option linter.unusedSimpArgs false
set_option linter.unusedVariables false
inductive PV where
 |v (x:Value)
 |ab (e:TypeId) (sz:Nat) (rows:List (List PV))
 deriving Inhabited
def iF(w:World)(st:Bool)(e:TypeId)(sz:Nat)(c:Value)(n:Nat)(xs:List Value)(fp:List Nat):Prop:=
 if st then w.ownsRow 0 e sz c n xs/\fp=c.ownBlock.toList
 else ∃a cap,c=.slice a n cap/\n<=cap/\cap<=maxLen/\((n=0/\fp=[])\/∃b off,a=some ⟨b,off,none⟩/\jo w b off xs/\b<w.heap.size/\fp=[b])
mutual
def RW(w:World)(st:Bool):PV->Value->List Nat->Prop
 |.v x,c,fp=>c=x/\fp=[]/\c.oneCell'=true
 |.ab e sz rows,c,fp=>∃xs f1 f2,bI w st sz rows xs f2/\iF w st e sz c rows.length xs f1/\fp=f1++f2
def bP(w:World)(st:Bool):List PV->List Value->List Nat->Prop
 |[],cs,fp=>cs=[]/\fp=[]
 |x::xs,cs,fp=>∃c r f1 f2,cs=c::r/\fp=f1++f2/\RW w st x c f1/\bP w st xs r f2
def bI(w:World)(st:Bool)(sz:Nat):List (List PV)->List Value->List Nat->Prop
 |[],cs,fp=>cs=[]/\fp=[]
 |row::rows,cs,fp=>row.length=sz/\∃c r f1 f2,cs=c++r/\fp=f1++f2/\bP w st row c f1/\bI w st sz rows r f2
end
theorem x_19{p:Prop}(c:p:=by simp):p:=c
theorem iF.same{w w':World}{st:Bool}{e:TypeId}{sz n:Nat}{c:Value}{xs:List Value}{fp:List Nat}(h:iF w st e sz c n xs fp)(hs:∀b∈fp,b<w.heap.size->w'.heap[b]? = w.heap[b]?):iF w' st e sz c n xs fp:=by
 unfold iF at *;cases st with
 |true=>
  simp only[if_true]at *;obtain⟨h,rfl⟩:=h;refine⟨⟨h.1,?_⟩,rfl⟩;rcases h.2 with hn|⟨g,cap,cur,rfl,hb,hg,rest⟩
  ·grind
  refine .inr ⟨g,cap,cur,rfl,hb,?_,rest⟩;grind[Value.ownBlock]
 |false=>
  simp only[Bool.false_eq_true,if_false]at *;obtain⟨a,cap,rfl,V,h2,h3⟩:=h;refine⟨a,cap,rfl,V,h2,?_⟩;rcases h3 with h3|⟨b,off,rfl,hc,hb,rfl⟩
  ·grind
  have JD:=hs b x_19 hb;have ec:b<w'.heap.size:=by
   rw[Array.getElem?_eq_getElem hb]at JD;exact(Array.getElem?_eq_some_iff.1 JD).1
  exact .inr ⟨b,off,rfl,fun j v hj=>by rw[World.cell?_of_block (w:=w) (a:=⟨b,off+j,none⟩) JD];exact hc j v hj,ec,rfl⟩
mutual
theorem RW.same{w w':World}{st:Bool}:∀(x:PV) {c:Value} {fp:List Nat},RW w st x c fp->(∀b∈fp,b<w.heap.size->w'.heap[b]? = w.heap[b]?)->RW w' st x c fp
 |.v x,c,fp,h,_=>by trivial
 |.ab e sz rows,c,fp,h,hs=>by
  rw[RW]at *;obtain⟨xs,f1,f2,V,h2,rfl⟩:=h;exact⟨xs,f1,f2,bI.same rows V (fun b hb=>hs b (by simp[hb])),h2.same (fun b hb=>hs b (by simp[hb])),rfl⟩
theorem bP.same{w w':World}{st:Bool}:∀(x:List PV) {c:List Value} {fp:List Nat},bP w st x c fp->(∀b∈fp,b<w.heap.size->w'.heap[b]? = w.heap[b]?)->bP w' st x c fp
 |[],c,fp,h,_=>by trivial
 |x::xs,c,fp,h,hs=>by
  rw[bP]at *;obtain⟨c,r,f1,f2,rfl,rfl,V,h2⟩:=h;exact⟨c,r,f1,f2,rfl,rfl,RW.same x V (fun b hb=>hs b (by simp[hb])),bP.same xs h2 (fun b hb=>hs b (by simp[hb]))⟩
theorem bI.same{w w':World}{st:Bool}{sz:Nat}:∀(x:List (List PV)) {c:List Value} {fp:List Nat},bI w st sz x c fp->(∀b∈fp,b<w.heap.size->w'.heap[b]? = w.heap[b]?)->bI w' st sz x c fp
 |[],c,fp,h,_=>by trivial
 |x::xs,c,fp,h,hs=>by
  rw[bI]at *;obtain⟨hl,c,r,f1,f2,rfl,rfl,V,h2⟩:=h;exact⟨hl,c,r,f1,f2,rfl,rfl,bP.same x V (fun b hb=>hs b (by simp[hb])),bI.same xs h2 (fun b hb=>hs b (by simp[hb]))⟩
end
theorem x_14{p:Prop}(c:p:=by grind):p:=c
theorem iF.lt{w:World}{st:Bool}{e:TypeId}{sz n:Nat}{c:Value}{xs:List Value}{fp:List Nat}(h:iF w st e sz c n xs fp):∀b∈fp,b<w.heap.size:=by
 unfold iF at h;cases st with
 |true=>
  simp only[if_true]at h;obtain⟨h,rfl⟩:=h;intro b hb;exact(h.lt b x_14).2
 |false=>
  grind
mutual
theorem RW.lt{w:World}{st:Bool}:∀(x:PV) {c:Value} {fp:List Nat},RW w st x c fp->∀b∈fp,b<w.heap.size
 |.v x,c,fp,h=>by simp_all[RW]
 |.ab e sz rows,c,fp,h=>by
  rw[RW]at h;obtain⟨xs,f1,f2,V,h2,rfl⟩:=h;intro b hb;rcases List.mem_append.1 hb with hb|hb
  ·exact h2.lt b hb
  exact bI.lt rows V b hb
theorem bP.lt{w:World}{st:Bool}:∀(x:List PV) {c:List Value} {fp:List Nat},bP w st x c fp->∀b∈fp,b<w.heap.size
 |[],c,fp,h=>by simp_all[bP]
 |x::xs,c,fp,h=>by
  rw[bP]at h;obtain⟨c,r,f1,f2,rfl,rfl,V,h2⟩:=h;intro b hb;rcases List.mem_append.1 hb with hb|hb
  ·exact RW.lt x V b hb
  exact bP.lt xs h2 b hb
theorem bI.lt{w:World}{st:Bool}{sz:Nat}:∀(x:List (List PV)) {c:List Value} {fp:List Nat},bI w st sz x c fp->∀b∈fp,b<w.heap.size
 |[],c,fp,h=>by simp_all[bI]
 |x::xs,c,fp,h=>by
  rw[bI]at h;obtain⟨hl,c,r,f1,f2,rfl,rfl,V,h2⟩:=h;intro b hb;rcases List.mem_append.1 hb with hb|hb
  ·exact bP.lt x V b hb
  exact bI.lt xs h2 b hb
end
theorem vl{w:World}{base:Nat}{e:TypeId}{sz n:Nat}{g:Nat}{cap:Nat}{xs:List Value}(h:w.ownsRow base e sz (.slice (some ⟨g,0,none⟩) n cap) n xs):jo w g 0 xs:=fun j v hj=>by
 have:=h.cells (g:=g) rfl j v hj;grind[Addr.add]
theorem iF.eJ{w:World}{e:TypeId}{sz n:Nat}{c:Value}{xs:List Value}{fp:List Nat}(h:iF w true e sz c n xs fp):∃bH,iF w false e sz c n xs bH/\bH ⊆ fp:=by
 unfold iF at *;simp only[if_true,Bool.false_eq_true,if_false]at *;obtain⟨h,rfl⟩:=h;have h0:=h;rcases h.2 with⟨rfl,rfl⟩|⟨g,cap,cur,rfl,hb,hg,hnc,bC,rest⟩
 ·grind
 exact⟨[g],⟨some ⟨g,0,none⟩,cap,rfl,hnc,bC,.inr ⟨g,0,rfl,vl h0,(Array.getElem?_eq_some_iff.1 hg).1,rfl⟩⟩,by simp[Value.ownBlock]⟩
mutual
theorem RW.eJ{w:World}:∀(x:PV) {c:Value} {fp:List Nat},RW w true x c fp->∃bH,RW w false x c bH/\bH ⊆ fp
 |.v x,c,fp,h=>by rw[RW]at h;exact⟨fp,by trivial,fun _ h=>h⟩
 |.ab e sz rows,c,fp,h=>by
  rw[RW]at h;obtain⟨xs,f1,f2,V,h2,rfl⟩:=h;obtain⟨g2,k1,k2⟩:=bI.eJ rows V;obtain⟨g1,k3,k4⟩:=h2.eJ;exact⟨g1++g2,by rw[RW];grind,List.append_subset.2 ⟨fun b hb=>List.mem_append_left _ (k4 hb),fun b hb=>List.mem_append_right _ (k2 hb)⟩⟩
theorem bP.eJ{w:World}:∀(x:List PV) {c:List Value} {fp:List Nat},bP w true x c fp->∃bH,bP w false x c bH/\bH ⊆ fp
 |[],c,fp,h=>by simp_all[bP]
 |x::xs,c,fp,h=>by
  rw[bP]at h;obtain⟨c,r,f1,f2,rfl,rfl,V,h2⟩:=h;obtain⟨g1,k1,k2⟩:=RW.eJ x V;obtain⟨g2,k3,k4⟩:=bP.eJ xs h2;exact⟨g1++g2,by rw[bP];grind,List.append_subset.2 ⟨fun b hb=>List.mem_append_left _ (k2 hb),fun b hb=>List.mem_append_right _ (k4 hb)⟩⟩
theorem bI.eJ{w:World}{sz:Nat}:∀(x:List (List PV)) {c:List Value} {fp:List Nat},bI w true sz x c fp->∃bH,bI w false sz x c bH/\bH ⊆ fp
 |[],c,fp,h=>by simp_all[bI]
 |x::xs,c,fp,h=>by
  rw[bI]at h;obtain⟨hl,c,r,f1,f2,rfl,rfl,V,h2⟩:=h;obtain⟨g1,k1,k2⟩:=bP.eJ x V;obtain⟨g2,k3,k4⟩:=bI.eJ xs h2;exact⟨g1++g2,by rw[bI];grind,List.append_subset.2 ⟨fun b hb=>List.mem_append_left _ (k2 hb),fun b hb=>List.mem_append_right _ (k4 hb)⟩⟩
end
theorem RW.one{w:World}{st:Bool}{x:PV}{c:Value}{fp:List Nat}(h:RW w st x c fp):c.oneCell'=true:=by
 cases x with
 |v x=>grind[RW]
 |ab e sz rows=>
  rw[RW]at h;obtain⟨xs,f1,f2,V,h2,rfl⟩:=h;unfold iF at h2;cases st with
  |true=>
   simp only[if_true]at h2;rcases h2.1.2 with⟨rfl,_⟩|⟨g,cap,cur,rfl,_⟩<;>rfl
  |false=>
   simp only[Bool.false_eq_true,if_false]at h2;obtain⟨a,cap,rfl,_⟩:=h2;rfl
theorem bP.length{w:World}{st:Bool}:∀ {x:List PV} {c:List Value} {fp:List Nat},bP w st x c fp->c.length=x.length
 |[],c,fp,h=>by grind[bP]
 |x::xs,c,fp,h=>by
  rw[bP]at h;obtain⟨c,r,f1,f2,rfl,rfl,V,h2⟩:=h;simp[bP.length h2]
theorem bP.uo{w:World}{st:Bool}:∀ {x:List PV} {c:List Value} {fp:List Nat},bP w st x c fp->∀u∈c,u.oneCell'=true
 |[],c,fp,h=>by grind[bP]
 |x::xs,c,fp,h=>by
  rw[bP]at h;obtain⟨c,r,f1,f2,rfl,rfl,V,h2⟩:=h;intro u hu;rcases List.mem_cons.1 hu with rfl|hu
  ·exact V.one
  exact h2.uo u hu
theorem bI.length{w:World}{st:Bool}{sz:Nat}:∀ {x:List (List PV)} {c:List Value} {fp:List Nat},bI w st sz x c fp->c.length=x.length*sz
 |[],c,fp,h=>by grind[bI]
 |x::xs,c,fp,h=>by
  rw[bI]at h;obtain⟨hl,c,r,f1,f2,rfl,rfl,V,h2⟩:=h;rw[List.length_append,V.length,h2.length,hl,List.length_cons,Nat.add_mul];omega
theorem bI.uo{w:World}{st:Bool}{sz:Nat}:∀ {x:List (List PV)} {c:List Value} {fp:List Nat},bI w st sz x c fp->∀u∈c,u.oneCell'=true
 |[],c,fp,h=>by grind[bI]
 |x::xs,c,fp,h=>by
  rw[bI]at h;obtain⟨hl,c,r,f1,f2,rfl,rfl,V,h2⟩:=h;intro u hu;rcases List.mem_append.1 hu with hu|hu
  ·exact V.uo u hu
  exact h2.uo u hu
theorem bI.append{w:World}{st:Bool}{sz:Nat}:∀ {x y:List (List PV)} {c d:List Value} {fp fq:List Nat},bI w st sz x c fp->bI w st sz y d fq->bI w st sz (x++y) (c++d) (fp++fq)
 |[],y,c,d,fp,fq,h,k=>by
  simp_all[bI]
 |x::xs,y,c,d,fp,fq,h,k=>by
  rw[bI]at h;obtain⟨hl,c,r,f1,f2,rfl,rfl,V,h2⟩:=h;rw[List.cons_append,bI];exact⟨hl,c,r++d,f1,f2++fq,by simp,by simp,V,bI.append h2 k⟩
theorem bI.row{w:World}{st:Bool}{sz:Nat}:∀ {x:List (List PV)} {c:List Value} {fp:List Nat} {i:Nat} {row:List PV},bI w st sz x c fp->x[i]? = some row->
 ∃c1 cr c2 f1 fr f2,c=c1++cr++c2/\fp=f1++fr++f2/\c1.length=i*sz/\cr.length=sz/\bP w st row cr fr/\
  ∀Bi zI tp,Bi.length=sz->bP w st Bi zI tp->bI w st sz (x.set i Bi) (c1++zI++c2) (f1++tp++f2)
 |[],c,fp,i,row,h,hi=>by grind
 |x::xs,c,fp,0,row,h,hi=>by
  rw[bI]at h;obtain⟨hl,c,r,f1,f2,rfl,rfl,V,h2⟩:=h;simp at hi;subst hi;refine⟨[],c,r,[],f1,f2,by simp,by simp,by simp,by rw[V.length,hl],V,fun Bi zI tp Cd h'=>?_⟩;grind[bI]
 |x::xs,c,fp,i+1,row,h,hi=>by
  rw[bI]at h;obtain⟨hl,c,r,f1,f2,rfl,rfl,V,h2⟩:=h;obtain⟨c1,cr,c2,g1,gr,g2,rfl,rfl,k1,k2,k3,k4⟩:=bI.row h2 (by simpa using hi);refine⟨c++c1,cr,c2,f1++g1,gr,g2,by simp,by simp,by rw[List.length_append,V.length,hl,k1,Nat.add_mul];omega,k2,k3,fun Bi zI tp Cd h'=>?_⟩;grind[bI]
theorem bI.drop{w:World}{st:Bool}{sz:Nat}:∀ {x:List (List PV)} {c:List Value} {fp:List Nat} (i:Nat),bI w st sz x c fp->∃f,bI w st sz (x.drop i) (c.drop (i*sz)) f/\f ⊆ fp
 |x,c,fp,0,h=>⟨fp,by grind,fun _ h=>h⟩
 |[],c,fp,i+1,h=>by
  simp_all[bI]
 |x::xs,c,fp,i+1,h=>by
  rw[bI]at h;obtain⟨hl,c,r,f1,f2,rfl,rfl,V,h2⟩:=h;obtain⟨f,k1,k2⟩:=bI.drop i h2;refine⟨f,?_,fun b hb=>List.mem_append_right _ (k2 hb)⟩;rw[List.drop_succ_cons,Nat.add_mul,Nat.one_mul,Nat.add_comm,<-List.drop_drop];rw[List.drop_left' (by rw[V.length,hl])];exact k1
theorem bI.take{w:World}{st:Bool}{sz:Nat}:∀ {x:List (List PV)} {c:List Value} {fp:List Nat} (i:Nat),bI w st sz x c fp->∃f,bI w st sz (x.take i) (c.take (i*sz)) f/\f ⊆ fp
 |x,c,fp,0,h=>⟨[],by simp[bI],by simp⟩
 |[],c,fp,i+1,h=>by
  simp_all[bI]
 |x::xs,c,fp,i+1,h=>by
  rw[bI]at h;obtain⟨hl,c,r,f1,f2,rfl,rfl,V,h2⟩:=h;obtain⟨f,k1,k2⟩:=bI.take i h2;refine⟨f1++f,?_,List.append_subset.2 ⟨List.subset_append_left _ _,fun b hb=>List.mem_append_right _ (k2 hb)⟩⟩;rw[List.take_succ_cons,bI];refine⟨hl,c,r.take (i*sz),f1,f,?_,rfl,V,k1⟩;rw[List.take_append,V.length,hl,List.take_of_length_le (by rw[V.length,hl,Nat.add_mul];omega),Nat.add_mul];simp
theorem aaj{w:World}{st:Bool}:∀ {x:List PV} {c:List Value} {fp:List Nat} {j:Nat} {y:PV},bP w st x c fp->x[j]? = some y->
 ∃u f,c[j]? = some u/\RW w st y u f/\f ⊆ fp
 |[],c,fp,j,y,h,hj=>by grind
 |x::xs,c,fp,0,y,h,hj=>by
  rw[bP]at h;grind
 |x::xs,c,fp,j+1,y,h,hj=>by
  rw[bP]at h;obtain⟨c,r,f1,f2,rfl,rfl,V,h2⟩:=h;obtain⟨u,f,k1,k2,k3⟩:=aaj h2 (by simpa using hj);exact⟨u,f,by simpa using k1,k2,fun b hb=>List.mem_append_right _ (k3 hb)⟩
theorem bP.drop{w:World}{st:Bool}:∀ {x:List PV} {c:List Value} {fp:List Nat} (i:Nat),bP w st x c fp->∃f,bP w st (x.drop i) (c.drop i) f/\f ⊆ fp
 |x,c,fp,0,h=>⟨fp,by grind,fun _ h=>h⟩
 |[],c,fp,i+1,h=>by
  simp_all[bP]
 |x::xs,c,fp,i+1,h=>by
  rw[bP]at h;obtain⟨c,r,f1,f2,rfl,rfl,V,h2⟩:=h;obtain⟨f,k1,k2⟩:=bP.drop i h2;grind
theorem bP.take{w:World}{st:Bool}:∀ {x:List PV} {c:List Value} {fp:List Nat} (i:Nat),bP w st x c fp->∃f,bP w st (x.take i) (c.take i) f/\f ⊆ fp
 |x,c,fp,0,h=>⟨[],by simp[bP],by simp⟩
 |[],c,fp,i+1,h=>by
  simp_all[bP]
 |x::xs,c,fp,i+1,h=>by
  rw[bP]at h;obtain⟨c,r,f1,f2,rfl,rfl,V,h2⟩:=h;obtain⟨f,k1,k2⟩:=bP.take i h2;refine⟨f1++f,?_,List.append_subset.2 ⟨List.subset_append_left _ _,fun b hb=>List.mem_append_right _ (k2 hb)⟩⟩;rw[List.take_succ_cons,bP];grind

inductive AV where
 |p (x:PV)
 |own (id:Nat)
 |sub (id off len:Nat)
 |ptr (id r k:Nat)
 |rp (cells:List PV)
 |agg (cs:List AV)
 |au (vs:List AV)
 |fQ (fn:Fn) (first mv:List AV)
 |dead
 |bad
 deriving Inhabited
structure ga where
 ty:TypeId
 pt:Option Value
instance {n:Nat}:OfNat ga n:=⟨⟨n,none⟩⟩
instance:Coe TypeId ga:=⟨fun t=>⟨t,none⟩⟩
instance:Inhabited ga:=⟨⟨0,none⟩⟩
inductive AO where
 |box (T:TypeId) (pin:Option Value) (cells:List AV)
 |ai (e:ga) (sz:Nat) (rows:List (List PV))
 |gone
def AO.len:AO->Nat
 |.box _ _ _=>1
 |.ai _ _ rows=>rows.length
 |.gone=>0
def AO.sz:AO->Nat
 |.box _ _ cs=>cs.length
 |.ai _ sz _=>sz
 |.gone=>0
def AO.here:AO->Bool
 |.gone=>false
 |_=>true
def AV.cell:AV->Bool
 |.agg _|.au _|.bad=>false
 |_=>true
def aH{α:Type}(f:Nat->α)(i:Nat)(x:α):Nat->α:=fun j=>if j=i then x else f j
theorem dV{α:Type}(f:Nat->α)(i:Nat)(x:α):aH f i x i=x:=if_pos rfl
theorem eX{α:Type}(f:Nat->α){i j:Nat}(x:α)(h:j≠i):aH f i x j=f j:=if_neg h
mutual
def bq(k:Nat->Bool):AV->AV
 |.own id=>if k id=true then .dead else .own id
 |.sub id off len=>if k id=true then .dead else .sub id off len
 |.ptr id r c=>if k id=true then .dead else .ptr id r c
 |.agg cs=>.agg (iA k cs)
 |.au cs=>.au (iA k cs)
 |.fQ fn f cs=>.fQ fn (iA k f) (iA k cs)
 |x=>x
def iA(k:Nat->Bool):List AV->List AV
 |[]=>[]
 |x::xs=>bq k x::iA k xs
end
def AO.bq(k:Nat->Bool):AO->AO
 |.box T p cells=>.box T p (iA k cells)
 |o=>o
theorem Ew(k:Nat->Bool):∀l,(iA k l).length=l.length
 |[]=>rfl
 |x::xs=>by rw[iA,List.length_cons,Ew k xs,List.length_cons]
theorem sb(k:Nat->Bool)(o:AO):(o.bq k).here=o.here:=by cases o<;>rfl
theorem Es(k:Nat->Bool)(o:AO):(o.bq k).len=o.len:=by cases o<;>rfl
theorem Et(k:Nat->Bool)(o:AO):(o.bq k).sz=o.sz:=by
 cases o with
 |box T p cells=>exact Ew k cells
 |_=>rfl
theorem aak(k:Nat->Bool)(x:AV)(h:x.cell=true):(bq k x).cell=true:=by
 cases x<;>simp only[AV.cell,Bool.false_eq_true]at h<;>simp only[bq];all_goals first|rfl|(split<;>rfl)
theorem Hv(k:Nat->Bool):∀(l:List AV),(∀x∈l,x.cell=true)->∀x∈iA k l,x.cell=true
 |[],h=>h
 |y::l,h=>by
  rw[iA];intro x hx;rcases List.mem_cons.1 hx with rfl|hx
  ·exact aak k y (h y x_19)
  exact Hv k l (fun z hz=>h z (by simp[hz])) x hx
def kT:Nat->Bool:=fun _=>false
mutual
theorem mf:∀x,bq kT x=x
 |.own id=>by simp[bq,kT]
 |.sub id off len=>by simp[bq,kT]
 |.ptr id r c=>by simp[bq,kT]
 |.agg cs=>by rw[bq,yU cs]
 |.au cs=>by rw[bq,yU cs]
 |.fQ fn f cs=>by rw[bq,yU f,yU cs]
 |.p _=>by simp[bq]
 |.rp _=>by simp[bq]
 |.dead=>by simp[bq]
 |.bad=>by simp[bq]
theorem yU:∀l,iA kT l=l
 |[]=>rfl
 |x::xs=>by rw[iA,mf x,yU xs]
end
theorem AO.mf(o:AO):o.bq kT=o:=by
 cases o with
 |box T p cells=>grind[AO.bq,yU]
 |_=>rfl
def live(L:Nat->Prop)(ρ:Nat->Value)(H:Nat->AO)(b:Nat):Prop:=L b\/∃id,(H id).here=true/\(ρ id).ownBlock=some b
mutual
def RV(L:Nat->Prop)(ρ:Nat->Value)(H:Nat->AO)(w:World):AV->Value->Prop
 |.p x,c=>∃fp,RW w false x c fp/\∀b∈fp,¬live L ρ H b
 |.own id,c=>c.oneCell'=true/\((H id).here=true->c=ρ id)
 |.sub id off len,c=>c.oneCell'=true/\((H id).here=true->off+len<=(H id).len/\∃a cap,c=.slice a len cap/\len<=cap/\cap<=maxLen/\(0<len->∃g m uh,ρ id=.slice (some ⟨g,0,none⟩) m uh/\a=some ⟨g,off*(H id).sz,none⟩))
 |.ptr id r k,c=>c.oneCell'=true/\((H id).here=true->r<(H id).len/\∃g m cap,ρ id=.slice (some ⟨g,0,none⟩) m cap/\c=.pointer (some ⟨g,r*(H id).sz+k,none⟩))
 |.rp cells,c=>∃b off cs fp,c=.pointer (some ⟨b,off,none⟩)/\bP w false cells cs fp/\jo w b off cs/\b<w.heap.size/\¬live L ρ H b/\∀b∈fp,¬live L ρ H b
 |.agg l,c=>∃cs,c=.agg cs.toArray/\bf L ρ H w l cs
 |.au l,c=>∃cs,c=.tuple cs.toArray/\bf L ρ H w l cs
 |.fQ fn f l,c=>∃fs cs,c=.func fn fs.toArray cs.toArray/\bf L ρ H w f fs/\bf L ρ H w l cs
 |.dead,c=>c.oneCell'=true
 |.bad,_=>True
def bf(L:Nat->Prop)(ρ:Nat->Value)(H:Nat->AO)(w:World):List AV->List Value->Prop
 |[],cs=>cs=[]
 |x::xs,cs=>∃c r,cs=c::r/\RV L ρ H w x c/\bf L ρ H w xs r
end
section
variable {L:Nat->Prop}{ρ:Nat->Value}{H:Nat->AO}{w:World}
theorem RV.one{x:AV}{c:Value}(h:RV L ρ H w x c)(hc:x.cell=true):c.oneCell'=true:=by
 cases x<;>simp only[AV.cell,Bool.false_eq_true]at hc<;>rw[RV]at h;case p x=>obtain⟨fp,h,_⟩:=h;exact h.one
 case own=>exact h.1
 case sub=>exact h.1
 case ptr=>exact h.1
 case rp=>obtain⟨b,off,cs,fp,rfl,_⟩:=h;rfl
 case fQ=>obtain⟨fs,cs,rfl,_⟩:=h;rfl
 omega
theorem bf.length:∀ {x:List AV} {c:List Value},bf L ρ H w x c->c.length=x.length
 |[],c,h=>by grind[bf]
 |x::xs,c,h=>by
  rw[bf]at h;obtain⟨c,r,rfl,V,h2⟩:=h;simp[bf.length h2]
theorem bf.uo:∀ {x:List AV} {c:List Value},bf L ρ H w x c->(∀y∈x,y.cell=true)->∀u∈c,u.oneCell'=true
 |[],c,h,_=>by grind[bf]
 |x::xs,c,h,hc=>by
  rw[bf]at h;obtain⟨c,r,rfl,V,h2⟩:=h;intro u hu;rcases List.mem_cons.1 hu with rfl|hu
  ·exact V.one (hc _ x_19)
  exact bf.uo h2 (fun y hy=>hc y (by simp[hy])) u hu
theorem Co:∀ {x:List AV} {c:List Value} {j:Nat} {y:AV},bf L ρ H w x c->x[j]? = some y->∃u,c[j]? = some u/\RV L ρ H w y u
 |[],c,j,y,h,hj=>by grind
 |x::xs,c,0,y,h,hj=>by
  rw[bf]at h;grind
 |x::xs,c,j+1,y,h,hj=>by
  rw[bf]at h;obtain⟨c,r,rfl,V,h2⟩:=h;obtain⟨u,k1,k2⟩:=Co h2 (by simpa using hj);exact⟨u,by simpa using k1,k2⟩
theorem bf.append:∀ {x y:List AV} {c d:List Value},bf L ρ H w x c->bf L ρ H w y d->bf L ρ H w (x++y) (c++d)
 |[],y,c,d,h,k=>by grind[bf]
 |x::xs,y,c,d,h,k=>by
  rw[bf]at h;obtain⟨c,r,rfl,V,h2⟩:=h;rw[List.cons_append,bf];exact⟨c,r++d,rfl,V,bf.append h2 k⟩
theorem bf.drop:∀ {x:List AV} {c:List Value} (i:Nat),bf L ρ H w x c->bf L ρ H w (x.drop i) (c.drop i)
 |x,c,0,h=>by grind
 |[],c,i+1,h=>by grind[bf]
 |x::xs,c,i+1,h=>by
  rw[bf]at h;obtain⟨c,r,rfl,V,h2⟩:=h;simpa using bf.drop i h2
theorem bf.take:∀ {x:List AV} {c:List Value} (i:Nat),bf L ρ H w x c->bf L ρ H w (x.take i) (c.take i)
 |x,c,0,h=>by rfl
 |[],c,i+1,h=>by grind[bf]
 |x::xs,c,i+1,h=>by
  rw[bf]at h;obtain⟨c,r,rfl,V,h2⟩:=h;rw[List.take_succ_cons,List.take_succ_cons,bf];exact⟨c,_,rfl,V,bf.take i h2⟩
end
structure Env(L:Nat->Prop)(ρ ci:Nat->Value)(H H':Nat->AO)(w w':World)(k:Nat->Bool):Prop where
 size:w.heap.size<=w'.heap.size
 block:∀b,b<w.heap.size->¬live L ρ H b->w'.heap[b]? = w.heap[b]?/\¬live L ci H' b
 obj:∀id,k id=false->(H' id).here=true->(H id).here=true/\ci id=ρ id/\(H' id).len=(H id).len/\(H' id).sz=(H id).sz
section
variable {L:Nat->Prop}{ρ ci:Nat->Value}{H H':Nat->AO}{w w':World}{k:Nat->Bool}
theorem Env.cells(E:Env L ρ ci H H' w w' k){b off:Nat}{cs:List Value}(hb:b<w.heap.size)(hl:¬live L ρ H b)(h:jo w b off cs):jo w' b off cs:=fun j v hj=>by
 rw[World.cell?_of_block (w:=w) (a:=⟨b,off+j,none⟩) (E.block b hb hl).1];exact h j v hj
mutual
theorem RV.env(E:Env L ρ ci H H' w w' k):∀(x:AV) {c:Value},RV L ρ H w x c->RV L ci H' w' (bq k x) c
 |.p x,c,h=>by
  rw[bq]<;>try (intros;contradiction)
  rw[RV]at *;obtain⟨fp,V,h2⟩:=h;exact⟨fp,RW.same x V (fun b hb eI=>(E.block b eI (h2 b hb)).1),fun b hb=>(E.block b (RW.lt x V b hb) (h2 b hb)).2⟩
 |.own id,c,h=>by
  rw[bq];rw[RV]at h;split
  ·grind[RV]
  rename_i hk;rw[RV];exact⟨h.1,fun ho=>by
   obtain⟨V,h2,_⟩:=E.obj id (by simpa using hk) ho;grind⟩
 |.sub id off len,c,h=>by
  rw[bq];rw[RV]at h;split
  ·grind[RV]
  rename_i hk;rw[RV];exact⟨h.1,fun ho=>by
   obtain⟨V,h2,h3,h4⟩:=E.obj id (by simpa using hk) ho;grind⟩
 |.ptr id r kk,c,h=>by
  rw[bq];rw[RV]at h;split
  ·grind[RV]
  rename_i hk;rw[RV];exact⟨h.1,fun ho=>by
   obtain⟨V,h2,h3,h4⟩:=E.obj id (by simpa using hk) ho;grind⟩
 |.rp cells,c,h=>by
  rw[bq]<;>try (intros;contradiction)
  rw[RV]at *;obtain⟨b,off,cs,fp,rfl,V,h2,h3,h4,h5⟩:=h;exact⟨b,off,cs,fp,rfl,bP.same cells V (fun b hb eI=>(E.block b eI (h5 b hb)).1),E.cells h3 h4 h2,Nat.lt_of_lt_of_le h3 E.size,(E.block b h3 h4).2,fun b hb=>(E.block b (bP.lt cells V b hb) (h5 b hb)).2⟩
 |.agg l,c,h=>by
  rw[bq];rw[RV]at *;obtain⟨cs,rfl,V⟩:=h;simp_all[bf.env]
 |.au l,c,h=>by
  rw[bq];rw[RV]at *;obtain⟨cs,rfl,V⟩:=h;simp_all[bf.env]
 |.fQ fn f l,c,h=>by
  rw[bq];rw[RV]at *;obtain⟨fs,cs,rfl,V,h2⟩:=h;exact⟨fs,cs,rfl,bf.env E f V,bf.env E l h2⟩
 |.dead,c,h=>by
  trivial
 |.bad,c,h=>by
  trivial
theorem bf.env(E:Env L ρ ci H H' w w' k):∀(x:List AV) {c:List Value},bf L ρ H w x c->bf L ci H' w' (iA k x) c
 |[],c,h=>by trivial
 |x::xs,c,h=>by
  rw[iA];rw[bf]at *;obtain⟨c,r,rfl,V,h2⟩:=h;exact⟨c,r,rfl,RV.env E x V,bf.env E xs h2⟩
end
end
structure pL(O:Nat->Prop)(w w':World):Prop where
 os:w'.os=w.os
 tape:w'.tape=w.tape
 output:w'.output=w.output
 size:w.heap.size<=w'.heap.size
 block:∀b,b<w.heap.size->¬O b->w'.heap[b]? = w.heap[b]?
 nf:∀b o,(O b\/w.heap.size<=b)->b<w'.heap.size->w'.frozen? ⟨b,o,none⟩=false
theorem pL.refl(O:Nat->Prop)(w:World)(h:∀b o,O b->w.frozen? ⟨b,o,none⟩=false):pL O w w:=⟨rfl,rfl,rfl,Nat.le_refl _,fun _ _ _=>rfl,fun b o V h2=>by
 grind⟩
theorem pL.step{O X:Nat->Prop}{w0 w w':World}(h:pL O w0 w)(V:w'.os=w.os)(h2:w'.tape=w.tape)(h3:w'.output=w.output)(h4:w.heap.size<=w'.heap.size)
 (h5:∀b,b<w.heap.size->¬X b->w'.heap[b]? = w.heap[b]?) (hX:∀b,X b->O b\/w0.heap.size<=b) (hf:∀b o,(X b\/w.heap.size<=b)->b<w'.heap.size->w'.frozen? ⟨b,o,none⟩=false):pL O w0 w':=
 ⟨V.trans h.os,h2.trans h.tape,h3.trans h.output,Nat.le_trans h.size h4,fun b hb hO=>by
   rw[h5 b (Nat.lt_of_lt_of_le hb h.size) (fun hx=>(hX b hx).elim hO (fun hh=>by omega))];exact h.block b hb hO,fun b o k1 k2=>by
   by_cases hx:X b\/w.heap.size<=b
   ·grind
   have hx1:¬X b:=fun q=>hx (.inl q);have xn:b<w.heap.size:=by
    rcases Nat.lt_or_ge b w.heap.size with q|q
    ·exact q
    omega
   rw[World.frozen?_of_block (w:=w) (a:=⟨b,o,none⟩) (h5 b xn hx1)];exact h.nf b o k1 xn⟩
def OB(L:Nat->Prop)(ρ:Nat->Value)(H:Nat->AO)(w:World)(v:Value)(fp:List Nat):AO->Prop
 |.box T p cells=>∃xs,bf L ρ H w cells xs/\(∀x∈cells,x.cell=true)/\w.ownsRow 0 T cells.length v 1 xs/\fp=v.ownBlock.toList/\∀g,p=some g->v=g
 |.ai e sz rows=>∃xs fr,bI w false sz rows xs fr/\(∀b∈fr,¬live L ρ H b)/\w.ownsRow 0 e.ty sz v rows.length xs/\fp=v.ownBlock.toList/\∀u,e.pt=some u->v=u
 |.gone=>fp=[]
structure RR(L O:Nat->Prop)(w0:World)(N:Nat)(τ:Nat->AV)(H:Nat->AO)(ρ:Nat->Value)(fp:Nat->List Nat)(a:Act)(w:World):Prop where
 jp:pL O w0 w
 size:a.tmps.size=N
 defers:a.defers=[]
 tm:∀t,RV L ρ H w (τ t) (a.tmps.getD t undef)
 ob:∀id,OB L ρ H w (ρ id) (fp id) (H id)
 dj:∀i j,i≠j->∀b∈fp i,b ∉ fp j
 own:∀id,∀b∈fp id,(O b\/w0.heap.size<=b)/\¬L b
 lo:∀b,L b->b<w0.heap.size
section
variable {L:Nat->Prop}{ρ ci:Nat->Value}{H H':Nat->AO}{w w':World}{k:Nat->Bool}{v:Value}{fp:List Nat}{o:AO}
theorem OB.lt(h:OB L ρ H w v fp o):∀b∈fp,b<w.heap.size:=by
 cases o with
 |box T p cells=>
  obtain⟨xs,_,_,h,rfl,_⟩:=h;intro b hb;exact(h.lt b x_14).2
 |ai e sz rows=>
  obtain⟨xs,fr,V,_,h,rfl,_⟩:=h;intro b hb;exact(h.lt b x_14).2
 |gone=>grind[OB]
theorem OB.top(h:OB L ρ H w v fp o)(ho:o.here=true){b:Nat}(hb:v.ownBlock=some b):b∈fp:=by
 cases o with
 |box T p cells=>obtain⟨xs,_,_,h,rfl,_⟩:=h;simp[hb]
 |ai e sz rows=>obtain⟨xs,fr,V,_,h,rfl,_⟩:=h;simp[hb]
 |gone=>cases ho
theorem Qa{base:Nat}{e:TypeId}{sz n:Nat}{v:Value}{xs:List Value}(h:w.ownsRow base e sz v n xs)(hs:∀b,v.ownBlock=some b->w'.heap[b]? = w.heap[b]?):w'.ownsRow base e sz v n xs:=by
 refine⟨h.1,?_⟩;rcases h.2 with hn|⟨g,cap,cur,rfl,hb,hg,rest⟩
 ·grind
 exact .inr ⟨g,cap,cur,rfl,hb,by rw[hs g rfl];exact hg,rest⟩
theorem OB.env(E:Env L ρ ci H H' w w' k)(h:OB L ρ H w v fp o)(hs:∀b∈fp,w'.heap[b]? = w.heap[b]?):OB L ci H' w' v fp (o.bq k):=by
 have Qb:=fun(ho:o.here=true) b=>h.top ho (b:=b);cases o with
 |box T p cells=>
  obtain⟨xs,V,h2,h3,rfl,h5⟩:=h;refine⟨xs,bf.env E cells V,Hv k cells h2,?_,rfl,h5⟩;rw[Ew];exact Qa h3 (fun b hb=>hs b (Qb rfl b hb))
 |ai e sz rows=>
  obtain⟨xs,fr,V,h2,h3,rfl,h5⟩:=h;exact⟨xs,fr,bI.same rows V (fun b hb eI=>(E.block b eI (h2 b hb)).1),fun b hb=>(E.block b (bI.lt rows V b hb) (h2 b hb)).2,Qa h3 (fun b hb=>hs b (Qb rfl b hb)),rfl,h5⟩
 |gone=>exact h
end
theorem RR.Cb{L O:Nat->Prop}{w0:World}{N:Nat}{τ:Nat->AV}{H:Nat->AO}{ρ:Nat->Value}{fp:Nat->List Nat}{a:Act}{w w':World}(h:RR L O w0 N τ H ρ fp a w)
 (k:Nat->Bool) {id:Nat} {o':AO} {v':Value} {f':List Nat} (hc:pL O w0 w')
 (gR:w.heap.size<=w'.heap.size)
 (hw:∀b,b<w.heap.size->¬((H id).here=true/\(ρ id).ownBlock=some b)->w'.heap[b]? = w.heap[b]?)
 (ho:k id=false->o'.here=true->(H id).here=true/\v'=ρ id/\o'.len=(H id).len/\o'.sz=(H id).sz)
 (hv:o'.here=true->∀b,v'.ownBlock=some b->w.heap.size<=b\/((H id).here=true/\(ρ id).ownBlock=some b))
 (bY:Env L ρ (aH ρ id v') H (aH (fun j=>(H j).bq k) id o') w w' k->OB L (aH ρ id v') (aH (fun j=>(H j).bq k) id o') w' v' f' o')
 (JE:∀b∈f',(O b\/w0.heap.size<=b)/\¬L b) (pG:∀j,j≠id->∀b∈f',b ∉ fp j) :
 RR L O w0 N (fun t=>bq k (τ t)) (aH (fun j=>(H j).bq k) id o') (aH ρ id v') (aH fp id f') a w':=by
 have re:∀b,b<w.heap.size->¬live L ρ H b->¬live L (aH ρ id v') (aH (fun j=>(H j).bq k) id o') b:=by
  rintro b hb hn (hL|⟨j,k2,k3⟩)
  ·exact hn (.inl hL)
  by_cases e:j=id
  ·subst e;rw[dV]at k2 k3;rcases hv k2 b k3 with q|⟨q2,q3⟩
   ·omega
   exact hn (.inr ⟨j,q2,q3⟩)
  rw[eX _ _ e]at k2 k3;rw[sb]at k2;exact hn (.inr ⟨j,k2,k3⟩)
 have E:Env L ρ (aH ρ id v') H (aH (fun j=>(H j).bq k) id o') w w' k:=by
  refine⟨gR,fun b hb hn=>⟨hw b hb (fun q=>hn (.inr ⟨id,q⟩)),re b hb hn⟩,fun j hk hj=>?_⟩;by_cases e:j=id
  ·grind[dV]
  simp_all[eX,sb,Es,Et]
 refine⟨hc,h.size,h.defers,fun t=>RV.env E _ (h.tm t),fun j=>?_,fun i j gF b hb=>?_,fun j=>?_,h.lo⟩
 ·by_cases e:j=id
  ·grind[dV]
  rw[eX _ _ e,eX _ _ e,eX _ _ e]
  refine(h.ob j).env E (fun b hb=>hw b ((h.ob j).lt b hb) ?_)
  rintro⟨k1,k2⟩
  exact h.dj j id e b hb ((h.ob id).top k1 k2)
 ·by_cases e1:i=id
  ·simp_all[dV,eX,Ne.symm]
  rw[eX _ _ e1]at hb
  by_cases e2:j=id
  ·grind[dV]
  rw[eX _ _ e2]
  exact h.dj i j gF b hb
 by_cases e:j=id
 ·grind[dV]
 rw[eX _ _ e]
 exact h.own j
theorem RR.ahH{L O:Nat->Prop}{w0:World}{N:Nat}{τ:Nat->AV}{H:Nat->AO}{ρ:Nat->Value}{fp:Nat->List Nat}{a:Act}{w w':World}(h:RR L O w0 N τ H ρ fp a w)
 {id:Nat} {o':AO} {f':List Nat} (hc:pL O w0 w')
 (gR:w.heap.size<=w'.heap.size)
 (hw:∀b,b<w.heap.size->¬((H id).here=true/\(ρ id).ownBlock=some b)->w'.heap[b]? = w.heap[b]?)
 (ho:o'.here=true->(H id).here=true/\o'.len=(H id).len/\o'.sz=(H id).sz)
 (bY:Env L ρ ρ H (aH H id o') w w' kT->OB L ρ (aH H id o') w' (ρ id) f' o')
 (JE:∀b∈f',(O b\/w0.heap.size<=b)/\¬L b) (pG:∀j,j≠id->∀b∈f',b ∉ fp j) :
 RR L O w0 N τ (aH H id o') ρ (aH fp id f') a w':=by
 have e1:(fun t=>bq kT (τ t))=τ:=funext fun t=>mf _
 have e2:(fun j=>(H j).bq kT)=H:=funext fun j=>AO.mf _
 have e3:aH ρ id (ρ id)=ρ:=funext fun j=>by unfold aH;split<;>simp_all
 have:=h.Cb kT (id:=id) (o':=o') (v':=ρ id) (f':=f') hc gR hw (fun _ q=>⟨(ho q).1,rfl,(ho q).2⟩) (fun q b hb=>.inr ⟨(ho q).1,hb⟩) (by rw[e2,e3];exact bY) JE pG
 rw[e1,e2,e3]at this
 exact this

def Bj:Value->AV
 |.agg cs=>if cs.toList.all (·.oneCell')=true then .agg (cs.toList.map fun c=>.p (.v c))else .bad
 |.tuple _=>.bad
 |v=>.p (.v v)
def ev(τ:Nat->AV):Operand->AV
 |.tmp t=>τ t
 |.const v=>Bj v
 |.func f=>.fQ (.func f) [] []
 |.global _=>.bad
section
variable {L:Nat->Prop}{ρ:Nat->Value}{H:Nat->AO}{w:World}
theorem RV.gd{x c:Value}(h:RV L ρ H w (.p (.v x)) c):c=x:=by
 grind[RV,RW]
theorem fX{x:Value}(h:x.oneCell'=true):RV L ρ H w (.p (.v x)) x:=by
 simp_all[RV,RW]
theorem Ay:∀(cs:List Value),cs.all (·.oneCell')=true->bf L ρ H w (cs.map fun c=>.p (.v c)) cs
 |[],_=>by rfl
 |c::r,h=>by
  rw[List.all_cons,Bool.and_eq_true]at h;rw[List.map_cons,bf];exact⟨c,r,rfl,fX h.1,Ay r h.2⟩
theorem RV.Bj(v:Value):RV L ρ H w (Bj v) v:=by
 cases v with
 |agg cs=>
  grind[Proofs.YtflhgkmhmcfimaaGreat.Bj,RV,Ay]
 |tuple vs=>trivial
 |_=>exact fX rfl
end
section
variable {L O:Nat->Prop}{w0:World}{N:Nat}{τ τ':Nat->AV}{H H':Nat->AO}{ρ:Nat->Value}{fp:Nat->List Nat}{a:Act}{w:World}
theorem RR.ev(h:RR L O w0 N τ H ρ fp a w)(x:Operand):RV L ρ H w (ev τ x) (a.eval x):=by
 cases x with
 |tmp t=>exact h.tm t
 |const v=>exact RV.Bj v
 |global g=>trivial
 |func f=>
  grind[Proofs.YtflhgkmhmcfimaaGreat.ev,Act.eval,RV,bf]
theorem RR.put(h:RR L O w0 N τ H ρ fp a w){t:Nat}{x:AV}{c:Value}(hx:RV L ρ H w x c)(ht:t<N):RR L O w0 N (aH τ t x) H ρ fp (a.put (some t) c) w:=by
 refine⟨h.jp,by simp[Act.put,h.size],h.defers,fun s=>?_,h.ob,h.dj,h.own,h.lo⟩;unfold Act.put;by_cases e:s=t
 ·subst e;rw[dV];have:(a.tmps.setIfInBounds s c).getD s undef=c:=by simp[h.size,ht]
  grind
 rw[eX _ _ e];dsimp only;have:(a.tmps.setIfInBounds t c).getD s undef=a.tmps.getD s undef:=by simp[Array.getD_eq_getD_getElem?,Array.getElem?_setIfInBounds_ne (Ne.symm e)]
 rw[this];exact h.tm s
def mb(τ:Nat->AV)(t:Option Nat)(x:AV):Nat->AV:=match t with|some t=>aH τ t x|none=>τ
theorem RR.Az(h:RR L O w0 N τ H ρ fp a w)(t:Option Nat){x:AV}{c:Value}(hx:RV L ρ H w x c)(ht:∀s,t=some s->s<N):RR L O w0 N (mb τ t x) H ρ fp (a.put t c) w:=by
 cases t with
 |none=>exact h
 |some t=>exact h.put hx (ht t rfl)
theorem RR.eJ(h:RR L O w0 N τ H ρ fp a w)(hs:∀t,τ' t=.bad\/τ' t=τ t)(hH:∀id,H' id=.gone\/H' id=H id):∃bH,RR L O w0 N τ' H' ρ bH a w/\Env L ρ ρ H H' w w kT:=by
 have E:Env L ρ ρ H H' w w kT:=by
  refine⟨Nat.le_refl _,fun b _ hn=>⟨rfl,?_⟩,fun id _ hh=>?_⟩
  ·rintro(hL|⟨id,V,h2⟩)
   ·exact hn (.inl hL)
   rcases hH id with q|q
   ·rw[q]at V;cases V
   rw[q]at V;exact hn (.inr ⟨id,V,h2⟩)
  rcases hH id with q|q
  ·rw[q]at hh;cases hh
  rw[q]at hh ⊢;exact⟨hh,rfl,rfl,rfl⟩
 refine⟨fun id=>if (H' id).here=true then fp id else [],⟨h.jp,h.size,h.defers,fun t=>?_,fun id=>?_,fun i j gF b hb=>?_,fun id=>?_,h.lo⟩,E⟩
 ·rcases hs t with q|q
  ·rw[q];simp[RV]
  rw[q];have:=RV.env E _ (h.tm t);rwa [mf]at this
 ·rcases hH id with q|q
  ·rw[q];simp[OB,AO.here]
  rw[q];have:=(h.ob id).env E (fun b _=>rfl);rw[AO.mf]at this;split
  ·exact this
  rename_i hn;cases hq:H id with
  |gone=>simp[OB]
  |box T p cs=>rw[hq]at hn;exact absurd rfl hn
  |ai e sz rows=>rw[hq]at hn;exact absurd rfl hn
 ·split at hb
  ·split
   ·exact h.dj i j gF b hb
   simp
  simp at hb
 split
 ·exact h.own id
 simp
end
def l6(X:Nat->Bool)(ρ:Nat->Value)(H:Nat->AO)(w W:World):Prop:=
 w.heap.size<=W.heap.size/\∀b,b<w.heap.size->(∀id,X id=true->(H id).here=true->(ρ id).ownBlock≠some b)->W.heap[b]? = w.heap[b]?
theorem l6.refl(X:Nat->Bool)(ρ:Nat->Value)(H:Nat->AO)(w:World):l6 X ρ H w w:=⟨Nat.le_refl _,fun _ _ _=>rfl⟩
def Mv(X:Nat->Bool)(ρ:Nat->Value)(H:Nat->AO)(w:World)(ci:Nat->Value)(H':Nat->AO)(w':World):Prop:=
 l6 X ρ H w w'/\∀id,X id=true->(H' id).here=true->∀b,(ci id).ownBlock=some b->w.heap.size<=b\/∃j,X j=true/\(H j).here=true/\(ρ j).ownBlock=some b
theorem Mv.vA{X:Nat->Bool}{ρ ci:Nat->Value}{H H':Nat->AO}{w w' W:World}(h:Mv X ρ H w ci H' w')(k:l6 X ci H' w' W):l6 X ρ H w W:=
 ⟨Nat.le_trans h.1.1 k.1,fun b hb hn=>by
   rw[k.2 b (Nat.lt_of_lt_of_le hb h.1.1) (fun id V h2 h3=>?_)]
   ·exact h.1.2 b hb hn
   rcases h.2 id V h2 b h3 with q|⟨j,q1,q2,q3⟩;all_goals grind⟩
structure Rd(P:Program)(o:Oper)(τ:Nat->AV)(H:Nat->AO)(X:Nat->Bool)(x:AV):Prop where
 run:∀ {L O:Nat->Prop} {w0:World} {N:Nat} {ρ:Nat->Value} {fp:Nat->List Nat} {a:Act} {w:World},RR L O w0 N τ H ρ fp a w->
  ∃c,RV L ρ H w x c/\∀W,l6 X ρ H w W->(execOp a.eval o).run P W=.ok (.value c) W
structure St(P:Program)(o:Oper)(N:Nat)(τ:Nat->AV)(H:Nat->AO)(E:List Nat)(τ':Nat->AV)(H':Nat->AO):Prop where
 run:∀ {L O:Nat->Prop} {w0:World} {ρ:Nat->Value} {fp:Nat->List Nat} {a:Act} {w:World} {K:Act->World->Prop} {Q:Exit->Act->World->Prop},RR L O w0 N τ H ρ fp a w->
  (∀a' w' ci bH,RR L O w0 N τ' H' ci bH a' w'->(∀X:Nat->Bool,(∀id∈E,X id=true)->Mv X ρ H w ci H' w')->K a' w')->o.wp P a w K Q
structure wW(P:Program)(o:Oper)(N:Nat)(τ:Nat->AV)(H:Nat->AO)(E:List Nat)(Z:(Nat->AV)->(Nat->AO)->Prop):Prop where
 run:∀ {L O:Nat->Prop} {w0:World} {ρ:Nat->Value} {fp:Nat->List Nat} {a:Act} {w:World} {K:Act->World->Prop} {Q:Exit->Act->World->Prop},RR L O w0 N τ H ρ fp a w->
  (∀τ' H' a' w' ci bH,Z τ' H'->RR L O w0 N τ' H' ci bH a' w'->(∀X:Nat->Bool,(∀id∈E,X id=true)->Mv X ρ H w ci H' w')->K a' w')->o.wp P a w K Q
theorem St.x{P:Program}{o:Oper}{N:Nat}{τ τ':Nat->AV}{H H':Nat->AO}{E:List Nat}(h:wW P o N τ H E fun t q=>t=τ'/\q=H'):St P o N τ H E τ' H':=⟨fun hr hk=>h.run hr (fun t q a' w' ci bH e V h2=>by
 obtain⟨rfl,rfl⟩:=e;exact hk a' w' ci bH V h2)⟩
def gv(τ:Nat->AV)(ops:Array Oper)(o:Oper):Option Bool:=
 match o.guard with
 |none=>some true
 |some (j,want)=>
  match (ops[j]?).bind (·.dst)with
  |none=>some false
  |some t=>match τ t with
   |.p (.v (.bool b))=>some (b==want)
   |.au []=>some false
   |_=>none
theorem RR.wanted{L O:Nat->Prop}{w0:World}{N:Nat}{τ:Nat->AV}{H:Nat->AO}{ρ:Nat->Value}{fp:Nat->List Nat}{a:Act}{w:World}(h:RR L O w0 N τ H ρ fp a w)
 {ops:Array Oper} {o:Oper} {b:Bool} (hg:gv τ ops o=some b):Region.wanted o (yielded ops a.tmps)=b:=by
 unfold gv at hg
 unfold Region.wanted
 split at hg
 ·grind
 rename_i j want hq
 rw[hq]
 dsimp only
 unfold yielded
 split at hg
 ·grind
 rename_i t hd
 rw[hd]
 have ht:=h.tm t
 split at hg
 ·rename_i b' hb
  rw[hb]at ht
  have e:=ht.gd
  injection hg with hg
  subst hg
  rcases Nat.lt_or_ge t a.tmps.size with q|q
  ·rw[Array.getD_eq_getD_getElem?,Array.getElem?_eq_getElem q]at e
   simp only[Option.getD_some]at e
   simp[Array.getElem?_eq_getElem q,e]
  rw[Array.getD_eq_getD_getElem?,Array.getElem?_eq_none q]at e
  cases e
 ·rename_i hb
  rw[hb]at ht
  rw[RV]at ht
  obtain⟨cs,e,_⟩:=ht
  injection hg with hg
  subst hg
  rcases Nat.lt_or_ge t a.tmps.size with q|q
  ·rw[Array.getD_eq_getD_getElem?,Array.getElem?_eq_getElem q]at e
   simp only[Option.getD_some]at e
   simp[Array.getElem?_eq_getElem q,e]
  simp[Array.getElem?_eq_none q]
 grind
abbrev AQ:=Exit->(Nat->AV)->(Nat->AO)->Prop
def QQ(L O:Nat->Prop)(w0:World)(N:Nat)(Q:AQ):Exit->Act->World->Prop:=fun e a w=>∃τ H ρ fp,RR L O w0 N τ H ρ fp a w/\Q e τ H
def AW(P:Program)(L O:Nat->Prop)(w0:World)(N:Nat)(c:Code)(τ:Nat->AV)(H:Nat->AO)(Q:AQ):Prop:=
 ∀ρ fp a w,RR L O w0 N τ H ρ fp a w->c.wp P (QQ L O w0 N Q) a w
def AL(P:Program)(L O:Nat->Prop)(w0:World)(N:Nat)(ops:Array Oper)(l:List Oper)(τ:Nat->AV)(H:Nat->AO)(Q:AQ):Prop:=
 ∀ρ fp a w,RR L O w0 N τ H ρ fp a w->wpList P ops (QQ L O w0 N Q) l a w
def AG(P:Program)(L O:Nat->Prop)(w0:World)(N:Nat)(ops:Array Oper)(f:Nat)(X:Nat->Bool)(n:Nat)(av:Array Bool)(τ:Nat->AV)(H:Nat->AO)(Q:AQ):Prop:=
 ∀ρ fp a w,RR L O w0 N τ H ρ fp a w->qw P .any ops (QQ L O w0 N Q) (l6 X ρ H w) f n av a w
def AQ.andThen(K:(Nat->AV)->(Nat->AO)->Prop)(Q:AQ):AQ:=fun e τ H=>match e with|.normal=>K τ H|e=>Q e τ H
def AQ.inBlock(id:Nat)(Q:AQ):AQ:=fun e τ H=>match e with|.exit i=>if i=id then Q .normal τ H else Q (.exit i) τ H|e=>Q e τ H
def US(Q:AQ):AQ:=fun e τ H=>match e with|.goto _=>False|e=>Q e τ H
section
variable {P:Program}{L O:Nat->Prop}{w0:World}{N:Nat}{τ τ':Nat->AV}{H H':Nat->AO}{Q Q':AQ}
theorem QQ.mono{e:Exit}{a:Act}{w:World}(h:QQ L O w0 N Q e a w)(hq:∀e τ H,Q e τ H->Q' e τ H):QQ L O w0 N Q' e a w:=by
 obtain⟨τ,H,ρ,fp,V,h2⟩:=h;exact⟨τ,H,ρ,fp,V,hq _ _ _ h2⟩
theorem AW.mono{c:Code}(h:AW P L O w0 N c τ H Q)(hq:∀e τ H,Q e τ H->Q' e τ H):AW P L O w0 N c τ H Q':=
 fun ρ fp a w hr=>Code.wp_mono (fun _ _ _ q=>q.mono hq) (h ρ fp a w hr)
theorem AW.eJ{c:Code}(hs:∀t,τ' t=.bad\/τ' t=τ t)(hH:∀id,H' id=.gone\/H' id=H id)(h:AW P L O w0 N c τ' H' Q):AW P L O w0 N c τ H Q:=fun ρ fp a w hr=>by
 obtain⟨bH,gU,_⟩:=hr.eJ hs hH;exact h ρ bH a w gU
theorem AW.seq{x y:Code}(h:AW P L O w0 N x τ H (Q.andThen fun τ H=>AW P L O w0 N y τ H Q)):AW P L O w0 N (.seq x y) τ H Q:=fun ρ fp a w hr=>
 wp_seq (Code.wp_mono (fun e a w q=>by
  obtain⟨τ,H,ρ,fp,V,h2⟩:=q;cases e<;>first|exact⟨τ,H,ρ,fp,V,h2⟩|exact h2 ρ fp a w V) (h ρ fp a w hr))
theorem AW.skip(h:Q .normal τ H):AW P L O w0 N .skip τ H Q:=fun ρ fp a w hr=>wp_skip ⟨τ,H,ρ,fp,hr,h⟩
theorem AW.ret(h:Q .ret τ H):AW P L O w0 N .ret τ H Q:=fun ρ fp a w hr=>wp_ret ⟨τ,H,ρ,fp,hr,h⟩
theorem AW.exit{id:Nat}(h:Q (.exit id) τ H):AW P L O w0 N (.exit id) τ H Q:=fun ρ fp a w hr=>wp_exit ⟨τ,H,ρ,fp,hr,h⟩
theorem AW.block{id:Nat}{c:Code}(h:AW P L O w0 N c τ H (Q.inBlock id)):AW P L O w0 N (.block id c) τ H Q:=fun ρ fp a w hr=>
 wp_block (Code.wp_mono (fun e a w q=>by
  obtain⟨τ,H,ρ,fp,V,h2⟩:=q;cases e<;>try exact⟨τ,H,ρ,fp,V,h2⟩
  rename_i i;unfold AQ.inBlock at h2;unfold Exit.inBlock;dsimp only at h2 ⊢;split at h2
  ·rename_i q;rw[if_pos q];exact⟨τ,H,ρ,fp,V,h2⟩
  rename_i q;rw[if_neg q];exact⟨τ,H,ρ,fp,V,h2⟩) (h ρ fp a w hr))
theorem AW.cond{c:Operand}{x y:Code}{t:Bool}(hc:ev τ c=.p (.v (.bool t)))(ht:t=true->AW P L O w0 N x τ H Q)(hf:t=false->AW P L O w0 N y τ H Q):AW P L O w0 N (.cond c x y) τ H Q:=fun ρ fp a w hr=>by
 have e:=hr.ev c;rw[hc]at e;exact wp_cond_split e.gd (fun q=>ht q ρ fp a w hr) (fun q=>hf q ρ fp a w hr)
abbrev cE:=@AW.cond
theorem AW.yes{c:Operand}{x y:Code}(hc:ev τ c=.p (.v (.bool true)))(h:AW P L O w0 N x τ H Q):AW P L O w0 N (.cond c x y) τ H Q:=AW.cond hc (fun _=>h) (fun q=>by cases q)
theorem UX{c:Operand}{x y:Code}(hc:ev τ c=.p (.v (.bool false)))(h:AW P L O w0 N y τ H Q):AW P L O w0 N (.cond c x y) τ H Q:=AW.cond hc (fun q=>by cases q) (fun _=>h)
def nY:List (Nat×AV)->Nat->AV
 |[],_=>.bad
 |(s,x)::l,t=>if t=s then x else nY l t
def bx:List (Nat×AO)->Nat->AO
 |[],_=>.gone
 |(s,x)::l,t=>if t=s then x else bx l t
def iN:List (Nat×AV)->(Nat->AV)->Prop
 |[],_=>True
 |(s,x)::l,τ=>τ s=x/\iN l τ
def fo:List (Nat×AO)->(Nat->AO)->Prop
 |[],_=>True
 |(s,x)::l,τ=>τ s=x/\fo l τ
theorem iN.eJ:∀ {l:List (Nat×AV)} {τ:Nat->AV},iN l τ->∀t,nY l t=.bad\/nY l t=τ t
 |[],τ,_,t=>.inl rfl
 |(s,x)::l,τ,h,t=>by
  unfold nY;split
  ·rename_i q;subst q;exact .inr h.1.symm
  exact iN.eJ h.2 t
theorem fo.eJ:∀ {l:List (Nat×AO)} {τ:Nat->AO},fo l τ->∀t,bx l t=.gone\/bx l t=τ t
 |[],τ,_,t=>.inl rfl
 |(s,x)::l,τ,h,t=>by
  unfold bx;split
  ·rename_i q;subst q;exact .inr h.1.symm
  exact fo.eJ h.2 t
theorem Xz{D:Type}(T:D->List (Nat×AV))(B:D->List (Nat×AO))(I:D->Prop){x y:Code}(h:AW P L O w0 N x τ H (Q.andThen fun τ H=>∃d,I d/\iN (T d) τ/\fo (B d) H))(h2:∀d,I d->AW P L O w0 N y (nY (T d)) (bx (B d)) Q):AW P L O w0 N (.seq x y) τ H Q:=
 AW.seq (h.mono fun e τ H q=>by
  cases e<;>first|exact q|(obtain⟨d,q1,q2,q3⟩:=q;exact AW.eJ q2.eJ q3.eJ (h2 d q1)))
theorem AW.loop{D:Type}(T:D->List (Nat×AV))(B:D->List (Nat×AO))(I:D->Prop)(μ:D->Nat){c:Code}(d:D)(h0:I d)(V:iN (T d) τ)(h2:fo (B d) H)
 (round:∀d,I d->AW P L O w0 N c (nY (T d)) (bx (B d)) (Q.andThen fun τ H=>∃d',I d'/\μ d'<μ d/\iN (T d') τ/\fo (B d') H)):AW P L O w0 N (.loop c) τ H Q:=fun ρ fp a w hr=>by
 obtain⟨bH,gU,_⟩:=hr.eJ V.eJ h2.eJ
 have key:∀n (d:D),μ d=n->I d->∀ρ fp a w,RR L O w0 N (nY (T d)) (bx (B d)) ρ fp a w->∀b k cs,∃e a' w',QQ L O w0 N Q e a' w'/\Arrives P (lone (b.at a (.code c::.inLoop c::k)) cs w) b k cs e a' w':=by
  intro n;induction n using Nat.strongRecOn with
  |_ n ih=>
   intro d hn hI ρ fp a w hr b k cs;obtain⟨e,ry,rz,hq,ox⟩:=round d hI ρ fp a w hr b (.inLoop c::k) cs;obtain⟨tt,tu,rA,tv,rC,hq⟩:=hq;cases e with
   |normal=>
    obtain⟨d',i1,i2,i3,i4⟩:=hq;obtain⟨IO,IP,_⟩:=rC.eJ i3.eJ i4.eJ;obtain⟨IQ,IR,IS,IT,IU⟩:=ih (μ d') (hn▸i2) d' rfl i1 rA IO ry rz IP b k cs;exact⟨IQ,IR,IS,IT,.of_steps (Steps.trans ox (.one step_inLoop)) IU⟩
   |exit id=>exact⟨_,ry,rz,⟨tt,tu,rA,tv,rC,hq⟩,.pass (x:=.inLoop c) rfl (fun _ _=>.inl x_19) ox⟩
   |goto l=>exact⟨_,ry,rz,⟨tt,tu,rA,tv,rC,hq⟩,.pass (x:=.inLoop c) rfl (fun _ _=>.inl x_19) ox⟩
   |ret=>exact⟨_,ry,rz,⟨tt,tu,rA,tv,rC,hq⟩,.pass (x:=.inLoop c) rfl (fun _ _=>.inl x_19) ox⟩
   |panic ch=>exact⟨_,ry,rz,⟨tt,tu,rA,tv,rC,hq⟩,.pass (x:=.inLoop c) rfl (fun _ _=>.inl x_19) ox⟩
   |outgrown=>exact⟨_,ry,rz,⟨tt,tu,rA,tv,rC,hq⟩,.pass (x:=.inLoop c) rfl (fun _ _=>.inl x_19) ox⟩
 intro b k cs
 obtain⟨e,a',w',hq,ox⟩:=key (μ d) d rfl h0 ρ bH a w gU b k cs
 exact⟨e,a',w',hq,.of_steps (.one step_loop) ox⟩
theorem M3{id:Nat}{l:List Oper}(h:AL P L O w0 N l.toArray l τ H Q):AW P L O w0 N (.region id l.toArray false) τ H Q:=fun ρ fp a w hr=>wp_region_lit (h ρ fp a w hr)
variable {ops:Array Oper}{o:Oper}{l:List Oper}
theorem AL.nil(h:Q .normal τ H):AL P L O w0 N ops [] τ H Q:=fun ρ fp a w hr=>wpList_nil ⟨τ,H,ρ,fp,hr,h⟩
theorem AL.rd{x:AV}{t:Nat}(hr:Rd P o τ H (fun _=>false) x)(hg:gv τ ops o=some true)(hd:o.dst=some t)(ht:t<N)(h:AL P L O w0 N ops l (aH τ t x) H Q):AL P L O w0 N ops (o::l) τ H Q:=fun ρ fp a w bV=>
 wpList_step fun K hK=>by
  rw[bV.wanted hg,if_pos rfl];obtain⟨c,V,h2⟩:=hr.run bV;unfold Oper.wp;rw[h2 w (l6.refl _ _ _ _)];refine hK _ _ (h ρ fp _ w ?_);rw[hd];exact bV.put V ht
theorem x_126{p:Prop}(c:p:=by rw[RV];exact⟨[],rfl,by rfl⟩):p:=c
theorem HZ{t:Nat}(hg:gv τ ops o=some false)(hd:o.dst=some t)(ht:t<N)(h:AL P L O w0 N ops l (aH τ t (.au [])) H Q):AL P L O w0 N ops (o::l) τ H Q:=fun ρ fp a w bV=>
 wpList_step fun K hK=>by
  rw[bV.wanted hg,if_neg x_19];refine hK _ _ (h ρ fp _ w ?_);rw[hd];exact bV.put x_126 ht
theorem AL.st{E:List Nat}(hs:St P o N τ H E τ' H')(hg:gv τ ops o=some true)(h:AL P L O w0 N ops l τ' H' Q):AL P L O w0 N ops (o::l) τ H Q:=fun ρ fp a w bV=>
 wpList_step fun K hK=>by
  rw[bV.wanted hg,if_pos rfl];exact hs.run bV (fun a' w' ci bH gU _=>hK _ _ (h ci bH a' w' gU))
theorem A1{E:List Nat}{Z:(Nat->AV)->(Nat->AO)->Prop}(hs:wW P o N τ H E Z)(hg:gv τ ops o=some true)(h:∀τ' H',Z τ' H'->AL P L O w0 N ops l τ' H' Q):AL P L O w0 N ops (o::l) τ H Q:=fun ρ fp a w bV=>
 wpList_step fun K hK=>by
  rw[bV.wanted hg,if_pos rfl];exact hs.run bV (fun τ' H' a' w' ci bH hz gU _=>hK _ _ (h τ' H' hz ci bH a' w' gU))
def JF(md:Region.Mode)(ops:Array Oper)(S:Array Bool)(j:Nat):Array Bool:=
 if S.getD j false=true then (match ops[j]? with
  |some o=>o.after.toList.foldl (fun S e=>if Region.binds md e=true then S.setIfInBounds e.on true else S) S
  |none=>S)else S
def xC(md:Region.Mode)(ops:Array Oper)(f:Nat):Array Bool:=(List.range ops.size).reverse.foldl (JF md ops) ((Array.replicate ops.size false).setIfInBounds f true)
theorem Qc{S:Array Bool}{i j:Nat}(h:(S.setIfInBounds i true).getD j false=true):j=i\/S.getD j false=true:=by
 by_cases q:i=j;all_goals simp_all
theorem Od{md:Region.Mode}{ops:Array Oper}{f:Nat}{av:Array Bool}(hc:xM md ops av)(hf:∀Fg,ops[f]? = some Fg->∀e∈Fg.after,Region.binds md e=true->av.getD e.on false=true){i:Nat}(h:(xC md ops f).getD i false=true):i=f\/av.getD i false=true:=by
 have inner:∀(l:List Go.Edge) (S:Array Bool),(∀j,S.getD j false=true->j=f\/av.getD j false=true)->(∀e∈l,Region.binds md e=true->av.getD e.on false=true)->
  ∀j,(l.foldl (fun S e=>if Region.binds md e=true then S.setIfInBounds e.on true else S) S).getD j false=true->j=f\/av.getD j false=true:=by
  intro l
  induction l with
  |nil=>simp
  |cons e l ih=>
   grind[Qc]
 have outer:∀(l:List Nat) (S:Array Bool),(∀j,S.getD j false=true->j=f\/av.getD j false=true)->∀j,(l.foldl (JF md ops) S).getD j false=true->j=f\/av.getD j false=true:=by
  intro l;induction l with
  |nil=>simp
  |cons m l ih=>
   intro S hS j hj;rw[List.foldl_cons]at hj;refine ih _ (fun j' qD=>?_) j hj;unfold JF at qD;split at qD
   ·rename_i hm;split at qD
    ·rename_i o ho;refine inner o.after.toList S hS (fun e he hb=>?_) j' qD;rcases hS m hm with q|q
     ·subst q;exact hf o ho e (by simpa using he) hb
     exact hc m o ho q e (by simpa using he) hb
    exact hS j' qD
   grind
 refine outer _ _ (fun j hj=>?_) i h;rcases Qc hj with q|q
 ·omega
 exfalso;rcases Nat.lt_or_ge j ops.size with q'|q';all_goals simp_all
theorem aal{md:Region.Mode}{Q:Exit->Act->World->Prop}{S:World->Prop}{f i:Nat}{oi:Oper}{v:Value}(hi:ops[i]? = some oi)(xL:∀(j:Nat) (o:Oper) cs b,ops[j]? = some o->o.op≠.select cs b)
 (hQ:∀c a w,Q (.panic c) (a.put oi.dst v) w->Q (.panic c) a w) (hf:(xC md ops f).getD i false=true) :
 ∀(cS:Nat) (av:Array Bool) (a:Act) (w:World),
  (∀j oj,ops[j]? = some oj->j≠i->av.getD j true=false->(∀e∈oj.after,Region.binds md e=true->e.on≠i)->oi.apart ops oj=true)->
  xM md ops av->i∈Region.ready md ops av->YieldsIf P ops S oi v a->S w->
  qw P md ops Q S f cS (av.setIfInBounds i true) (a.put oi.dst v) w->qw P md ops Q S f (cS+1) av a w:=by
 intro cS
 induction cS with
 |zero=>
  intro av a w _ _ hr hy hS H
  refine⟨fun h=>x_14,fun j hj=>?_⟩
  by_cases jq:j=i
  ·subst jq;exact hy.wpOp hi hS ⟨fun _=>hS,H⟩
  have:=ready_mono hj jq
  rw[H.1]at this
  grind
 |succ cS ih=>
  intro av a w xN qH hr hy hS H
  refine⟨fun h=>x_14,fun j hj=>?_⟩
  by_cases jq:j=i
  ·subst jq;exact hy.wpOp hi hS ⟨fun _=>hS,H⟩
  have V:=H.2 j (ready_mono hj jq)
  obtain⟨uH,oj,pQ,bB⟩:=mem_ready.1 hj
  have CI:∀e∈oj.after,Region.binds md e=true->e.on≠i:=fun e he hb pk=>by
   have V:=bB e he hb;have h0:=(mem_ready.1 hr).1;rw[pk]at V;rcases Nat.lt_or_ge i av.size with h'|h'
   ·simp[h']at h0 V;rw[h0]at V;cases V
   simp[Array.getElem?_eq_none h']at V
  have h2:=wpOp_putIf pQ (xN j oj pQ jq uH CI) (fun cs b=>xL i oi cs b hi) (fun cs b=>xL j oj cs b pQ) hQ hy V
  have aam:∀k ok,ops[k]? = some ok->k≠i->(av.setIfInBounds j true).getD k true=false->
   (∀e∈ok.after,Region.binds md e=true->e.on≠i)->oi.apart ops ok=true:=fun k ok hk CK o8 iY=>by
   refine xN k ok hk CK ?_ iY
   by_cases hjk:j=k
   ·subst hjk;exact uH
   rw[getD_set_ne true hjk]at o8;exact o8
  have CJ:j≠f:=fun q=>by
   subst q;have hl:=Od qH (fun Fg wd e he hb=>by rw[pQ]at wd;injection wd with wd;subst wd;exact bB e he hb) hf;rcases hl with hl|hl
   ·exact jq hl.symm
   have h0:=(mem_ready.1 hr).1;rcases Nat.lt_or_ge i av.size with h'|h'
   ·simp[h']at h0 hl;rw[h0]at hl;cases hl
   simp[Array.getElem?_eq_none h']at hl
  refine wpOp_mono (fun a' w' h3=>⟨fun _=>h3.2.1 CJ,ih (av.setIfInBounds j true) a' w' aam (qH.set hj) (ready_mono hr (Ne.symm jq)) h3.1 (h3.2.1 CJ) ?_⟩) h2
  grind[Array.setIfInBounds_comm]
theorem Qd{md:Region.Mode}{Q:Exit->Act->World->Prop}{S:World->Prop}{f i:Nat}{oi:Oper}{v:Value}{cS:Nat}{av:Array Bool}{a:Act}{w:World}(hi:ops[i]? = some oi)
 (hs:Region.noSelect ops=true) (hf:Region.free md ops av i=true) (hr:(Region.ready md ops av).contains i=true) (hw:(xC md ops f).getD i false=true) (hc:rt md ops av=true)
 (hQ:∀c a w,Q (.panic c) (a.put oi.dst v) w->Q (.panic c) a w) (hy:YieldsIf P ops S oi v a) (hS:S w)
 (h:qw P md ops Q S f cS (av.setIfInBounds i true) (a.put oi.dst v) w):qw P md ops Q S f (cS+1) av a w:=
 aal hi (Region.noSelect_spec hs) hQ hw cS av a w (Region.free_spec hi hf) (IH hc) x_14 hy hS h
theorem zp{md:Region.Mode}{Q:Exit->Act->World->Prop}{S S':World->Prop}{f:Nat}(hS:∀W,S' W->S W):∀(n:Nat) (av:Array Bool) (a:Act) (w:World),qw P md ops Q S' f n av a w->qw P md ops Q S f n av a w
 |0,_,_,_,h=>h
 |n+1,_,_,_,h=>⟨h.1,fun i hi=>wpOp_mono (fun a' w' h'=>⟨fun hf=>hS _ (h'.1 hf),zp hS n _ a' w' h'.2⟩) (h.2 i hi)⟩
theorem RR.drew{ρ:Nat->Value}{fp:Nat->List Nat}{a:Act}{w:World}(h:RR L O w0 N τ H ρ fp a w):RR L O w0 N τ H ρ fp a w.drew:=
 have E:Env L ρ ρ H H w w.drew kT:=⟨Nat.le_refl _,fun _ _ h=>⟨rfl,h⟩,fun _ _ h=>⟨h,rfl,rfl,rfl⟩⟩
 ⟨⟨h.jp.os,h.jp.tape,h.jp.output,h.jp.size,h.jp.block,h.jp.nf⟩,h.size,h.defers,fun t=>by have:=RV.env E _ (h.tm t);grind[mf],fun id=>by
   have:=(h.ob id).env E (fun b _=>rfl);grind[AO.mf],h.dj,h.own,h.lo⟩
theorem U0{id:Nat}(f:Nat)(X:Nat->Bool)(hm:P.follows .mixedOrders=true)(h:AG P L O w0 N ops f X ops.size (Array.replicate ops.size false) τ H Q):AW P L O w0 N (.region id ops true) τ H Q:=fun ρ fp a w hr=>
 Zb hm (h ρ fp a w.drew hr.drew)
theorem AG.done{f:Nat}{X:Nat->Bool}{n:Nat}{av:Array Bool}(hr:Region.ready .any ops av=[])(h:Q .normal τ H):AG P L O w0 N ops f X n av τ H Q:=fun ρ fp a w bV=>
 Pq hr ⟨τ,H,ρ,fp,bV,h⟩ n
theorem AG.rd{f i:Nat}{X:Nat->Bool}{n:Nat}{av:Array Bool}{x:AV}{t:Nat}(ho:ops[i]? = some o)(hr:Region.ready .any ops av=[i])(sA:Rd P o τ H (fun _=>false) x)(hg:gv τ ops o=some true)(hd:o.dst=some t)(ht:t<N)
 (h:AG P L O w0 N ops f X n (av.setIfInBounds i true) (aH τ t x) H Q):AG P L O w0 N ops f X (n+1) av τ H Q:=fun ρ fp a w bV=>
 C0 ho hr fun K hK=>by
  rw[bV.wanted hg,if_pos rfl];obtain⟨c,V,h2⟩:=sA.run bV;unfold Oper.wp;rw[h2 w (l6.refl _ _ _ _)];refine hK _ _ (fun _=>l6.refl _ _ _ _) (h ρ fp _ w ?_);rw[hd];exact bV.put V ht
theorem U2{f i:Nat}{X:Nat->Bool}{n:Nat}{av:Array Bool}{t:Nat}(ho:ops[i]? = some o)(hr:Region.ready .any ops av=[i])(hg:gv τ ops o=some false)(hd:o.dst=some t)(ht:t<N)
 (h:AG P L O w0 N ops f X n (av.setIfInBounds i true) (aH τ t (.au [])) H Q):AG P L O w0 N ops f X (n+1) av τ H Q:=fun ρ fp a w bV=>
 C0 ho hr fun K hK=>by
  rw[bV.wanted hg,if_neg x_19];refine hK _ _ (fun _=>l6.refl _ _ _ _) (h ρ fp _ w ?_);rw[hd];exact bV.put x_126 ht
theorem AG.take{f i:Nat}{X:Nat->Bool}{n:Nat}{av:Array Bool}{x:AV}{t:Nat}(ho:ops[i]? = some o)(hr:(Region.ready .any ops av).contains i=true)(hs:Region.noSelect ops=true)(ke:Region.free .any ops av i=true)
 (hb:(xC .any ops f).getD i false=true) (hc:rt .any ops av=true) (sA:Rd P o τ H X x) (hg:gv τ ops o=some true) (hd:o.dst=some t) (ht:t<N) (wg:∀c τ H,¬Q (.panic c) τ H)
 (h:AG P L O w0 N ops f X n (av.setIfInBounds i true) (aH τ t x) H Q):AG P L O w0 N ops f X (n+1) av τ H Q:=fun ρ fp a w bV=>by
 obtain⟨c,V,h2⟩:=sA.run bV
 refine Qd (v:=c) ho hs ke hr hb hc (fun c a w ⟨τ,H,_,_,_,q⟩=>absurd q (wg c τ H)) (.inl ⟨bV.wanted hg,fun W hW=>h2 W hW⟩) (l6.refl _ _ _ _) (h ρ fp _ w ?_)
 rw[hd]
 exact bV.put V ht
theorem AG.skip{f i:Nat}{X:Nat->Bool}{n:Nat}{av:Array Bool}{t:Nat}(ho:ops[i]? = some o)(hr:(Region.ready .any ops av).contains i=true)(hs:Region.noSelect ops=true)(ke:Region.free .any ops av i=true)
 (hb:(xC .any ops f).getD i false=true) (hc:rt .any ops av=true) (hg:gv τ ops o=some false) (hd:o.dst=some t) (ht:t<N) (wg:∀c τ H,¬Q (.panic c) τ H)
 (h:AG P L O w0 N ops f X n (av.setIfInBounds i true) (aH τ t (.au [])) H Q):AG P L O w0 N ops f X (n+1) av τ H Q:=fun ρ fp a w bV=>by
 refine Qd (v:=undef) ho hs ke hr hb hc (fun c a w ⟨τ,H,_,_,_,q⟩=>absurd q (wg c τ H)) (.inr ⟨bV.wanted hg,rfl⟩) (l6.refl _ _ _ _) (h ρ fp _ w ?_)
 rw[hd]
 exact bV.put x_126 ht
theorem AG.st{f i:Nat}{X:Nat->Bool}{n:Nat}{av:Array Bool}{E:List Nat}(ho:ops[i]? = some o)(hr:Region.ready .any ops av=[i])(hs:St P o N τ H E τ' H')(hX:∀id∈E,X id=true)(hg:gv τ ops o=some true)
 (h:AG P L O w0 N ops f X n (av.setIfInBounds i true) τ' H' Q):AG P L O w0 N ops f X (n+1) av τ H Q:=fun ρ fp a w bV=>
 C0 ho hr fun K hK=>by
  rw[bV.wanted hg,if_pos rfl];refine hs.run bV (fun a' w' ci bH gU lI=>hK _ _ (fun _=>(lI X hX).1) (zp (fun W hW=>(lI X hX).vA hW) _ _ _ _ (h ci bH a' w' gU)))
theorem abA{f i:Nat}{X:Nat->Bool}{n:Nat}{av:Array Bool}{E:List Nat}{Z:(Nat->AV)->(Nat->AO)->Prop}(ho:ops[i]? = some o)(hr:Region.ready .any ops av=[i])(hs:wW P o N τ H E Z)(hX:∀id∈E,X id=true)(hg:gv τ ops o=some true)
 (h:∀τ' H',Z τ' H'->AG P L O w0 N ops f X n (av.setIfInBounds i true) τ' H' Q):AG P L O w0 N ops f X (n+1) av τ H Q:=fun ρ fp a w bV=>
 C0 ho hr fun K hK=>by
  rw[bV.wanted hg,if_pos rfl];refine hs.run bV (fun τ' H' a' w' ci bH hz gU lI=>hK _ _ (fun _=>(lI X hX).1) (zp (fun W hW=>(lI X hX).vA hW) _ _ _ _ (h τ' H' hz ci bH a' w' gU)))
theorem AG.last{f:Nat}{X:Nat->Bool}{n:Nat}{av:Array Bool}{E:List Nat}(ho:ops[f]? = some o)(hr:Region.ready .any ops av=[f])(lD:Region.ready .any ops (av.setIfInBounds f true)=[])(hs:St P o N τ H E τ' H')(hg:gv τ ops o=some true)
 (h:Q .normal τ' H'):AG P L O w0 N ops f X (n+1) av τ H Q:=fun ρ fp a w bV=>
 C0 ho hr fun K hK=>by
  rw[bV.wanted hg,if_pos rfl];exact hs.run bV (fun a' w' ci bH gU _=>hK _ _ (fun bO=>absurd rfl bO) (Pq lD ⟨τ',H',ci,bH,gU,h⟩ _))
theorem abB{f:Nat}{X X':Nat->Bool}{n:Nat}{av:Array Bool}(hX:∀id,X' id=true->X id=true)(h:AG P L O w0 N ops f X' n av τ H Q):AG P L O w0 N ops f X n av τ H Q:=fun ρ fp a w bV=>
 zp (fun W hW=>⟨hW.1,fun b hb hn=>hW.2 b hb (fun id q=>hn id (hX id q))⟩) _ _ _ _ (h ρ fp a w bV)
end

abbrev int(n:Int):AV:=.p (.v (.int .i64 n))
abbrev aD(b:Bool):AV:=.p (.v (.bool b))
def Fits(k:IntKind)(n:Int):Prop:=k.wrap n=n
theorem ce{n:Int}(h:i64 n):Fits .i64 n:=by grind[Fits,IntKind.wrap_i64,i64]
def AU(op:BinOp)(x y:AV):Option (Prop×AV):=
 match x,y with
 |.p (.v (.int k a)),.p (.v (.int k' b))=>
  match op with
  |.add=>some (k=k'/\Fits k (a+b),.p (.v (.int k (a+b))))
  |.sub=>some (k=k'/\Fits k (a-b),.p (.v (.int k (a-b))))
  |.mul=>some (k=k'/\Fits k (a*b),.p (.v (.int k (a*b))))
  |.quo=>some (k=k'/\b≠0/\Fits k (a.tdiv b),.p (.v (.int k (a.tdiv b))))
  |.rem=>some (k=k'/\b≠0,.p (.v (.int k (a.tmod b))))
  |.shl=>some (k=.i64/\0<=b/\b<=64/\Fits k (a*2 ^ b.toNat),.p (.v (.int k (a*2 ^ b.toNat))))
  |.shr=>some (k=.i64/\0<=b/\b<=64,.p (.v (.int k (a/2 ^ b.toNat))))
  |.or=>some (k=.i64/\k'=.i64/\0<=a/\a<2 ^ 62/\a%256=0/\0<=b/\b<256,.p (.v (.int k (a+b))))
  |.eql=>some (k=k',aD (decide (a=b)))
  |.neq=>some (k=k',aD (!decide (a=b)))
  |.lss=>some (k=k',aD (decide (a<b)))
  |.leq=>some (k=k',aD (decide (a<=b)))
  |.gtr=>some (k=k',aD (decide (b<a)))
  |.geq=>some (k=k',aD (decide (b<=a)))
  |_=>none
 |_,_=>none
def ER(op:UnOp)(x:AV):Option (Prop×AV):=
 match op,x with
 |.not,.p (.v (.bool b))=>some (True,aD (!b))
 |.neg,.p (.v (.int k a))=>some (Fits k (-a),.p (.v (.int k (-a))))
 |_,_=>none
def Qe(k:IntKind)(x:AV):Option AV:=
 match x with
 |.p (.v (.int _ a))=>some (.p (.v (.int k (k.wrap a))))
 |_=>none
def H9(H:Nat->AO)(x:AV):Option AV:=
 match x with
 |.p (.ab _ _ rows)=>some (int rows.length)
 |.p (.v (.slice _ n _))=>some (int n)
 |.own id=>match H id with
  |.ai _ _ rows=>some (int rows.length)
  |_=>none
 |.sub id _ k=>match H id with
  |.ai _ _ _=>some (int k)
  |_=>none
 |_=>none
def H8(x:AV)(k:Nat):Option AV:=
 match x with
 |.au l=>l[k]?
 |_=>none
def ur(n:Option Nat)(cells:List AV):Option AV:=
 match n with
 |none=>cells[0]?
 |some n=>if n<=cells.length then some (.agg (cells.take n))else none
def Ml(mx:Bool)(x y:AV):Option AV:=
 match x,y with
 |.p (.v (.int k a)),.p (.v (.int _ b))=>some (.p (.v (.int k (if mx then max a b else min a b))))
 |_,_=>none
def H7(c a b:AV):Option AV:=
 match c with
 |.p (.v (.bool t))=>some (match t with|true=>a|false=>b)
 |_=>none
def o0:AV->Option (List AV)
 |.agg l=>if l.all AV.cell=true then some l else none
 |.au _|.bad=>none
 |x=>some [x]
def Ax:List AV->List (Nat×Nat×AV)->Option (List AV)
 |cs,[]=>some cs
 |cs,(off,n,x)::r=>match o0 x with
  |some l=>if l.length=n/\off+n<=cs.length then Ax (cs.take off++l++cs.drop (off+n)) r else none
  |none=>none
def dq(P:Program)(t:TypeId):Option (Option Nat):=
 match P.underlying t with
 |some (.struct _)=>some (some (P.cellsOf t))
 |some (.array _ _)=>none
 |some _=>some none
 |none=>none
def zk(P:Program)(T:TypeId)(k:Nat):Option (Nat×TypeId):=
 match P.underlying T with
 |some (.struct fs)=>(fs[k]?).map fun f=>(f.offset,f.type)
 |_=>none
def intKind(P:Program)(t:TypeId):Option IntKind:=
 match P.underlying t with
 |some (.int k)=>some k
 |_=>none
def isSlice(P:Program)(t:TypeId):Bool:=
 match P.underlying t with
 |some (.slice _)=>true
 |_=>false
section
variable {P:Program}{o:Oper}{τ:Nat->AV}{H:Nat->AO}{X:Nat->Bool}
theorem Rd.pure{x:AV}(h:∀ {L:Nat->Prop} {ρ:Nat->Value} {a:Act} {w:World},(∀y,RV L ρ H w (ev τ y) (a.eval y))->(∀id,∃fp,OB L ρ H w (ρ id) fp (H id))->∃c,RV L ρ H w x c/\∀W,(execOp a.eval o).run P W=.ok (.value c) W):Rd P o τ H X x:=
 ⟨fun hr=>let ⟨c,V,h2⟩:=h (fun y=>hr.ev y) (fun id=>⟨_,hr.ob id⟩);⟨c,V,fun W _=>h2 W⟩⟩
theorem Xy{x:Operand}(ho:o.op=.move x\/o.op=.assign x):Rd P o τ H X (ev τ x):=by
 refine Rd.pure fun{L ρ a w} he _=>⟨a.eval x,he x,fun W=>?_⟩;rcases ho with ho|ho<;>simp[execOp,ho]
theorem ku{c x y:Operand}{r:AV}(ho:o.op=.pick c x y)(h:H7 (ev τ c) (ev τ x) (ev τ y)=some r):Rd P o τ H X r:=by
 apply Rd.pure;intro L ρ a w he _;have hc:=he c;generalize ev τ c=vc at *;unfold H7 at h;split at h
 ·rename_i t;injection h with h;subst h;have e:=hc.gd;cases t
  ·exact⟨a.eval y,he y,fun W=>by simp[execOp,ho,e,asBool]⟩
  exact⟨a.eval x,he x,fun W=>by simp[execOp,ho,e,asBool]⟩
 grind
theorem x_2{p:Prop}(c:p:=by omega):p:=c
theorem Mc{a b:Int}(p1:0<=a)(p2:a<2 ^ 62)(p3:a%256=0)(p4:0<=b)(p5:b<256):IntKind.i64.wrap (((a%2 ^ IntKind.i64.bits).toNat ||| (b%2 ^ IntKind.i64.bits).toNat:Nat):Int)=a+b:=by
 have e:IntKind.i64.bits=64:=rfl;rw[e];obtain⟨m,rfl⟩:∃m:Nat,a=((2 ^ 8*m:Nat):Int):=⟨(a/256).toNat,by omega⟩;obtain⟨n,rfl⟩:∃n:Nat,b=(n:Int):=⟨b.toNat,by omega⟩;have V:(((2 ^ 8*m:Nat):Int)%2 ^ 64).toNat=2 ^ 8*m:=by omega
 have h2:((n:Int)%2 ^ 64).toNat=n:=by omega
 rw[V,h2,<-Nat.two_pow_add_eq_or_of_lt (i:=8) (b:=n) x_2 m,IntKind.wrap_i64];omega
theorem x_112{p:Prop}(c:p:=by exact ⟨_,fX rfl,fun W=>by unfold Fits at hp;simp[eqGuard,binOp,Op.intArith,hp]⟩):p:=c
theorem aan{L:Nat->Prop}{ρ:Nat->Value}{w:World}{op:BinOp}{T:TypeId}{x y:Operand}{vx vy:AV}{cx cy:Value}{pre:Prop}{r:AV}(h:AU op vx vy=some (pre,r))(hp:pre)(hx:RV L ρ H w vx cx)(hy:RV L ρ H w vy cy) :
 ∃c,RV L ρ H w r c/\∀W,(do eqGuard op T x y cx cy;binOp op T cx cy:Sem Value).run P W=.ok c W:=by
 unfold AU at h
 split at h
 ·rw[hx.gd,hy.gd]
  cases op<;>first|(cases h;done)|skip
  all_goals
   injection h with h
   injection h with V h2
   subst V h2
  case add=>obtain⟨rfl,hp⟩:=hp;exact x_112
  case sub=>obtain⟨rfl,hp⟩:=hp;exact x_112
  case mul=>obtain⟨rfl,hp⟩:=hp;exact x_112
  case quo=>obtain⟨rfl,hb,hp⟩:=hp;exact⟨_,fX rfl,fun W=>by unfold Fits at hp;simp[eqGuard,binOp,Op.intDiv,hb,hp]⟩
  case rem=>obtain⟨rfl,hb⟩:=hp;exact⟨_,fX rfl,fun W=>by simp[eqGuard,binOp,Op.intDiv,hb]⟩
  case shl k a k' b=>
   obtain⟨rfl,p1,p2,p3⟩:=hp
   have q1:¬b<0:=by omega
   have q2:min b.toNat 64=b.toNat:=by omega
   exact⟨_,fX rfl,fun W=>by unfold Fits at p3;simp[eqGuard,binOp,Op.shift,q1,IntKind.bits,q2,p3]⟩
  case shr k a k' b=>
   obtain⟨rfl,p1,p2⟩:=hp
   have q1:¬b<0:=by omega
   have q2:min b.toNat 64=b.toNat:=by omega
   exact⟨_,fX rfl,fun W=>by simp[eqGuard,binOp,Op.shift,q1,IntKind.bits,q2]⟩
  case or k a k' b=>
   obtain⟨rfl,rfl,p1,p2,p3,p4,p5⟩:=hp
   refine⟨_,fX rfl,fun W=>?_⟩
   have:=Mc p1 p2 p3 p4 p5
   simp[eqGuard,binOp,Op.intBits,this]
  case eql=>subst hp;exact⟨_,fX rfl,fun W=>by first|(simp[eqGuard,binOp,Op.intCmp];done)|(simp[eqGuard,binOp,Op.intCmp];rfl)⟩
  case neq=>subst hp;exact⟨_,fX rfl,fun W=>by first|(simp[eqGuard,binOp,Op.intCmp];done)|(simp[eqGuard,binOp,Op.intCmp];rfl)⟩
  case lss=>subst hp;exact⟨_,fX rfl,fun W=>by first|(simp[eqGuard,binOp,Op.intCmp];done)|(simp[eqGuard,binOp,Op.intCmp];rfl)⟩
  case leq=>subst hp;exact⟨_,fX rfl,fun W=>by first|(simp[eqGuard,binOp,Op.intCmp];done)|(simp[eqGuard,binOp,Op.intCmp];rfl)⟩
  case gtr=>subst hp;exact⟨_,fX rfl,fun W=>by first|(simp[eqGuard,binOp,Op.intCmp];done)|(simp[eqGuard,binOp,Op.intCmp];rfl)⟩
  case geq=>subst hp;exact⟨_,fX rfl,fun W=>by first|(simp[eqGuard,binOp,Op.intCmp];done)|(simp[eqGuard,binOp,Op.intCmp];rfl)⟩
 grind
theorem pY{op:BinOp}{T yT:TypeId}{x y:Operand}{pre:Prop}{r:AV}(ho:o.op=.binOp op T x y yT)(h:AU op (ev τ x) (ev τ y)=some (pre,r))(hp:pre):Rd P o τ H X r:=by
 apply Rd.pure;intro L ρ a w he _;obtain⟨c,V,h2⟩:=aan (P:=P) (T:=T) (x:=x) (y:=y) h hp (he x) (he y);refine⟨c,V,fun W=>?_⟩;have:execOp a.eval o=(do let v <-(do eqGuard op T x y (a.eval x) (a.eval y);binOp op T (a.eval x) (a.eval y));pure (.value v)):=by simp only[execOp,ho]
 rw[this,Sem.run_bind,h2];rfl
theorem il{op:UnOp}{T:TypeId}{x:Operand}{pre:Prop}{r:AV}(ho:o.op=.unOp op T x)(h:ER op (ev τ x)=some (pre,r))(hp:pre):Rd P o τ H X r:=by
 apply Rd.pure;intro L ρ a w he _;have hx:=he x;generalize ev τ x=vx at *;unfold ER at h;split at h;case h_3=>cases h
 all_goals
  injection h with h
  injection h with V h2
  subst V h2
  have ex:=hx.gd
  refine⟨_,fX rfl,fun W=>?_⟩
 all_goals simp_all[execOp,Op.unary,Fits,Op.intArith]
theorem me{s d:TypeId}{x:Operand}{k k':IntKind}{r:AV}(ho:o.op=.convert s d x)(hs:intKind P s=some k')(hd:intKind P d=some k)(h:Qe k (ev τ x)=some r):Rd P o τ H X r:=by
 have ot:P.underlying s=some (.int k'):=by unfold intKind at hs;split at hs<;>simp_all
 have I4:P.underlying d=some (.int k):=by unfold intKind at hd;split at hd<;>simp_all
 apply Rd.pure;intro L ρ a w he _;have hx:=he x;generalize ev τ x=vx at *;unfold Qe at h;split at h
 ·injection h with h;subst h;have ex:=hx.gd;refine⟨_,fX rfl,fun W=>?_⟩;simp[execOp,ho,ex,convert,run_underlying ot,run_underlying I4,Conv.intToInt]
 grind
theorem Vg{x:Operand}{k:Nat}{r:AV}(ho:o.op=.extract x k)(h:H8 (ev τ x) k=some r):Rd P o τ H X r:=by
 apply Rd.pure;intro L ρ a w he _;have hx:=he x;generalize ev τ x=vx at *;unfold H8 at h;split at h
 ·rw[RV]at hx;obtain⟨cs,e,hl⟩:=hx;obtain⟨u,k1,k2⟩:=Co hl h;refine⟨u,k2,fun W=>?_⟩;simp[execOp,ho,e,Instr.extract,k1]
 grind
theorem aao{L:Nat->Prop}{ρ:Nat->Value}{w:World}{fp:List Nat}{v:Value}{e:ga}{sz:Nat}{rows:List (List PV)}(h:OB L ρ H w v fp (.ai e sz rows)):∃b c,v=.slice b rows.length c:=by
 obtain⟨xs,fr,_,_,jE,_⟩:=h;rcases jE.2 with⟨q,q2⟩|⟨g,cap,cur,q,_⟩;all_goals grind
theorem x7{x:Operand}{t:TypeId}{r:AV}(ho:o.op=.call { callee:=.builtin .len,args:=#[x],argTypes:=#[t] })(ht:isSlice P t=true)(h:H9 H (ev τ x)=some r):Rd P o τ H X r:=by
 have hse:P.underlying t=some (.slice (P.elem t)):=by
  unfold isSlice at ht;split at ht
  ·rename_i e q;simp[Program.elem,q]
  cases ht
 apply Rd.pure;intro L ρ a w he bY;have hx:=he x;have base:∀b n cp,a.eval x=.slice b n cp->∃c,RV L ρ H w (int n) c/\∀W,(execOp a.eval o).run P W=.ok (.value c) W:=fun b n cp V=>
  ⟨.int .i64 n,fX rfl,fun W=>by
    have:=run_len_slice W t o.type b n cp hse;simp[execOp,ho,resolve,invoke,builtin,V,this,goInt]⟩
 generalize hv:ev τ x=vx at *;unfold H9 at h;split at h
 ·rename_i e' s rows;injection h with h;subst h;rw[RV]at hx;obtain⟨fp,V,_⟩:=hx;rw[RW]at V;obtain⟨xs,f1,f2,V,h2,_⟩:=V;unfold iF at h2;simp only[Bool.false_eq_true,if_false]at h2;obtain⟨b,cap,e2,_⟩:=h2;exact base _ _ _ e2
 ·injection h with h;subst h;exact base _ _ _ hx.gd
 ·rename_i id;split at h
  ·rename_i e2 s2 rows hid;injection h with h;subst h;rw[RV]at hx;obtain⟨fp,hO⟩:=bY id;rw[hid]at hO;obtain⟨b,c,e4⟩:=aao hO;exact base _ _ _ ((hx.2 (by rw[hid];rfl)).trans e4)
  cases h
 ·rename_i id off k;split at h
  ·rename_i e2 s2 rows hid;injection h with h;subst h;rw[RV]at hx;obtain⟨_,b,c,e3,_⟩:=hx.2 (by rw[hid];rfl);exact base _ _ _ e3
  cases h
 grind
theorem LN{t:TypeId}{fs:Array Field}(ht:P.underlying t=some (.struct fs))(w:World):(isAgg t).run P w=.ok true w:=by simp[isAgg,run_underlying ht]
theorem N3{t:TypeId}{d:TypeDesc}(ht:P.underlying t=some d)(V:∀fs,d≠.struct fs)(h2:∀n e,d≠.array n e)(w:World):(isAgg t).run P w=.ok false w:=by
 simp_all[isAgg,run_underlying]
theorem B3{t:TypeId}{d:TypeDesc}(ht:P.underlying t=some d)(w:World):(sizeOf t).run P w=.ok (P.cellsOf t) w:=by
 unfold Program.underlying at ht;cases hi:P.info? t with
 |none=>grind
 |some i=>simp[sizeOf,typeInfo,hi,Program.cellsOf]
theorem aap{t:TypeId}{n:Nat}(h:dq P t=some (some n)):(∀w,(isAgg t).run P w=.ok true w)/\(∀w,(sizeOf t).run P w=.ok n w):=by
 grind[dq,LN,B3]
theorem aaq{t:TypeId}(h:dq P t=some none):(∀w,(isAgg t).run P w=.ok false w)/\∃d,P.underlying t=some d:=by
 grind[dq,N3]
theorem Mz{L:Nat->Prop}{ρ:Nat->Value}{w:World}{t:TypeId}{n:Option Nat}(hk:dq P t=some n){b off:Nat}{cs:List Value}{l:List AV}{r:AV}(hl:bf L ρ H w l cs)(h:ur n l=some r) :
 ∃c,RV L ρ H w r c/\∀W,jo W b off cs->(Instr.loadAt t (.pointer (some ⟨b,off,none⟩))).run P W=.ok c W:=by
 cases n with
 |some n=>
  obtain⟨k1,k2⟩:=aap hk
  unfold ur at h
  dsimp only at h
  split at h
  ·rename_i hle
   injection h with h
   subst h
   have rl:=bf.length hl
   refine⟨.agg (cs.take n).toArray,by rw[RV];exact⟨_,rfl,bf.take _ hl⟩,fun W hc=>?_⟩
   have V:=run_loadCells_list (P:=P) W ⟨b,off,none⟩ (cs.take n) (fun j v hj=>by
    have e:(⟨b,off,none⟩:Addr).add j=⟨b,off+j,none⟩:=by unfold Addr.add;split<;>simp_all
    rw[e];rw[List.getElem?_take]at hj;split at hj
    ·exact hc j v hj
    cases hj)
   rw[List.length_take,Nat.min_eq_left x_2]at V
   simp only[Instr.loadAt,Instr.sureAddr,loadVar,Sem.run_bind,Sem.run_pure,Result.andThen_ok,k1,if_true,k2,V]
  grind
 |none=>
  obtain⟨k1,_⟩:=aaq hk
  unfold ur at h
  dsimp only at h
  obtain⟨u,q1,q2⟩:=Co hl h
  refine⟨u,q2,fun W hc=>?_⟩
  have k3:=hc 0 u q1
  simp_all[Instr.loadAt,Instr.sureAddr,loadVar]
theorem JG{L:Nat->Prop}{ρ:Nat->Value}{w:World}:∀ {l:List PV} {cs:List Value} {fp:List Nat},bP w false l cs fp->(∀b∈fp,¬live L ρ H b)->bf L ρ H w (l.map AV.p) cs
 |[],cs,fp,h,_=>by grind[bP,bf]
 |x::xs,cs,fp,h,hl=>by
  rw[bP]at h;obtain⟨c,r,f1,f2,rfl,rfl,V,h2⟩:=h;rw[List.map_cons,bf];exact⟨c,r,rfl,by grind[RV],JG h2 (fun b hb=>hl b (by simp[hb]))⟩
theorem jo.drop{w:World}{b off:Nat}{cs:List Value}(h:jo w b off cs)(k:Nat):jo w b (off+k) (cs.drop k):=fun j v hj=>by
 rw[List.getElem?_drop]at hj;rw[Nat.add_assoc];exact h (k+j) v hj
theorem jo.Hp{w:World}{b off:Nat}{c1 cr c2:List Value}(h:jo w b off (c1++cr++c2)){i:Nat}(hi:c1.length=i):jo w b (off+i) cr:=fun j v hj=>by
 rw[Nat.add_assoc];refine h (i+j) v ?_;grind
theorem jo.aar{w W:World}{b off:Nat}{cs:List Value}(h:jo w b off cs)(hb:W.heap[b]? = w.heap[b]?):jo W b off cs:=fun j v hj=>by
 rw[World.cell?_of_block (w:=w) (a:=⟨b,off+j,none⟩) hb];exact h j v hj
theorem JH{t:TypeId}{x:Operand}{n:Option Nat}{l:List AV}{r:AV}(ho:o.op=.load t x)(hk:dq P t=some n)(h2:ur n l=some r)
 (h:∀ {L O:Nat->Prop} {w0:World} {N:Nat} {ρ:Nat->Value} {fp:Nat->List Nat} {a:Act} {w:World},RR L O w0 N τ H ρ fp a w->∃b off cs,a.eval x=.pointer (some ⟨b,off,none⟩)/\jo w b off cs/\bf L ρ H w l cs/\b<w.heap.size/\∀id,X id=true->(H id).here=true->(ρ id).ownBlock≠some b):Rd P o τ H X r:=by
 refine⟨fun{L O w0 N ρ fp a w} hr=>?_⟩
 obtain⟨b,off,cs,e,hc,hl,hb,hx⟩:=h hr
 obtain⟨c,k1,k2⟩:=Mz (b:=b) (off:=off) hk hl h2
 refine⟨c,k1,fun W hW=>?_⟩
 have:=k2 W (hc.aar (hW.2 b hb hx))
 simp_all[execOp]
theorem Vk{t:TypeId}{x:Operand}{n:Option Nat}{cells:List PV}{r:AV}(ho:o.op=.load t x)(hk:dq P t=some n)(hx:ev τ x=.rp cells)(h2:ur n (cells.map AV.p)=some r):Rd P o τ H X r:=
 JH ho hk h2 fun hr=>by
  have h:=hr.ev x;rw[hx,RV]at h;obtain⟨b,off,cs,fp,e,V,h2,h3,h4,h5⟩:=h;exact⟨b,off,cs,e,h2,JG V h5,h3,fun id _ q1 q2=>h4 (.inr ⟨id,q1,q2⟩)⟩
theorem AD{ρ:Nat->Value}{w:World}{fp:List Nat}{id:Nat}{g m cap:Nat}{e:TypeId}{sz n:Nat}{xs:List Value}(h:w.ownsRow 0 e sz (ρ id) n xs)(hg:ρ id=.slice (some ⟨g,0,none⟩) m cap):jo w g 0 xs/\g<w.heap.size:=by
 rw[hg]at h;have hm:m=n:=by
  rcases h.2 with⟨q,_⟩|⟨g',uh,cur,q,_⟩
  ·cases q
  grind
 subst hm;exact⟨vl h,(h.lt g rfl).2⟩
theorem x_122{p:Prop}(c:p:=by rw[hH];rfl):p:=c
theorem sC{t:TypeId}{x:Operand}{n:Option Nat}{id k:Nat}{T:TypeId}{p:Option Value}{cells:List AV}{r:AV}(ho:o.op=.load t x)(hk:dq P t=some n)(hx:ev τ x=.ptr id 0 k)(hH:H id=.box T p cells)(hX:X id=false)(h2:ur n (cells.drop k)=some r):Rd P o τ H X r:=
 JH ho hk h2 fun{L O w0 N ρ fp a w} hr=>by
  have h:=hr.ev x;rw[hx,RV]at h;obtain⟨_,g,m,cap,hg,e⟩:=h.2 x_122;have bY:=hr.ob id;rw[hH]at bY;obtain⟨xs,k1,k2,k3,k4,_⟩:=bY;obtain⟨hc,eI⟩:=AD (fp:=fp id) k3 hg;refine⟨g,0+k,xs.drop k,by grind,hc.drop k,bf.drop k k1,eI,fun j hj q1 q2=>?_⟩;have bO:j≠id:=fun q=>by grind
  exact hr.dj j id bO g ((hr.ob j).top q1 q2) (by grind[Value.ownBlock])
theorem dT{t:TypeId}{x:Operand}{n:Option Nat}{id i k:Nat}{e:ga}{sz:Nat}{rows:List (List PV)}{row:List PV}{r:AV}(ho:o.op=.load t x)(hk:dq P t=some n)(hx:ev τ x=.ptr id i k)(hH:H id=.ai e sz rows)(hX:X id=false)
 (um:rows[i]? = some row) (h2:ur n ((row.drop k).map AV.p)=some r):Rd P o τ H X r:=
 JH ho hk h2 fun{L O w0 N ρ fp a w} hr=>by
  have h:=hr.ev x;rw[hx,RV]at h;obtain⟨_,g,m,cap,hg,e⟩:=h.2 x_122;have bY:=hr.ob id;rw[hH]at bY e;obtain⟨xs,fr,k1,k2,k3,k4,_⟩:=bY;obtain⟨hc,eI⟩:=AD (fp:=fp id) k3 hg;obtain⟨c1,cr,c2,f1,f2,f3,e1,e2,e3,e4,e5,_⟩:=bI.row k1 um;rw[e1]at hc;have Cj:=(hc.Hp e3).drop k;obtain⟨fd,d1,d2⟩:=bP.drop k e5;refine⟨g,0+i*sz+k,cr.drop k,by grind[AO.sz],Cj,JG d1 (fun b hb=>k2 b x_14),eI,fun j hj q1 q2=>?_⟩;have bO:j≠id:=fun q=>by grind
  exact hr.dj j id bO g ((hr.ob j).top q1 q2) (by grind[Value.ownBlock])
theorem Fi{t:TypeId}{x:Operand}{k off:Nat}{ft:TypeId}{a:Act}(ho:o.op=.fieldAddr t x k)(hf:zk P t k=some (off,ft))(h0:P.cellsOf ft≠0)(hd:(P.underlying ft).isSome=true){b c:Nat}(e:a.eval x=.pointer (some ⟨b,c,none⟩))(W:World):(execOp a.eval o).run P W=.ok (.value (.pointer (some ⟨b,c+off,none⟩))) W:=by
 unfold zk at hf;split at hf;case h_2=>cases hf
 rename_i fs ht;cases hfk:fs[k]? with
 |none=>grind
 |some f=>
  rw[hfk]at hf;simp only[Option.map_some,Option.some.injEq,Prod.mk.injEq]at hf;obtain⟨rfl,rfl⟩:=hf;obtain⟨d,hd⟩:=Option.isSome_iff_exists.1 hd;have ea:(⟨b,c,none⟩:Addr).add f.offset=⟨b,c+f.offset,none⟩:=by unfold Addr.add;split<;>simp_all
  simp only[execOp,ho,Instr.fieldAt,Sem.run_bind,run_underlying ht,Result.andThen_ok,hfk,e,Instr.sureAddr,Sem.run_pure,fieldPlace,B3 hd,h0,if_false,ea]
theorem U7{t:TypeId}{x:Operand}{k off:Nat}{ft:TypeId}{cells:List PV}(ho:o.op=.fieldAddr t x k)(hf:zk P t k=some (off,ft))(h0:P.cellsOf ft≠0)(hd:(P.underlying ft).isSome=true)(hx:ev τ x=.rp cells):Rd P o τ H X (.rp (cells.drop off)):=by
 apply Rd.pure;intro L ρ a w he _;have h:=he x;rw[hx,RV]at h;obtain⟨b,c,cs,fp,e,p1,p2,p3,p4,p5⟩:=h;obtain⟨f2,q1,q2⟩:=bP.drop off p1;exact⟨_,by rw[RV];exact⟨b,_,_,f2,rfl,q1,p2.drop off,p3,p4,fun b hb=>p5 b (q2 hb)⟩,Fi ho hf h0 hd e⟩
theorem Vn{t:TypeId}{x:Operand}{k off:Nat}{ft:TypeId}{id i j:Nat}(ho:o.op=.fieldAddr t x k)(hf:zk P t k=some (off,ft))(h0:P.cellsOf ft≠0)(hd:(P.underlying ft).isSome=true)(hx:ev τ x=.ptr id i j)(hH:(H id).here=true):Rd P o τ H X (.ptr id i (j+off)):=by
 apply Rd.pure;intro L ρ a w he _;have h:=he x;rw[hx,RV]at h;obtain⟨p1,g,m,cap,p2,p3⟩:=h.2 hH;refine⟨_,?_,Fi ho hf h0 hd p3⟩;rw[RV];exact⟨rfl,fun _=>⟨p1,g,m,cap,p2,by simp⟩⟩
theorem x_99{p:Prop}(c:p:=by exact ⟨by omega,by omega⟩):p:=c
theorem Mk{t e:TypeId}{x y:Operand}{a:Act}{k:IntKind}{sz n i:Nat}{b off cap:Nat}{d:TypeDesc}(ho:o.op=.indexAddr t x y)(ht:P.underlying t=some (.slice e))(hd:P.underlying e=some d)(gR:P.cellsOf e=sz)
 (e1:a.eval x=.slice (some ⟨b,off,none⟩) n cap) (e2:a.eval y=.int k i) (hi:i<n) (W:World):(execOp a.eval o).run P W=.ok (.value (.pointer (some ⟨b,off+i*sz,none⟩))) W:=by
 have ea:(⟨b,off,none⟩:Addr).add (i*sz)=⟨b,off+i*sz,none⟩:=by unfold Addr.add;split<;>simp_all
 have hle:(0:Int)<=(i:Int)/\(i:Int)<(n:Int):=x_99
 simp only[execOp,ho,Instr.indexAt,Sem.run_bind,e2,asIntOf,Sem.run_pure,Result.andThen_ok,run_underlying ht,e1,hle,and_self,if_true,Int.toNat_natCast,B3 hd,gR,ea]
end
end Go.Proofs.YtflhgkmhmcfimaaGreat

