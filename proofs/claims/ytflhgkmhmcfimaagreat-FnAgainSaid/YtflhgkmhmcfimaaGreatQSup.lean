/- Texts joined: Sup, Dat, Sup2. -/
import Derived.WalkKit
import Derived.ProofKit
import Derived.WalkSpells
import Derived.Lib.Hide
import Derived.Carry
import Derived.Deep.LoopGhost
import Derived.Deep.QuietTactic
import Derived.BigQuiet
import Derived.StillTailTactics
namespace Go.Proofs.YtflhgkmhmcfimaaGreat
set_option maxRecDepth 100000
open Go.RowKit
def i64(n:Int):Prop:=-9223372036854775808<=n/\n<=9223372036854775807
def iH(lo hi:Nat)(w w':World):Prop:=∀k,lo<=k->k<hi->w'.heap[k]? = w.heap[k]?
theorem iH.refl(lo hi:Nat)(w:World):iH lo hi w w:=fun _ _ _=>rfl
theorem iH.trans{lo hi:Nat}{a b c:World}(h:iH lo hi a b)(k:iH lo hi b c):iH lo hi a c:=fun i V h2=>(k i V h2).trans (h i V h2)
theorem iH.mono{lo hi kq hU:Nat}{a b:World}(h:iH lo hi a b)(V:lo<=kq)(h2:hU<=hi):iH kq hU a b:=fun i k1 k2=>h i (Nat.le_trans V k1) (Nat.lt_of_lt_of_le k2 h2)
theorem iH.below{B lo hi:Nat}{w w':World}(h:Below B w w')(hB:hi<=B):iH lo hi w w':=fun k _ hk=>h.block k (Nat.lt_of_lt_of_le hk hB)
theorem iH.cell{lo hi:Nat}{w w':World}(h:iH lo hi w w'){b o:Nat}{v:Value}(V:lo<=b)(h2:b<hi)(hc:w.cell? ⟨b,o,none⟩=some v):w'.cell? ⟨b,o,none⟩=some v:=by
 rw[World.cell?_of_block (w:=w) (h b V h2)];exact hc
def jo(w:World)(b off:Nat)(cs:List Value):Prop:=∀j v,cs[j]? = some v->w.cell? ⟨b,off+j,none⟩=some v
theorem jo.same{lo hi:Nat}{w w':World}(h:iH lo hi w w'){b off:Nat}{cs:List Value}(V:lo<=b)(h2:b<hi)(hc:jo w b off cs):jo w' b off cs:=
 fun j v hj=>h.cell V h2 (hc j v hj)
section
variable {α:Type}
def uF(sz:Nat)(dg:World->Nat->Nat->List Value->α->Prop)(w:World)(lo hi b off:Nat)(xs:List α):Prop:=
 ∀i (h:i<xs.length),∃cs,dg w lo hi cs xs[i]/\jo w b (off+i*sz) cs
def dd(sz:Nat)(dg:World->Nat->Nat->List Value->α->Prop)(w:World)(lo hi:Nat)(v:Value)(xs:List α):Prop:=
 ∃a cap,v=.slice a xs.length cap/\xs.length<=cap/\cap<=maxLen/\(xs=[]\/∃b off,a=some ⟨b,off,none⟩/\lo<=b/\b<hi/\uF sz dg w lo hi b off xs)
def Dg(dg:World->Nat->Nat->List Value->α->Prop):Prop:=
 ∀w w' lo hi kq hU cs x,iH lo hi w w'->kq<=lo->hi<=hU->dg w lo hi cs x->dg w' kq hU cs x
theorem uF.FI{sz:Nat}{dg:World->Nat->Nat->List Value->α->Prop}(dM:Dg dg){w w':World}{lo hi kq hU b off:Nat}{xs:List α}
 (hs:iH lo hi w w') (hl:kq<=lo) (hh:hi<=hU) (lG:lo<=b) (kA:b<hi) (h:uF sz dg w lo hi b off xs):uF sz dg w' kq hU b off xs:=
 fun i hi=>let ⟨cs,hr,hc⟩:=h i hi;⟨cs,dM _ _ _ _ _ _ _ _ hs hl hh hr,hc.same hs lG kA⟩
theorem uF.same{sz:Nat}{dg:World->Nat->Nat->List Value->α->Prop}(dM:Dg dg){w w':World}{lo hi b off:Nat}{xs:List α}
 (h:uF sz dg w lo hi b off xs) (hs:iH lo hi w w') (lG:lo<=b) (kA:b<hi):uF sz dg w' lo hi b off xs:=h.FI dM hs (Nat.le_refl _) (Nat.le_refl _) lG kA
theorem dd.FI{sz:Nat}{dg:World->Nat->Nat->List Value->α->Prop}(dM:Dg dg){w w':World}{lo hi kq hU:Nat}{v:Value}{xs:List α}
 (hs:iH lo hi w w') (hl:kq<=lo) (hh:hi<=hU) (h:dd sz dg w lo hi v xs):dd sz dg w' kq hU v xs:=by
 obtain⟨a,cap,rfl,V,h2,h3⟩:=h
 refine⟨a,cap,rfl,V,h2,?_⟩
 rcases h3 with h3|⟨b,off,rfl,lG,kA,h3⟩
 ·exact .inl h3
 exact .inr ⟨b,off,rfl,Nat.le_trans hl lG,Nat.lt_of_lt_of_le kA hh,h3.FI dM hs hl hh lG kA⟩
theorem dd.same{sz:Nat}{dg:World->Nat->Nat->List Value->α->Prop}(dM:Dg dg){w w':World}{lo hi:Nat}{v:Value}{xs:List α}
 (h:dd sz dg w lo hi v xs) (hs:iH lo hi w w'):dd sz dg w' lo hi v xs:=h.FI dM hs (Nat.le_refl _) (Nat.le_refl _)
theorem dd.below{sz:Nat}{dg:World->Nat->Nat->List Value->α->Prop}(dM:Dg dg){w w':World}{lo hi B:Nat}{v:Value}{xs:List α}
 (h:dd sz dg w lo hi v xs) (hs:Below B w w') (hB:hi<=B):dd sz dg w' lo hi v xs:=h.same dM (iH.below hs hB)
theorem dd.nil{sz:Nat}{dg:World->Nat->Nat->List Value->α->Prop}{w:World}{lo hi:Nat}:dd sz dg w lo hi (.slice none 0 0) ([]:List α):=
 ⟨none,0,rfl,Nat.le_refl _,by simp[maxLen],.inl rfl⟩
theorem tG{H:Type}{enc:TypeId×Value->H}{P:Program}{w:World}{sp:Nat->Bool}{held:Bool}{t e:TypeId}{sz:Nat}{dg:World->Nat->Nat->List Value->α->Prop}
 (ht:P.underlying t=some (.slice e)) (gR:P.cellsOf e=sz) (wK:0<sz)
 (aas:∀cS cs x,DataW.trod enc P w 0 sp held cS e cs=some x->∃y:α,dg w 0 w.heap.size cs y)
 {cS:Nat} {v:Value} {x:DataW H×List MemPlace} (h:DataW.trod enc P w 0 sp held cS t [v]=some x):∃xs:List α,dd sz dg w 0 w.heap.size v xs:=by
 rcases DataW.trod_slice ht h with⟨hv,_⟩|⟨a,len,cap,JI,rest,n,_,hv,_,_,oF,hcap,hel,he,_⟩
 ·obtain rfl:v=.slice none 0 0:=by simpa using hv
  exact⟨[],dd.nil⟩
 obtain rfl:v=.slice (some a) len cap:=by simpa using hv
 rw[gR]at he
 have key:∀i,i<len->∃(y:α) (cs:List Value),dg w 0 w.heap.size cs y/\(∀j u,cs[j]? = some u->w.cell? ((a.add (i*sz)).add j)=some u)/\cs.length=sz:=by
  intro i hi;have V:=he i hi;have h2:JI[i]? = some JI[i]:=List.getElem?_eq_getElem (by omega);rw[h2]at V;cases hc:w.cells? 0 (a.add (i*sz)) sz with
  |none=>rw[hc]at V;simp at V
  |some cs=>
   rw[hc]at V;obtain⟨y,hy⟩:=aas _ _ _ V;unfold World.cells? at hc;rw[if_pos (Nat.zero_le _)]at hc;have hlen:=mapM_some_length hc;refine⟨y,cs,hy,fun j u hj=>?_,by simpa using hlen⟩;have qD:j<sz:=by
    have:=(List.getElem?_eq_some_iff.1 hj).1;simp at hlen;omega
   have:=mapM_some_get hc j j (by simp[qD]);rw[this,hj]
 by_cases hl:len=0
 ·subst hl
  exact⟨[],some a,cap,rfl,Nat.zero_le _,hcap,.inl rfl⟩
 obtain⟨y0,oC,_,cQ,dY⟩:=key 0 (by omega)
 have zJ:a.spot=none/\a.block<w.heap.size:=by
  have h0:oC[0]? = some oC[0]:=List.getElem?_eq_getElem (by omega);have:=cQ 0 _ h0;simp[Addr.add]at this;refine⟨?_,World.block_lt_of_cell? w a this⟩;unfold World.cell? at this;cases zJ:a.spot with
  |none=>rfl
  |some k=>simp[zJ]at this;split at this<;>simp at this
 obtain⟨b,off,sp'⟩:=a
 obtain⟨rfl,hb⟩:=zJ
 have hex:∀i:Fin len,∃y:α,∃(cs:List Value),dg w 0 w.heap.size cs y/\(∀j u,cs[j]? = some u->w.cell? (((⟨b,off,none⟩:Addr).add (i.1*sz)).add j)=some u)/\cs.length=sz:=
  fun i=>key i.1 i.2
 let f:Fin len->α:=fun i=>Classical.choose (hex i)
 have hf:∀i,_:=fun i=>Classical.choose_spec (hex i)
 refine⟨List.ofFn f,some ⟨b,off,none⟩,cap,by simp,by simpa using oF,hcap,.inr ⟨b,off,rfl,Nat.zero_le _,hb,?_⟩⟩
 intro i hi
 have hU:i<len:=by simpa using hi
 obtain⟨cs,hr,hc,_⟩:=hf ⟨i,hU⟩
 refine⟨cs,by simpa[f]using hr,fun j u hj=>?_⟩
 have:=hc j u hj
 have e:((⟨b,off,none⟩:Addr).add (i*sz)).add j=⟨b,off+i*sz+j,none⟩:=by
  unfold Addr.add;by_cases V:i*sz=0<;>by_cases h2:j=0<;>simp[V,h2]
 rw[e]at this
 exact this
end
def NF(lo hi:Nat)(w:World):Prop:=∀b o,lo<=b->b<hi->w.frozen? ⟨b,o,none⟩=false
theorem NF.same{lo hi:Nat}{w w':World}(h:NF lo hi w)(hs:iH lo hi w w'):NF lo hi w':=fun b o V h2=>by
 rw[World.frozen?_of_block (w:=w) (hs b V h2)];exact h b o V h2
theorem NF.mono{lo hi kq hU:Nat}{w:World}(h:NF lo hi w)(V:lo<=kq)(h2:hU<=hi):NF kq hU w:=fun b o k1 k2=>h b o (Nat.le_trans V k1) (Nat.lt_of_lt_of_le k2 h2)
structure cZ(w w':World):Prop where
 below:Below w.heap.size w w'
 nf:NF w.heap.size w'.heap.size w'
theorem cZ.refl(w:World):cZ w w:=⟨Below.refl _ _,fun _ _ V h2=>absurd h2 (by omega)⟩
theorem cZ.size{w w':World}(h:cZ w w'):w.heap.size<=w'.heap.size:=h.below.size
theorem cZ.trans{a b c:World}(h:cZ a b)(k:cZ b c):cZ a c:=
 ⟨h.below.trans (k.below.mono h.size),fun x o V h2=>by
   by_cases hx:x<b.heap.size
   ·rw[World.frozen?_of_block (w:=b) (k.below.block x hx)];exact h.nf x o V hx
   exact k.nf x o (by omega) h2⟩
theorem cZ.alloc{a w:World}(h:cZ a w)(c:Array Value)(T:TypeId):cZ a (w.alloc (.cells c T)):=
 ⟨h.below.alloc h.size _,fun x o V h2=>by
   rw[frozen?_alloc_cells];by_cases hx:x<w.heap.size
   ·exact h.nf x o V hx
   unfold World.frozen?;simp[Array.getElem?_eq_none (show w.heap.size<=x by omega)]⟩
theorem cZ.setCell{a w:World}(h:cZ a w){p:Addr}(hp:a.heap.size<=p.block)(u:Value):cZ a (w.setCell p u):=
 ⟨h.below.setCell hp u,fun x o V h2=>by
   rw[World.frozen?_setCell];exact h.nf x o V (by simpa[World.setCell]using h2)⟩
theorem cZ.drew{a w:World}(h:cZ a w):cZ a w.drew:=⟨h.below.drew,h.nf⟩
theorem cZ.drewN{a w:World}(h:cZ a w)(n:Nat):cZ a (w.drewN n):=⟨⟨h.below.os,h.below.tape,h.below.output,h.below.size,h.below.block⟩,h.nf⟩
theorem cZ.setCells{a:World}{g:Nat}(hp:a.heap.size<=g):∀(vs:List Value) (o:Nat) {w:World},cZ a w->cZ a (w.setCells g o vs)
 |[],_,_,h=>h
 |_::r,o,_,h=>cZ.setCells hp r (o+1) (h.setCell hp _)
theorem cZ.same{w w':World}(h:cZ w w'){lo hi:Nat}(hh:hi<=w.heap.size):iH lo hi w w':=iH.below h.below hh
structure xY(w:World)(g sz n k:Nat)(f:Nat->List Value):Prop where
 room:∀o,o<n*sz->(w.cell? ⟨g,o,none⟩).isSome=true
 held:∀i,i<k->jo w g (i*sz) (f i)
theorem xY.some{w:World}{g sz n k:Nat}{f:Nat->List Value}(h:xY w g sz n k f){i:Nat}(hi:i<n)(j:Nat)(hj:j<sz):∃u,w.cell? ⟨g,i*sz+j,none⟩=Option.some u:=by
 have h2:(i+1)*sz<=n*sz:=Nat.mul_le_mul_right _ (by omega);rw[Nat.add_mul]at h2;exact Option.isSome_iff_exists.1 (h.room _ (by omega))
theorem xY.same{lo hi:Nat}{w w':World}{g sz n k:Nat}{f:Nat->List Value}(h:xY w g sz n k f)(hs:iH lo hi w w')(V:lo<=g)(h2:g<hi):xY w' g sz n k f:=
 ⟨fun o ho=>by rw[World.cell?_of_block (w:=w) (hs g V h2)];exact h.room o ho,fun i hi=>(h.held i hi).same hs V h2⟩
theorem JJ{g:Nat}:∀(vs:List Value) (o:Nat) (w:World) (x:Nat),(∀j,j<vs.length->(w.cell? ⟨g,o+j,none⟩).isSome=true)->
 (w.setCells g o vs).cell? ⟨g,x,none⟩=if o<=x/\x<o+vs.length then vs[x-o]? else w.cell? ⟨g,x,none⟩
 |[],o,w,x,_=>by rw[if_neg (by simp)];rfl
 |v::r,o,w,x,h=>by
  have h0:(w.cell? ⟨g,o,none⟩).isSome=true:=h 0 (by simp);obtain⟨u,hu⟩:=Option.isSome_iff_exists.1 h0;have oY:(w.setCell ⟨g,o,none⟩ v).cell? ⟨g,o,none⟩=some v:=World.cell?_setCell_same w ⟨g,o,none⟩ v hu;have Qf:∀y,y≠o->(w.setCell ⟨g,o,none⟩ v).cell? ⟨g,y,none⟩=w.cell? ⟨g,y,none⟩:=fun y hy=>
   World.cell?_setCell_other w ⟨g,o,none⟩ ⟨g,y,none⟩ v (by intro e;injection e with _ e2;omega)
  have ih:=JJ r (o+1) (w.setCell ⟨g,o,none⟩ v) x (fun j hj=>by
   rw[Qf _ (by omega)];have:=h (j+1) (by simpa using hj);rw[show o+1+j=o+(j+1)from by omega];exact this)
  show ((w.setCell ⟨g,o,none⟩ v).setCells g (o+1) r).cell? ⟨g,x,none⟩=_;rw[ih];by_cases hx:x=o
  ·subst hx;rw[if_neg (by omega),if_pos (by simp),oY];simp
  by_cases xn:o+1<=x/\x<o+1+r.length
  ·rw[if_pos xn,if_pos (by simp only[List.length_cons];omega)];rw[show x-o=(x-(o+1))+1 from by omega];simp
  rw[if_neg xn,if_neg (by simp only[List.length_cons];omega),Qf _ hx]
theorem xY.store{w:World}{g sz n k:Nat}{f:Nat->List Value}(h:xY w g sz n k f)(hk:k<n)(hl:∀i,i<=k->(f i).length=sz):xY (w.setCells g (k*sz) (f k)) g sz n (k+1) f:=by
 have QN:=hl k (Nat.le_refl _);have r6:∀j,j<(f k).length->(w.cell? ⟨g,k*sz+j,none⟩).isSome=true:=fun j hj=>h.room _ (by
  have:(k+1)*sz<=n*sz:=Nat.mul_le_mul_right _ (by omega);rw[Nat.add_mul]at this;omega)
 refine⟨fun o ho=>?_,fun i hi j v hj=>?_⟩
 ·rw[JJ _ _ _ _ r6];split
  ·rw[List.getElem?_eq_getElem (by omega)];rfl
  exact h.room o ho
 rw[JJ _ _ _ _ r6];by_cases hik:i=k
 ·subst hik;have:=(List.getElem?_eq_some_iff.1 hj).1;rw[if_pos (by omega),show i*sz+j-i*sz=j from by omega];exact hj
 have aat:i<k:=by omega
 have h2:(i+1)*sz<=k*sz:=Nat.mul_le_mul_right _ (by omega);rw[Nat.add_mul]at h2;have ro:=(List.getElem?_eq_some_iff.1 hj).1;rw[hl i (by omega)]at ro;rw[if_neg (by omega)];exact h.held i aat j v hj
theorem iH.setCell{lo hi:Nat}{a w:World}(h:iH lo hi a w){p:Addr}(hp:p.block<lo\/hi<=p.block)(u:Value):iH lo hi a (w.setCell p u):=fun k V h2=>by
 rw[Below.heap_setCell _ _ _ _ (by omega)];exact h k V h2
theorem iH.alloc{lo hi:Nat}{a w:World}(h:iH lo hi a w)(hh:hi<=w.heap.size)(o:Obj):iH lo hi a (w.alloc o):=fun k V h2=>by
 rw[Below.heap_alloc _ _ _ (by omega)];exact h k V h2
theorem iH.drew{lo hi:Nat}{a w:World}(h:iH lo hi a w):iH lo hi a w.drew:=h
theorem Pk{H:Type}{enc:TypeId×Value->H}{P:Program}(hl:laidOutB P=true){W W':World}(hb:Below W.heap.size W W'):∀ {ts:List TypeId} {vs:List Value} {ds:List (DataW H)} {ps:List MemPlace},
 (∀t∈ts,P.readableRec t=true/\t<P.types.size)->DataW.TrodAll enc P W 0 (fun _=>true) true ts vs ds ps->
 DataW.TrodAll enc P W' 0 (fun b=>decide (b<W.heap.size)) true ts vs ds ps
 |[],[],[],_,_,h=>h
 |t::ts,v::vs,d::ds,ps,ht,h=>by
  have eI:=DataW.TrodAll.lt h;obtain⟨p,q,V,h2,rfl⟩:=h;exact⟨p,q,Below.trod hl (ht t (by simp)).1 (ht t (by simp)).2 V hb (fun x hx=>eI x (by simp[hx])),Pk hl hb (fun t' h'=>ht t' (by simp[h'])) h2,rfl⟩
 |[],_::_,_,_,_,h=>h.elim
 |[],[],_::_,_,_,h=>h.elim
 |_::_,[],_,_,_,h=>h.elim
 |_::_,_::_,[],_,_,h=>h.elim
def Bk(w:World)(g:Nat)(s:List Int):Prop:=∀j (h:j<s.length),w.cell? ⟨g,j,none⟩=some (.int .i64 s[j])
theorem Bk.set{w:World}{g:Nat}{s:List Int}(h:Bk w g s){i:Nat}(hi:i<s.length)(v:Int):Bk (w.setCell ⟨g,i,none⟩ (.int .i64 v)) g (s.set i v):=fun j hj=>by
 have qD:j<s.length:=by simpa using hj
 by_cases e:i=j
 ·subst e;rw[World.cell?_setCell_same w ⟨g,i,none⟩ _ (h i hi)];simp
 rw[World.cell?_setCell_other w ⟨g,i,none⟩ ⟨g,j,none⟩ _ (by intro e2;injection e2 with _ e3;exact e e3),h j qD];rw[List.getElem_set_ne e]
theorem Bk.same{lo hi:Nat}{w w':World}{g:Nat}{s:List Int}(h:Bk w g s)(hs:iH lo hi w w')(V:lo<=g)(h2:g<hi):Bk w' g s:=fun j hj=>hs.cell V h2 (h j hj)
end Go.Proofs.YtflhgkmhmcfimaaGreat
namespace Go.Proofs.YtflhgkmhmcfimaaGreat
set_option maxRecDepth 100000
open Go.RowKit
def kI(x:Int):List Value:=[.int .i64 x]
structure Acc where
 kind:Int
 ch:Int
structure aO where
 acc:Acc
 af:Int
def Bl(x:aO):Prop:=i64 (x.acc.kind)/\i64 (x.acc.ch)/\i64 (x.af)
def ct(x:aO):List Value:=[.int .i64 x.acc.kind,.int .i64 x.acc.ch,.int .i64 x.af]
structure dX where
 id:Int
 lines:List aO
structure cH where
 last:Int
 lines:List aO
def aaw(x:Int):List Value:=[.int .u8 x]
def yb(_:World)(_ _:Nat)(cs:List Value)(x:Int):Prop:=cs=aaw x/\(0<=x/\x<=255)
structure fb where
 seq:Int
 dP:Int
 body:List Int
structure Cell where
 bytes:List Int
structure gq where
 at_:Int
 bytes:List Int
structure du where
 cells:List Cell
 bu:List gq
structure aV where
 kind:Int
 key:Int
 ch:Int
 to:Int
 af:Int
 ay:Int
 yes:Bool
def l7(x:aV):Prop:=i64 (x.kind)/\i64 (x.key)/\i64 (x.ch)/\i64 (x.to)/\i64 (x.af)/\i64 (x.ay)
def fR(x:aV):List Value:=[.int .i64 x.kind,.int .i64 x.key,.int .i64 x.ch,.int .i64 x.to,.int .i64 x.af,.int .i64 x.ay,.bool x.yes]
structure uW where
 bT:du
 next:Int
 dP:Int
structure be where
 id:Int
 size:Int
 loc:Int
 aC:Int
 base:Int
 br:Int
 cM:Int
def qn(x:be):Prop:=i64 (x.id)/\i64 (x.size)/\i64 (x.loc)/\i64 (x.aC)/\i64 (x.base)/\i64 (x.br)/\i64 (x.cM)
def aX(x:be):List Value:=[.int .i64 x.id,.int .i64 x.size,.int .i64 x.loc,.int .i64 x.aC,.int .i64 x.base,.int .i64 x.br,.int .i64 x.cM]
def wE(_:World)(_ _:Nat)(cs:List Value)(x:be):Prop:=cs=aX x/\qn x
structure eV where
 key:Int
 gh:Int
 out:Int
 cW:Int
 c9:Int
 kept:Bool
 jP:Int
def ue(x:eV):Prop:=i64 (x.key)/\i64 (x.gh)/\i64 (x.out)/\i64 (x.cW)/\i64 (x.c9)/\i64 (x.jP)
def go(x:eV):List Value:=[.int .i64 x.key,.int .i64 x.gh,.int .i64 x.out,.int .i64 x.cW,.int .i64 x.c9,.bool x.kept,.int .i64 x.jP]
def wF(_:World)(_ _:Nat)(cs:List Value)(x:eV):Prop:=cs=go x/\ue x
structure gz where
 key:Int
 fI:Int
 to:Int
 af:Int
 ay:Int
def vo(x:gz):Prop:=i64 (x.key)/\i64 (x.fI)/\i64 (x.to)/\i64 (x.af)/\i64 (x.ay)
def iX(x:gz):List Value:=[.int .i64 x.key,.int .i64 x.fI,.int .i64 x.to,.int .i64 x.af,.int .i64 x.ay]
def wG(_:World)(_ _:Nat)(cs:List Value)(x:gz):Prop:=cs=iX x/\vo x
structure aw where
 tick:Int
 next:Int
 aA:Int
 ag:List be
 an:List eV
 aq:List gz
structure mm where
 log:uW
 book:aw
 ia:cH
 wait:List aV
 f9:List aV
end Go.Proofs.YtflhgkmhmcfimaaGreat
namespace Go.Proofs.YtflhgkmhmcfimaaGreat
set_option maxRecDepth 100000
open Go.RowKit
theorem dd.JI{α:Type}{sz:Nat}{dg:World->Nat->Nat->List Value->α->Prop}{w:World}{lo hi n c:Nat}{a:Option Addr}{xs:List α}(h:dd sz dg w lo hi (.slice a n c) xs)(k:Nat)(hk:k<xs.length) :
 ∃b off,a=some ⟨b,off,none⟩/\lo<=b/\b<hi/\uF sz dg w lo hi b off xs:=by
 obtain⟨a_,c_,pk,_,_,h⟩:=h
 injection pk with q1 q2 q3
 subst q1
 rcases h with h0|h
 ·rw[h0]at hk;exact absurd hk (by simp)
 exact h
end Go.Proofs.YtflhgkmhmcfimaaGreat
