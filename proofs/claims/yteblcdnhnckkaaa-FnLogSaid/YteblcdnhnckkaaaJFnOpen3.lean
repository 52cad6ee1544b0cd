/- Texts of the proof of FnFnOpen, joined: E10, E11, E12, E13, E14, E15, E16, E17, E18, E19, E20. -/
import Derived.Test.YteblcdnhnckkaaaJFnOpen2
import Derived.Test.YteblcdnhnckkaaaKSup
import Derived.Laws.StructEq
namespace Go.Proofs.Yteblcdnhnckkaaa
open Go.RowKit
set_option linter.unusedSimpArgs false
set_option linter.unusedVariables false
mutual
def frz(id:Nat)(y:PV):AV→AV
 |.own j=>if j=id then .p y else .own j
 |.sub j off len=>if j=id then .dead else .sub j off len
 |.ptr j r c=>if j=id then .dead else .ptr j r c
 |.agg cs=>.agg (frzL id y cs)
 |.tup cs=>.tup (frzL id y cs)
 |.clo fn f cs=>.clo fn (frzL id y f) (frzL id y cs)
 |x=>x
def frzL(id:Nat)(y:PV):List AV→List AV
 |[]=>[]
 |x::xs=>frz id y x::frzL id y xs
end
def AO.frz(id:Nat)(y:PV):AO→AO
 |.box T p cells=>.box T p (frzL id y cells)
 |o=>o
theorem frzL_length(id:Nat)(y:PV):∀l,(frzL id y l).length=l.length
 |[]=>rfl
 |x::xs=>by rw[frzL,List.length_cons,frzL_length id y xs,List.length_cons]
theorem AO.frz_here(id:Nat)(y:PV)(o:AO):(o.frz id y).here=o.here:=by cases o<;>rfl
theorem AO.frz_len(id:Nat)(y:PV)(o:AO):(o.frz id y).len=o.len:=by cases o<;>rfl
theorem AO.frz_sz(id:Nat)(y:PV)(o:AO):(o.frz id y).sz=o.sz:=by
 cases o with
 |box T p cells=>exact frzL_length id y cells
 |_=>rfl
theorem frz_cell(id:Nat)(y:PV)(x:AV)(h:x.cell=true):(frz id y x).cell=true:=by
 cases x<;>simp only[AV.cell,Bool.false_eq_true]at h<;>simp only[frz]
 all_goals first|rfl|(split<;>rfl)
theorem frzL_cell(id:Nat)(y:PV):∀(l:List AV),(∀x∈l,x.cell=true)→∀x∈frzL id y l,x.cell=true
 |[],h=>h
 |z::l,h=>by
  rw[frzL]
  intro x hx
  rcases List.mem_cons.1 hx with rfl|hx
  ·exact frz_cell id y z (h z (by simp))
  ·exact frzL_cell id y l (fun u hu=>h u (by simp[hu])) x hx
structure Frz(id:Nat)(y:PV)(L:Nat→Prop)(ρ:Nat→Value)(H H':Nat→AO)(w:World):Prop where
 live:∀b,¬live L ρ H b→¬live L ρ H' b
 obj:∀j,j≠id→(H' j).here=true→(H j).here=true∧(H' j).len=(H j).len∧(H' j).sz=(H j).sz
 here:(H id).here=true
 val:RV L ρ H' w (.p y) (ρ id)
section
variable {id:Nat}{y:PV}{L:Nat→Prop}{ρ:Nat→Value}{H H':Nat→AO}{w:World}
mutual
theorem RV.frz(R:Frz id y L ρ H H' w):∀(x:AV) {c:Value},RV L ρ H w x c→RV L ρ H' w (frz id y x) c
 |.p x,c,h=>by
  rw[_root_.Go.Proofs.Yteblcdnhnckkaaa.frz]<;>try (intros;contradiction)
  rw[RV]at *
  obtain⟨fp,h1,h2⟩:=h
  exact⟨fp,h1,fun b hb=>R.live b (h2 b hb)⟩
 |.own j,c,h=>by
  rw[_root_.Go.Proofs.Yteblcdnhnckkaaa.frz]
  rw[RV]at h
  split
  ·rename_i q
   subst q
   rw[h.2 R.here]
   exact R.val
  ·rename_i q
   rw[RV]
   exact⟨h.1,fun ho=>h.2 (R.obj j q ho).1⟩
 |.sub j off len,c,h=>by
  rw[_root_.Go.Proofs.Yteblcdnhnckkaaa.frz]
  rw[RV]at h
  split
  ·rw[RV];exact h.1
  ·rename_i q
   rw[RV]
   exact⟨h.1,fun ho=>by
    obtain⟨h1,h3,h4⟩:=R.obj j q ho
    rw[h3,h4];exact h.2 h1⟩
 |.ptr j i kk,c,h=>by
  rw[_root_.Go.Proofs.Yteblcdnhnckkaaa.frz]
  rw[RV]at h
  split
  ·rw[RV];exact h.1
  ·rename_i q
   rw[RV]
   exact⟨h.1,fun ho=>by
    obtain⟨h1,h3,h4⟩:=R.obj j q ho
    rw[h3,h4];exact h.2 h1⟩
 |.rp cells,c,h=>by
  rw[_root_.Go.Proofs.Yteblcdnhnckkaaa.frz]<;>try (intros;contradiction)
  rw[RV]at *
  obtain⟨b,off,cs,fp,rfl,h1,h2,h3,h4,h5⟩:=h
  exact⟨b,off,cs,fp,rfl,h1,h2,h3,R.live b h4,fun b hb=>R.live b (h5 b hb)⟩
 |.agg l,c,h=>by
  rw[_root_.Go.Proofs.Yteblcdnhnckkaaa.frz]
  rw[RV]at *
  obtain⟨cs,rfl,h1⟩:=h
  exact⟨cs,rfl,RVL.frz R l h1⟩
 |.tup l,c,h=>by
  rw[_root_.Go.Proofs.Yteblcdnhnckkaaa.frz]
  rw[RV]at *
  obtain⟨cs,rfl,h1⟩:=h
  exact⟨cs,rfl,RVL.frz R l h1⟩
 |.clo fn f l,c,h=>by
  rw[_root_.Go.Proofs.Yteblcdnhnckkaaa.frz]
  rw[RV]at *
  obtain⟨fs,cs,rfl,h1,h2⟩:=h
  exact⟨fs,cs,rfl,RVL.frz R f h1,RVL.frz R l h2⟩
 |.dead,c,h=>by
  rw[_root_.Go.Proofs.Yteblcdnhnckkaaa.frz]<;>try (intros;contradiction)
  rw[RV]at *;exact h
 |.bad,c,h=>by
  rw[_root_.Go.Proofs.Yteblcdnhnckkaaa.frz]<;>try (intros;contradiction)
  rw[RV];trivial
theorem RVL.frz(R:Frz id y L ρ H H' w):∀(x:List AV) {c:List Value},RVL L ρ H w x c→RVL L ρ H' w (frzL id y x) c
 |[],c,h=>by rw[frzL];rw[RVL]at *;exact h
 |x::xs,c,h=>by
  rw[frzL]
  rw[RVL]at *
  obtain⟨c,r,rfl,h1,h2⟩:=h
  exact⟨c,r,rfl,RV.frz R x h1,RVL.frz R xs h2⟩
end
end
def frzH(id:Nat)(y:PV)(H:Nat→AO):Nat→AO:=upd (fun j=>(H j).frz id y) id .gone
section
variable {P:Program}{o:Oper}{N:Nat}{τ:Nat→AV}{H:Nat→AO}{L O:Nat→Prop}{w0:World}{ops:Array Oper}{l:List Oper}{Q:AQ}
theorem RR.freeze{ρ:Nat→Value}{fp:Nat→List Nat}{a:Act}{w:World}(h:RR L O w0 N τ H ρ fp a w)(id:Nat){e:Pin}{sz:Nat}{rows:List (List PV)}(hH:H id=.arr e sz rows) :
 RR L O w0 N (fun t=>frz id (.lst e.ty sz rows) (τ t)) (frzH id (.lst e.ty sz rows) H) ρ (upd fp id []) a w:=by
 have hne:∀ {j},j≠id→frzH id (.lst e.ty sz rows) H j=(H j).frz id (.lst e.ty sz rows):=fun{j} q=>upd_ne _ _ q
 have heq:frzH id (.lst e.ty sz rows) H id=.gone:=upd_same _ _ _
 have hlive:∀b,live L ρ (frzH id (.lst e.ty sz rows) H) b→live L ρ H b:=by
  rintro b (hl|⟨j,q1,q2⟩)
  ·exact .inl hl
  ·by_cases ej:j=id
   ·subst ej;rw[heq]at q1;cases q1
   ·rw[hne ej,AO.frz_here]at q1;exact .inr ⟨j,q1,q2⟩
 have hob:=h.ob id
 rw[hH]at hob
 obtain⟨xs,fr,b1,b2,b3,b4,_⟩:=hob
 have R:Frz id (.lst e.ty sz rows) L ρ H (frzH id (.lst e.ty sz rows) H) w:=by
  refine⟨fun b hn hl=>hn (hlive b hl),fun j hj hh=>?_,by rw[hH];rfl,?_⟩
  ·rw[hne hj]at hh ⊢
   rw[AO.frz_here]at hh
   exact⟨hh,AO.frz_len _ _ _,AO.frz_sz _ _ _⟩
  ·rw[RV]
   rcases b3.2 with⟨q,q2⟩|⟨g,cap,cur,q,_,hg,hnc,hcm,_⟩
   ·refine⟨[]++fr,?_,fun b hb hl=>b2 b (by simpa using hb) (hlive b hl)⟩
    rw[RW]
    refine⟨xs,[],fr,b1,?_,rfl⟩
    unfold SlAt
    simp only[Bool.false_eq_true,if_false]
    exact⟨none,0,by rw[q,q2],by omega,by simp[maxLen],.inl ⟨q2,trivial⟩⟩
   ·have b3':=b3
    rw[q]at b3'
    refine⟨[g]++fr,?_,fun b hb hl=>?_⟩
    ·rw[RW]
     refine⟨xs,[g],fr,b1,?_,rfl⟩
     unfold SlAt
     simp only[Bool.false_eq_true,if_false]
     exact⟨_,cap,q,hnc,hcm,.inr ⟨g,0,rfl,cellsAt_of_own b3',(Array.getElem?_eq_some_iff.1 hg).1,rfl⟩⟩
    ·rcases List.mem_append.1 hb with hb|hb
     ·have hbg:b=g:=by simpa using hb
      subst hbg
      have hbf:b∈fp id:=by rw[b4,q];simp[Value.ownBlock]
      rcases hl with hl|⟨j,q1,q2⟩
      ·exact(h.own id b hbf).2 hl
      ·by_cases ej:j=id
       ·subst ej;rw[heq]at q1;cases q1
       ·rw[hne ej,AO.frz_here]at q1
        exact h.dj j id ej b ((h.ob j).top q1 q2) hbf
     ·exact b2 b hb (hlive b hl)
 refine⟨h.chg,h.size,h.defers,fun t=>RV.frz R _ (h.tm t),fun j=>?_,fun i j hij b hb hb'=>?_,fun j b hb=>?_,h.lo⟩
 ·by_cases ej:j=id
  ·subst ej;rw[heq,upd_same];rfl
  ·rw[hne ej,upd_ne _ _ ej]
   have:=h.ob j
   cases hj:H j with
   |box T p cells=>
    rw[hj]at this
    obtain⟨ys,h1,h2,h3,h4,h5⟩:=this
    exact⟨ys,RVL.frz R cells h1,frzL_cell _ _ cells h2,by rw[frzL_length];exact h3,h4,h5⟩
   |arr e' s' r'=>
    rw[hj]at this
    obtain⟨ys,fr',h1,h2,h3,h4⟩:=this
    exact⟨ys,fr',h1,fun b hb=>R.live b (h2 b hb),h3,h4⟩
   |gone=>rw[hj]at this;exact this
 ·by_cases e1:i=id
  ·subst e1;rw[upd_same]at hb;cases hb
  ·by_cases e2:j=id
   ·subst e2;rw[upd_same]at hb';cases hb'
   ·rw[upd_ne _ _ e1]at hb
    rw[upd_ne _ _ e2]at hb'
    exact h.dj i j hij b hb hb'
 ·by_cases e1:j=id
  ·subst e1;rw[upd_same]at hb;cases hb
  ·rw[upd_ne _ _ e1]at hb;exact h.own j b hb
theorem AW.freeze(id:Nat){c:Code}{e:Pin}{sz:Nat}{rows:List (List PV)}(hH:H id=.arr e sz rows)(h:AW P L O w0 N c (fun t=>frz id (.lst e.ty sz rows) (τ t)) (frzH id (.lst e.ty sz rows) H) Q):AW P L O w0 N c τ H Q:=
 fun ρ fp a w hr=>h ρ _ a w (hr.freeze id hH)
theorem AL.freeze(id:Nat){e:Pin}{sz:Nat}{rows:List (List PV)}(hH:H id=.arr e sz rows)(h:AL P L O w0 N ops l (fun t=>frz id (.lst e.ty sz rows) (τ t)) (frzH id (.lst e.ty sz rows) H) Q):AL P L O w0 N ops l τ H Q:=
 fun ρ fp a w hr=>h ρ _ a w (hr.freeze id hH)
theorem AG.freeze(id:Nat){f:Nat}{X:Nat→Bool}{n:Nat}{listed:Array Bool}{e:Pin}{sz:Nat}{rows:List (List PV)}(hH:H id=.arr e sz rows)(h:AG P L O w0 N ops f X n listed (fun t=>frz id (.lst e.ty sz rows) (τ t)) (frzH id (.lst e.ty sz rows) H) Q):AG P L O w0 N ops f X n listed τ H Q:=
 fun ρ fp a w hr=>wpAnyG_mono (fun W hW=>⟨hW.1,fun b hb hn=>hW.2 b hb (fun j q1 q2 q3=>by
  by_cases ej:j=id
  ·subst ej;rw[show frzH j (.lst e.ty sz rows) H j=.gone from upd_same _ _ _]at q2;cases q2
  ·rw[show frzH id (.lst e.ty sz rows) H j=(H j).frz id (.lst e.ty sz rows)from upd_ne _ _ ej,AO.frz_here]at q2
   exact hn j q1 q2 q3)⟩) _ _ _ _ (h ρ _ a w (hr.freeze id hH))
theorem RR.adoptT{ρ:Nat→Value}{fp:Nat→List Nat}{a:Act}{w:World}(h:RR L O w0 N τ H ρ fp a w)(id t:Nat)(e:TypeId)(sz:Nat)(ht:τ t=.p (.v (.slice none 0 0))) :
 RR L O w0 N (upd (fun s=>kil (one? id) (τ s)) t (.own id)) (upd (fun j=>(H j).kil (one? id)) id (.arr e sz [])) (upd ρ id (.slice none 0 0)) (upd fp id []) a w:=by
 have h1:=h.turnK (one? id) (id:=id) (o':=.arr e sz []) (v':=.slice none 0 0) (f':=[]) h.chg (Nat.le_refl _) (fun _ _ _=>rfl) (fun hk=>by simp[one?]at hk) (fun _ b hb=>by cases hb) (fun E=>⟨[],[],by simp[RWR],by simp,World.ownsRow_nil _ _ _ _,rfl,fun u hu=>by cases hu⟩) (by simp) (by simp)
 refine⟨h1.chg,h1.size,h1.defers,fun s=>?_,h1.ob,h1.dj,h1.own,h1.lo⟩
 by_cases e1:s=t
 ·subst e1
  rw[upd_same]
  have h2:=h.tm s
  rw[ht]at h2
  rw[h2.v_eq,RV]
  exact⟨rfl,fun _=>(upd_same _ _ _).symm⟩
 ·rw[upd_ne _ _ e1];exact h1.tm s
theorem AW.adoptT(id t:Nat)(e:TypeId)(sz:Nat){c:Code}(ht:τ t=.p (.v (.slice none 0 0)))(h:AW P L O w0 N c (upd (fun s=>kil (one? id) (τ s)) t (.own id)) (upd (fun j=>(H j).kil (one? id)) id (.arr e sz [])) Q):AW P L O w0 N c τ H Q:=
 fun ρ fp a w hr=>h _ _ a w (hr.adoptT id t e sz ht)
theorem RR.adoptB{ρ:Nat→Value}{fp:Nat→List Nat}{a:Act}{w:World}(h:RR L O w0 N τ H ρ fp a w)(id b k:Nat)(e:TypeId)(sz:Nat){T:TypeId}{p:Option Value}{cells:List AV}(hb:H b=.box T p cells)(hbi:b≠id)(hk:cells[k]? = some (.p (.v (.slice none 0 0)))) :
 RR L O w0 N (fun s=>kil (one? id) (τ s)) (upd (upd (fun j=>(H j).kil (one? id)) id (.arr e sz [])) b (.box T p ((kilL (one? id) cells).set k (.own id)))) (upd ρ id (.slice none 0 0)) (upd fp id []) a w:=by
 have h1:=h.turnK (one? id) (id:=id) (o':=.arr e sz []) (v':=.slice none 0 0) (f':=[]) h.chg (Nat.le_refl _) (fun _ _ _=>rfl) (fun hk=>by simp[one?]at hk) (fun _ b hb=>by cases hb) (fun E=>⟨[],[],by simp[RWR],by simp,World.ownsRow_nil _ _ _ _,rfl,fun u hu=>by cases hu⟩) (by simp) (by simp)
 generalize hH1:upd (fun j=>(H j).kil (one? id)) id (.arr e sz [])=H1 at *
 have hb1:H1 b=.box T p (kilL (one? id) cells):=by rw[←hH1,upd_ne _ _ hbi,hb];rfl
 have hi1:(H1 id).here=true:=by rw[←hH1,upd_same];rfl
 generalize upd ρ id (.slice none 0 0)=ρ1 at *
 have E:Env L ρ1 ρ1 H1 (upd H1 b (.box T p ((kilL (one? id) cells).set k (.own id)))) w w noK:=by
  refine⟨Nat.le_refl _,fun b' _ hn=>⟨rfl,?_⟩,fun j _ hj=>?_⟩
  ·rintro(hl|⟨j,q1,q2⟩)
   ·exact hn (.inl hl)
   ·by_cases ej:j=b
    ·subst ej;exact hn (.inr ⟨j,by rw[hb1];rfl,q2⟩)
    ·rw[upd_ne _ _ ej]at q1;exact hn (.inr ⟨j,q1,q2⟩)
  ·by_cases ej:j=b
   ·subst ej;rw[upd_same,hb1];exact⟨rfl,rfl,rfl,by simp[AO.sz]⟩
   ·rw[upd_ne _ _ ej]at hj ⊢;exact⟨hj,rfl,rfl,rfl⟩
 refine⟨h1.chg,h1.size,h1.defers,fun s=>by have:=RV.env E _ (h1.tm s);rwa [kil_no]at this,fun j=>?_,h1.dj,h1.own,h1.lo⟩
 have hj:=(h1.ob j).env E (fun _ _=>rfl)
 rw[AO.kil_no]at hj
 by_cases ej:j=b
 ·subst ej
  rw[upd_same]
  rw[hb1]at hj
  obtain⟨xs,k1,k2,k3,k4,k5⟩:=hj
  have hc:=(h.ob j)
  rw[hb]at hc
  -- the cell is nil
  have hkk:(kilL (one? id) cells)[k]? = some (.p (.v (.slice none 0 0))):=by
   have:∀(l:List AV) (k:Nat),l[k]? = some (.p (.v (.slice none 0 0)))→(kilL (one? id) l)[k]? = some (.p (.v (.slice none 0 0))):=by
    intro l
    induction l with
    |nil=>intro k h;simp at h
    |cons x l ih=>
     intro k h
     cases k with
     |zero=>simp at h;subst h;simp[kilL,kil]
     |succ k=>simp at h;rw[kilL];simpa using ih k h
   exact this cells k hk
  obtain⟨u,u1,u2⟩:=RVL.get k1 hkk
  have hu:=u2.v_eq
  subst hu
  refine⟨xs,?_,fun z hz=>?_,by rw[List.length_set];exact k3,k4,k5⟩
  ·have gen:∀(l:List AV) (cs:List Value) (k':Nat) (u:Value),RVL L ρ1 (upd H1 j (.box T p ((kilL (one? id) cells).set k (.own id)))) w l cs→cs[k']? = some u→RV L ρ1 (upd H1 j (.box T p ((kilL (one? id) cells).set k (.own id)))) w (.own id) u→RVL L ρ1 (upd H1 j (.box T p ((kilL (one? id) cells).set k (.own id)))) w (l.set k' (.own id)) cs:=by
    intro l
    induction l with
    |nil=>intro cs k' u h _ _;exact h
    |cons x l ih=>
     intro cs k' u h hu hv
     rw[RVL]at h
     obtain⟨c,r,rfl,h1,h2⟩:=h
     cases k' with
     |zero=>
      rw[List.set_cons_zero,RVL]
      simp at hu
      subst hu
      exact⟨c,r,rfl,hv,h2⟩
     |succ k'=>
      rw[List.set_cons_succ,RVL]
      exact⟨c,r,rfl,h1,ih r k' u h2 (by simpa using hu) hv⟩
   refine gen _ _ k _ k1 u1 ?_
   rw[RV,upd_ne _ _ (Ne.symm hbi)]
   refine⟨rfl,fun _=>?_⟩
   have:=h1.ob id
   have hHid:H1 id=.arr e sz []:=by rw[←hH1,upd_same]
   rw[hHid]at this
   obtain⟨ys,fr,_,_,hown,hfp,_⟩:=this
   rcases hown.2 with⟨q,_⟩|⟨g,cap,cur,q,_⟩
   ·exact q.symm
   ·have:g∈upd fp id [] id:=by rw[hfp,q];simp[Value.ownBlock]
    rw[upd_same]at this
    cases this
  ·rcases List.mem_or_eq_of_mem_set hz with hz|rfl
   ·exact k2 z hz
   ·rfl
 ·rw[upd_ne _ _ ej];exact hj
theorem AW.adoptB(id b k:Nat)(e:TypeId)(sz:Nat){c:Code}{T:TypeId}{p:Option Value}{cells:List AV}(hb:H b=.box T p cells)(hbi:b≠id)(hk:cells[k]? = some (.p (.v (.slice none 0 0))))(h:AW P L O w0 N c (fun s=>kil (one? id) (τ s)) (upd (upd (fun j=>(H j).kil (one? id)) id (.arr e sz [])) b (.box T p ((kilL (one? id) cells).set k (.own id)))) Q):AW P L O w0 N c τ H Q:=
 fun ρ fp a w hr=>h _ _ a w (hr.adoptB id b k e sz hb hbi hk)
end

section
variable {K:(Nat→AV)→(Nat→AO)→Prop}{Q:AQ}{τ:Nat→AV}{H:Nat→AO}{id i:Nat}
theorem ex_block(h:Q .normal τ H):AQ.inBlock id Q (.exit id) τ H:=by unfold AQ.inBlock;dsimp only;rw[if_pos rfl];exact h
theorem ex_other(hi:i≠id)(h:Q (.exit i) τ H):AQ.inBlock id Q (.exit i) τ H:=by unfold AQ.inBlock;dsimp only;rw[if_neg hi];exact h
theorem end_ret{rs:List RVar}{x:AV}{ob1:List (Nat×AO)}(h1:retX τ H rs=some x)(h2:allO ob1 H):Ends rs x ob1 .ret τ H:=⟨h1,h2⟩
theorem end_go{rs:List RVar}{x:AV}{ob1:List (Nat×AO)}(h1:retX τ H rs=some x)(h2:allO ob1 H):Ends rs x ob1 .normal τ H:=⟨h1,h2⟩
def NP(Q:AQ):Prop:=∀c τ H,¬Q (.panic c) τ H
theorem NP.then(h:NP Q):NP (AQ.andThen K Q):=h
theorem NP.block(h:NP Q):NP (AQ.inBlock id Q):=h
theorem NP.ends{rs:List RVar}{x:AV}{ob1:List (Nat×AO)}:NP (Ends rs x ob1):=fun _ _ _ h=>h
end
section
variable {P:Program}{L O:Nat→Prop}{w0:World}{N:Nat}{τ:Nat→AV}{H:Nat→AO}{Q:AQ}{ops:Array Oper}{l:List Oper}{b:Bool}{t:Nat}
theorem upd_self{α:Type}{f:Nat→α}{i:Nat}{x:α}(h:f i=x):upd f i x=f:=funext fun j=>by unfold upd;split<;>simp_all
theorem AL.bool(ht:τ t=.p (.v (.bool b)))(h1:b=true→AL P L O w0 N ops l (upd τ t (.p (.v (.bool true)))) H Q)(h2:b=false→AL P L O w0 N ops l (upd τ t (.p (.v (.bool false)))) H Q):AL P L O w0 N ops l τ H Q:=by
 cases b
 ·have:=h2 rfl;rwa [upd_self ht]at this
 ·have:=h1 rfl;rwa [upd_self ht]at this
theorem AG.bool{f:Nat}{X:Nat→Bool}{n:Nat}{listed:Array Bool}(ht:τ t=.p (.v (.bool b)))(h1:b=true→AG P L O w0 N ops f X n listed (upd τ t (.p (.v (.bool true)))) H Q)(h2:b=false→AG P L O w0 N ops f X n listed (upd τ t (.p (.v (.bool false)))) H Q):AG P L O w0 N ops f X n listed τ H Q:=by
 cases b
 ·have:=h2 rfl;rwa [upd_self ht]at this
 ·have:=h1 rfl;rwa [upd_self ht]at this
theorem AL.slot(t:Nat)(x:AV)(ht:τ t=x)(h:AL P L O w0 N ops l (upd τ t x) H Q):AL P L O w0 N ops l τ H Q:=by rwa [upd_self ht]at h
theorem AG.slot(t:Nat)(x:AV){f:Nat}{X:Nat→Bool}{n:Nat}{listed:Array Bool}(ht:τ t=x)(h:AG P L O w0 N ops f X n listed (upd τ t x) H Q):AG P L O w0 N ops f X n listed τ H Q:=by rwa [upd_self ht]at h
theorem AW.slot(t:Nat)(x:AV){c:Code}(ht:τ t=x)(h:AW P L O w0 N c (upd τ t x) H Q):AW P L O w0 N c τ H Q:=by rwa [upd_self ht]at h
theorem AW.obj(i:Nat)(x:AO){c:Code}(ht:H i=x)(h:AW P L O w0 N c τ (upd H i x) Q):AW P L O w0 N c τ H Q:=by rwa [upd_self ht]at h
def val:AV→Option Value
 |.p (.v v)=>some v
 |_=>none
def vals:List AV→Option (List Value)
 |[]=>some []
 |x::l=>match val x,vals l with
  |some v,some vs=>some (v::vs)
  |_,_=>none
def valA:AV→Option Value
 |.agg l=>(vals l).map fun vs=>.agg vs.toArray
 |x=>val x
theorem vals_eq{ρ:Nat→Value}{w:World}:∀ {l:List AV} {vs cs:List Value},vals l=some vs→RVL L ρ H w l cs→cs=vs
 |[],vs,cs,h,h2=>by injection h with h;subst h;rwa [RVL]at h2
 |x::l,vs,cs,h,h2=>by
  rw[RVL]at h2
  obtain⟨c,r,rfl,h3,h4⟩:=h2
  unfold vals at h
  split at h
  ·rename_i v vs' h5 h6
   injection h with h
   subst h
   rw[vals_eq h6 h4]
   congr 1
   unfold val at h5
   split at h5
   ·injection h5 with h5;subst h5;exact h3.v_eq
   ·cases h5
  ·cases h
theorem valA_eq{ρ:Nat→Value}{w:World}{x:AV}{v c:Value}(h:valA x=some v)(h2:RV L ρ H w x c):c=v:=by
 unfold valA at h
 split at h
 ·rename_i l
  cases hv:vals l with
  |none=>rw[hv]at h;cases h
  |some vs=>
   rw[hv]at h
   injection h with h
   subst h
   rw[RV]at h2
   obtain⟨cs,rfl,h3⟩:=h2
   rw[vals_eq hv h3]
 ·unfold val at h
  split at h
  ·injection h with h;subst h;exact h2.v_eq
  ·cases h
theorem rd_eqv{o:Oper}{X:Nat→Bool}{op:BinOp}{T yT:TypeId}{x y:Operand}{vx vy:Value}{b:Bool}(ho:o.op=.binOp op T x y yT)(hx:valA (ev τ x)=some vx)(hy:valA (ev τ y)=some vy)(h:∀W,(do eqGuard op T x y vx vy;binOp op T vx vy:Sem Value).run P W=.ok (.bool b) W):Rd P o τ H X (boo b):=by
 apply Rd.pure;intro L ρ a w he _
 have e1:=valA_eq hx (he x)
 have e2:=valA_eq hy (he y)
 refine⟨.bool b,RV.v_mk rfl,fun W=>?_⟩
 have:execOp a.eval o=(do let v ←(do eqGuard op T x y (a.eval x) (a.eval y);binOp op T (a.eval x) (a.eval y));pure (.value v)):=by simp only[execOp,ho]
 rw[this,e1,e2,Sem.run_bind,h]
 rfl
end
theorem row_map{α:Type}{g:α→List PV}{l:List α}{k:Nat}(h:k<l.length):(l.map g)[k]? = some (g l[k]):=by rw[List.getElem?_map,List.getElem?_eq_getElem h];rfl
theorem allT.app:∀ {l m:List (Nat×AV)} {τ:Nat→AV},allT l τ→allT m τ→allT (l++m) τ
 |[],m,τ,_,h=>h
 |(s,x)::l,m,τ,h,k=>⟨h.1,allT.app h.2 k⟩
theorem allO.app:∀ {l m:List (Nat×AO)} {τ:Nat→AO},allO l τ→allO m τ→allO (l++m) τ
 |[],m,τ,_,h=>h
 |(s,x)::l,m,τ,h,k=>⟨h.1,allO.app h.2 k⟩
theorem allT.same(τ:Nat→AV):∀ks:List Nat,allT (ks.map fun t=>(t,τ t)) τ
 |[]=>trivial
 |_::ks=>⟨rfl,allT.same τ ks⟩
theorem allO.same(H:Nat→AO):∀ks:List Nat,allO (ks.map fun t=>(t,H t)) H
 |[]=>trivial
 |_::ks=>⟨rfl,allO.same H ks⟩
theorem AW.loopE{P:Program}{L O:Nat→Prop}{w0:World}{N:Nat}{τ:Nat→AV}{H:Nat→AO}{Q:AQ}(K:List (Nat×AV))(KO:List (Nat×AO)){D:Type}(T:D→List (Nat×AV))(B:D→List (Nat×AO))(I:D→Prop)(μ:D→Nat){c:Code}(d:D)(h0:I d)(h1:allT (T d) τ)(h2:allO (B d) H)(h3:allT K τ)(h4:allO KO H)
 (round:∀d,I d→AW P L O w0 N c (ofT (T d++K)) (ofO (B d++KO)) (Q.andThen fun τ' H'=>∃d',I d'∧μ d'<μ d∧allT (T d') τ'∧allO (B d') H'∧allT K τ'∧allO KO H')):AW P L O w0 N (.loop c) τ H Q:=
 AW.loop (fun d=>T d++K) (fun d=>B d++KO) I μ d h0 (h1.app h3) (h2.app h4) fun d hI=>(round d hI).mono fun e τ' H' q=>by
  cases e<;>first|exact q|skip
  obtain⟨d',q1,q2,q3,q4,q5,q6⟩:=q
  exact⟨d',q1,q2,q3.app q5,q4.app q6⟩
def rowsOf{α:Type}(enc:α→List Value)(xs:List α):List (List PV):=xs.map fun x=>(enc x).map PV.v
theorem length_rowsOf{α:Type}(enc:α→List Value)(xs:List α):(rowsOf enc xs).length=xs.length:=List.length_map _
theorem RWR.pvs{w:World}{st:Bool}{α:Type}{enc:α→List Value}{sz:Nat}(hs:∀x,(enc x).length=sz)(h1:∀x,∀u∈enc x,u.oneCell'=true):∀xs,RWR w st sz (rowsOf enc xs) (xs.flatMap enc) []
 |[]=>by simp[rowsOf,RWR]
 |x::xs=>by
  rw[List.flatMap_cons]
  show RWR w st sz ((enc x).map PV.v::rowsOf enc xs) _ _
  rw[RWR]
  exact⟨by rw[List.length_map,hs],enc x,_,[],[],rfl,rfl,RWL.pv _ (h1 x),RWR.pvs hs h1 xs⟩
theorem RV.of_slr{L:Nat→Prop}{ρ:Nat→Value}{H:Nat→AO}{α:Type}{enc:α→List Value}{sz:Nat}{rep:World→Nat→Nat→List Value→α→Prop}{w:World}{lo hi:Nat}{v:Value}{xs:List α}{e:TypeId}(h:SlR sz rep w lo hi v xs)(hrep:∀cs x,rep w lo hi cs x→cs=enc x)(hs:∀x,(enc x).length=sz)(h1:∀x,∀u∈enc x,u.oneCell'=true)
 (hhi:hi≤w.heap.size) (hl:∀b,lo≤b→b<hi→¬live L ρ H b):RV L ρ H w (.p (.lst e sz (rowsOf enc xs))) v:=by
 obtain⟨a,cap,rfl,c1,c2,hsl⟩:=h
 rw[RV]
 rcases hsl with hz|⟨b,off,rfl,b1,b2,hel⟩
 ·refine⟨[]++[],?_,by simp⟩
  rw[RW]
  refine⟨_,[],[],RWR.pvs hs h1 xs,?_,rfl⟩
  unfold SlAt
  simp only[Bool.false_eq_true,if_false]
  exact⟨_,_,by rw[length_rowsOf],by rw[length_rowsOf];exact c1,c2,.inl ⟨by rw[length_rowsOf,hz];rfl,trivial⟩⟩
 ·refine⟨[b]++[],?_,fun x hx=>by simp at hx;subst hx;exact hl x b1 b2⟩
  rw[RW]
  refine⟨_,[b],[],RWR.pvs hs h1 xs,?_,rfl⟩
  unfold SlAt
  simp only[Bool.false_eq_true,if_false]
  refine⟨_,_,by rw[length_rowsOf],by rw[length_rowsOf];exact c1,c2,.inr ⟨b,off,rfl,fun j v hj=>?_,by omega,rfl⟩⟩
  have hsz:0<sz:=by
   rcases Nat.eq_zero_or_pos sz with q|q
   ·exfalso
    have hlen:(xs.flatMap enc).length=0:=by
     have:∀(l:List α),(l.flatMap enc).length=l.length*sz:=by
      intro l
      induction l with
      |nil=>simp
      |cons y l ih=>rw[List.flatMap_cons,List.length_append,ih,hs,List.length_cons,Nat.add_mul];omega
     rw[this,q];simp
    have:=(List.getElem?_eq_some_iff.1 hj).1
    omega
   ·exact q
  have hlen:∀(l:List α),(l.flatMap enc).length=l.length*sz:=by
   intro l
   induction l with
   |nil=>simp
   |cons y l ih=>rw[List.flatMap_cons,List.length_append,ih,hs,List.length_cons,Nat.add_mul];omega
  have hjl:=(List.getElem?_eq_some_iff.1 hj).1
  rw[hlen]at hjl
  have hi':j/sz<xs.length:=Nat.div_lt_of_lt_mul (by rw[Nat.mul_comm];exact hjl)
  obtain⟨cs,q1,q2⟩:=hel (j/sz) hi'
  have q1':=hrep _ _ q1
  subst q1'
  have hdec:j=j/sz*sz+j%sz:=by rw[Nat.mul_comm];exact(Nat.div_add_mod j sz).symm
  have hm:j%sz<sz:=Nat.mod_lt _ hsz
  have hget:∀(l:List α) (i m:Nat) (h:i<l.length),m<sz→(l.flatMap enc)[i*sz+m]? = (enc l[i])[m]?:=by
   intro l
   induction l with
   |nil=>intro i m h;exact absurd h (by simp)
   |cons y l ih=>
    intro i m h hm
    rw[List.flatMap_cons]
    cases i with
    |zero=>rw[Nat.zero_mul,Nat.zero_add,List.getElem?_append_left (by rw[hs];exact hm)];rfl
    |succ i=>
     rw[List.getElem?_append_right (by rw[hs,Nat.add_mul];omega),hs,show (i+1)*sz+m-sz=i*sz+m by rw[Nat.add_mul];omega]
     exact ih i m (by simpa using h) hm
  rw[hdec,hget xs (j/sz) (j%sz) hi' hm]at hj
  have:=q2 _ _ hj
  rw[hdec,←Nat.add_assoc]
  exact this
theorem GC.calls{P:Program}{f:FuncId}{args:List AV}{x:AV}{r:Value}(hx:valA x=some r)(h:GC P f args [] x []){w:World}{cs:List Value}(hargs:RVL (fun _=>False) (fun _=>undef) (ofO []) w args cs):Calls P f cs.toArray w fun e w'=>e=.returned r∧Grow w w':=by
 refine Calls.mono (h (fun _=>False) w cs (fun _=>undef) (fun _=>[]) (fun _ q=>q.elim) hargs (fun i=>rfl) (by simp) (by simp)) ?_
 rintro e w' ⟨_,_,⟨rfl,rfl⟩,v,ρ',fp',rfl,g1,g2,_⟩
 refine⟨by rw[valA_eq hx g2],⟨⟨g1.os,g1.tape,g1.output,g1.size,fun b hb=>g1.block b hb (by simp)⟩,fun b o h1 h2=>g1.nf b o (.inr h1) h2⟩⟩

def eqVals:List Value→List Value→Bool
 |.int _ a::r,.int _ b::r'=>a==b&&eqVals r r'
 |.bool a::r,.bool b::r'=>a==b&&eqVals r r'
 |[],[]=>true
 |_,_=>false
def flatF(P:Program):List Field→Nat→List Value→List Value→Prop
 |[],_,[],[]=>True
 | f :: fs,i,.int k _ :: r,.int k' _ :: r' => k = k' ∧ f.name ≠ "_" ∧ f.offset = i ∧ (∃ k,P.underlying f.type = some (.int k)) ∧ flatF P fs (i + 1) r r'
 | f :: fs,i,.bool _ :: r,.bool _ :: r' => f.name ≠ "_" ∧ f.offset = i ∧ P.underlying f.type = some .bool ∧ flatF P fs (i + 1) r r'
 |_,_,_,_=>False
section
variable {P:Program}
theorem part_run{t:TypeId}{d:TypeDesc}(ht:P.underlying t=some d)(h1:∀fs,d≠.struct fs)(h2:∀n e,d≠.array n e){xs:Array Value}{i:Nat}{v:Value}(hv:xs[i]? = some v)(W:World):(part t xs i).run P W=.ok v W:=by
 simp only[part,Sem.run_bind,isAgg_not ht h1 h2,Result.andThen_ok,Bool.false_eq_true,if_false]
 simp[hv]
theorem eqFields_flat(d:Nat)(W:World):∀(fs:List Field) (i:Nat) (pre pre' vs vs':List Value),pre.length=i→pre'.length=i→flatF P fs i vs vs'→
 (Op.eqFields (d+1) (pre++vs).toArray (pre'++vs').toArray fs).run P W=.ok (eqVals vs vs') W
 |[],i,pre,pre',vs,vs',_,_,h=>by
  cases vs<;>cases vs'<;>first|rfl|exact h.elim|(rename_i v _;cases v<;>exact h.elim)
 |f::fs,i,pre,pre',[],vs',_,_,h=>by cases vs'<;>exact h.elim
 |f::fs,i,pre,pre',v::r,[],_,_,h=>by cases v<;>exact h.elim
 |f::fs,i,pre,pre',v::r,v'::r',h1,h2,h=>by
  have e1:(pre++v::r).toArray[i]? = some v:=by rw[List.getElem?_toArray,List.getElem?_append_right (by omega),h1];simp
  have e2:(pre'++v'::r').toArray[i]? = some v':=by rw[List.getElem?_toArray,List.getElem?_append_right (by omega),h2];simp
  cases v<;>cases v'<;>first|exact h.elim|skip
  case int.int k a k' b=>
   obtain⟨rfl,q1,q2,⟨kk,q3⟩,q4⟩:=h
   have ih:=eqFields_flat d W fs (i+1) (pre++[.int k a]) (pre'++[.int k b]) r r' (by simp[h1]) (by simp[h2]) q4
   rw[List.append_assoc,List.append_assoc,List.singleton_append,List.singleton_append]at ih
   unfold Op.eqFields
   rw[if_pos q1,Sem.run_bind,q2,part_run q3 (by simp) (by simp) e1,Result.andThen_ok,Sem.run_bind,part_run q3 (by simp) (by simp) e2,Result.andThen_ok,Sem.run_bind,run_equalIn_int W d f.type k kk a b q3,Result.andThen_ok]
   unfold eqVals
   cases hab:(a==b)
   ·simp
   ·simpa using ih
  case bool.bool a b=>
   obtain⟨q1,q2,q3,q4⟩:=h
   have ih:=eqFields_flat d W fs (i+1) (pre++[.bool a]) (pre'++[.bool b]) r r' (by simp[h1]) (by simp[h2]) q4
   rw[List.append_assoc,List.append_assoc,List.singleton_append,List.singleton_append]at ih
   unfold Op.eqFields
   rw[if_pos q1,Sem.run_bind,q2,part_run q3 (by simp) (by simp) e1,Result.andThen_ok,Sem.run_bind,part_run q3 (by simp) (by simp) e2,Result.andThen_ok,Sem.run_bind,run_equalIn_bool' W d f.type a b q3,Result.andThen_ok]
   unfold eqVals
   cases hab:(a==b)
   ·simp
   ·simpa using ih
variable {o:Oper}{τ:Nat→AV}{H:Nat→AO}{X:Nat→Bool}
theorem rd_eqS{op:BinOp}{T yT:TypeId}{x y:Operand}{xs ys:List Value}{fs:List Field}(ho:o.op=.binOp op T x y yT)(hop:op=.eql∨op=.neq)(hx:valA (ev τ x)=some (.agg xs.toArray))(hy:valA (ev τ y)=some (.agg ys.toArray))
 (hf:P.fieldsOf T=fs.toArray) (ht:P.underlying T=some (.struct (P.fieldsOf T))) (hp:P.stoodInHeld T=false) (hg:P.eqGuardType P.depth T=false) (hfl:flatF P fs 0 xs ys):Rd P o τ H X (boo (match op with|.eql=>eqVals xs ys|_=>!eqVals xs ys)):=by
 have he:∀W,(Op.equal T (.agg xs.toArray) (.agg ys.toArray)).run P W=.ok (eqVals xs ys) W:=fun W=>by
  have h1:=run_equalIn_struct (P:=P) W (Op.maxDepth-1) T xs.toArray ys.toArray ht hp
  have h2:=eqFields_flat (P:=P) (Op.maxDepth-2) W fs 0 [] [] xs ys rfl rfl hfl
  rw[hf]at h1
  exact h1.trans h2
 apply rd_eqv ho hx hy
 intro W
 rcases hop with rfl|rfl
 ·simp[eqGuard,binOp,hg,he]
 ·simp[eqGuard,binOp,hg,he]
end

theorem allO.has:∀ {B:List (Nat×AO)} {H:Nat→AO} {id:Nat},allO B H→(B.map (·.1)).contains id=true→ofO B id=H id
 |[],_,_,_,h=>by simp at h
 |(s,x)::l,H,id,h,h2=>by
  unfold ofO
  split
  ·rename_i q;subst q;exact h.1.symm
  ·rename_i q
   refine allO.has h.2 ?_
   rw[List.map_cons,List.contains_cons,Bool.or_eq_true,beq_iff_eq]at h2
   exact h2.resolve_left q
section
variable {P:Program}{L O:Nat→Prop}{w0:World}{N:Nat}{τ:Nat→AV}{H:Nat→AO}{Q:AQ}{ops:Array Oper}{l:List Oper}
theorem rd_mvx{o:Oper}{X:Nat→Bool}{x:Operand}{v:AV}(ho:o.op=.move x∨o.op=.assign x)(hv:ev τ x=v):Rd P o τ H X v:=hv▸rd_mv ho
theorem AL.weak{τ':Nat→AV}{H':Nat→AO}(hs:∀t,τ' t=.bad∨τ' t=τ t)(hH:∀id,H' id=.gone∨H' id=H id)(h:AL P L O w0 N ops l τ' H' Q):AL P L O w0 N ops l τ H Q:=fun ρ fp a w hr=>by
 obtain⟨fp',hr',_⟩:=hr.weak hs hH
 exact h ρ fp' a w hr'
end

theorem no_live{b:Nat}:¬live (fun _=>False) (fun _=>undef) (ofO []) b:=by
 rintro(h|⟨id,h,_⟩)
 ·exact h
 ·cases h
def pvsOf(H:Nat→AO):List AV→Option (List PV)
 |[]=>some []
 |.p x::l=>(pvsOf H l).map (x::·)
 |.own id::l=>match H id with|.arr e sz rows=>(pvsOf H l).map (.lst e.ty sz rows::·)|_=>none
 |_::_=>none
def lendP(H:Nat→AO)(id r k:Nat):AV:=
 match H id with
 |.box _ _ cells=>match r,pvsOf H cells with|0,some l=>.rp (l.drop k)|_,_=>.bad
 |.arr _ _ rows=>match rows[r]? with|some row=>.rp (row.drop k)|none=>.bad
 |.gone=>.bad
-- What a pure callee may read of a value.
mutual
def lend(H:Nat→AO):AV→AV
 |.own id=>match H id with|.arr e sz rows=>.p (.lst e.ty sz rows)|_=>.bad
 |.sub id off len=>match H id with|.arr e sz rows=>.p (.lst e.ty sz ((rows.drop off).take len))|_=>.bad
 |.ptr id r k=>lendP H id r k
 |.agg l=>.agg (lendL H l)
 |.tup l=>.tup (lendL H l)
 |.clo fn f l=>.clo fn (lendL H f) (lendL H l)
 |x=>x
def lendL(H:Nat→AO):List AV→List AV
 |[]=>[]
 |x::l=>lend H x::lendL H l
end
abbrev L0:Nat→Prop:=fun _=>False
abbrev ρ0:Nat→Value:=fun _=>undef
section
variable {L O:Nat→Prop}{w0:World}{N:Nat}{τ:Nat→AV}{H:Nat→AO}{ρ:Nat→Value}{fp:Nat→List Nat}{a:Act}{w:World}
theorem OB.reads{v:Value}{f:List Nat}{e:Pin}{sz:Nat}{rows:List (List PV)}(h:OB L ρ H w v f (.arr e sz rows)):RV L0 ρ0 (ofO []) w (.p (.lst e.ty sz rows)) v:=by
 obtain⟨xs,fr,b1,b2,b3,b4,_⟩:=h
 rw[RV]
 rcases b3.2 with⟨q,q2⟩|⟨g,cap,cur,q,_,hg,hnc,hcm,_⟩
 ·refine⟨[]++fr,?_,fun b hb=>no_live⟩
  rw[RW]
  refine⟨xs,[],fr,b1,?_,rfl⟩
  unfold SlAt
  simp only[Bool.false_eq_true,if_false]
  exact⟨none,0,by rw[q,q2],by omega,by simp[maxLen],.inl ⟨q2,trivial⟩⟩
 ·have b3':=b3
  rw[q]at b3'
  refine⟨[g]++fr,?_,fun b hb=>no_live⟩
  rw[RW]
  refine⟨xs,[g],fr,b1,?_,rfl⟩
  unfold SlAt
  simp only[Bool.false_eq_true,if_false]
  exact⟨_,cap,q,hnc,hcm,.inr ⟨g,0,rfl,cellsAt_of_own b3',(Array.getElem?_eq_some_iff.1 hg).1,rfl⟩⟩
theorem OB.part{v:Value}{f:List Nat}{e:Pin}{sz off len:Nat}{rows:List (List PV)}{b:Option Addr}{cap:Nat}(h:OB L ρ H w v f (.arr e sz rows))(h1:off+len≤rows.length)(c1:len≤cap)(c2:cap≤maxLen)(h2:0<len→∃g m cap',v=.slice (some ⟨g,0,none⟩) m cap'∧b=some ⟨g,off*sz,none⟩) :
 RV L0 ρ0 (ofO []) w (.p (.lst e.ty sz ((rows.drop off).take len))) (.slice b len cap):=by
 obtain⟨xs,fr,k1,k2,k3,_⟩:=h
 obtain⟨g1,t1,t2⟩:=k1.drop off
 obtain⟨g2,t3,t4⟩:=t1.take len
 have hl:((rows.drop off).take len).length=len:=by rw[List.length_take,List.length_drop];omega
 rw[RV]
 by_cases hz:len=0
 ·refine⟨[]++g2,?_,fun b hb=>no_live⟩
  rw[RW]
  refine⟨_,[],g2,t3,?_,rfl⟩
  unfold SlAt
  simp only[Bool.false_eq_true,if_false]
  exact⟨b,cap,by rw[hl],by omega,c2,.inl ⟨by omega,trivial⟩⟩
 ·obtain⟨g,m,cap',e2,e3⟩:=h2 (by omega)
  rw[e2]at k3
  have hm:m=rows.length:=by
   rcases k3.2 with⟨q,_⟩|⟨g',cap',cur,q,_⟩
   ·cases q
   ·injection q
  subst hm
  refine⟨[g]++g2,?_,fun b hb=>no_live⟩
  rw[RW]
  refine⟨_,[g],g2,t3,?_,rfl⟩
  unfold SlAt
  simp only[Bool.false_eq_true,if_false]
  refine⟨b,cap,by rw[hl],by omega,c2,.inr ⟨g,off*sz,e3,?_,?_,rfl⟩⟩
  ·have:=(cellsAt_of_own k3).drop (off*sz)
   rw[Nat.zero_add]at this
   intro i v hi
   rw[List.getElem?_take]at hi
   split at hi
   ·exact this i v hi
   ·cases hi
  ·exact(k3.lt g (by simp[Value.ownBlock])).2
theorem OB.readsW{v:Value}{f:List Nat}{e:Pin}{sz:Nat}{rows:List (List PV)}(h:OB L ρ H w v f (.arr e sz rows)):∃fp,RW w false (.lst e.ty sz rows) v fp:=by
 have:=h.reads
 rw[RV]at this
 obtain⟨fp,h1,_⟩:=this
 exact⟨fp,h1⟩
theorem RWL.of_pvs(hob:∀id,∃f,OB L ρ H w (ρ id) f (H id)):∀ {cells:List AV} {l:List PV} {xs:List Value},pvsOf H cells=some l→RVL L ρ H w cells xs→∃fp,RWL w false l xs fp
 |[],l,xs,h,h2=>by
  injection h with h
  subst h
  rw[RVL]at h2
  exact⟨[],by rw[RWL];exact⟨h2,rfl⟩⟩
 |x::cells,l,xs,h,h2=>by
  rw[RVL]at h2
  obtain⟨c,r,rfl,h3,h4⟩:=h2
  cases x with
  |p y=>
   unfold pvsOf at h
   cases hq:pvsOf H cells with
   |none=>rw[hq]at h;cases h
   |some m=>
    rw[hq]at h
    injection h with h
    subst h
    obtain⟨f2,q2⟩:=RWL.of_pvs hob hq h4
    rw[RV]at h3
    obtain⟨f1,q1,_⟩:=h3
    exact⟨f1++f2,by rw[RWL];exact⟨c,r,f1,f2,rfl,rfl,q1,q2⟩⟩
  |own id=>
   unfold pvsOf at h
   obtain⟨f,ho⟩:=hob id
   cases hH:H id with
   |arr e sz rows=>
    rw[hH]at h ho
    dsimp only at h
    cases hq:pvsOf H cells with
    |none=>rw[hq]at h;cases h
    |some m=>
     rw[hq]at h
     injection h with h
     subst h
     obtain⟨f2,q2⟩:=RWL.of_pvs hob hq h4
     rw[RV,hH]at h3
     obtain⟨f1,q1⟩:=ho.readsW
     rw[←h3.2 rfl]at q1
     exact⟨f1++f2,by rw[RWL];exact⟨c,r,f1,f2,rfl,rfl,q1,q2⟩⟩
   |box T p cs=>rw[hH]at h;cases h
   |gone=>rw[hH]at h;cases h
  |sub _ _ _=>cases h
  |ptr _ _ _=>cases h
  |rp _=>cases h
  |agg _=>cases h
  |tup _=>cases h
  |clo _ _ _=>cases h
  |dead=>cases h
  |bad=>cases h
theorem RV.lendP(hob:∀id,∃f,OB L ρ H w (ρ id) f (H id)){id r k:Nat}{c:Value}(h:RV L ρ H w (.ptr id r k) c):RV L0 ρ0 (ofO []) w (_root_.Go.Proofs.Yteblcdnhnckkaaa.lendP H id r k) c:=by
 unfold _root_.Go.Proofs.Yteblcdnhnckkaaa.lendP
 rw[RV]at h
 obtain⟨f,ho⟩:=hob id
 cases hH:H id with
 |gone=>dsimp only;rw[RV];trivial
 |box T p cells=>
  rw[hH]at h ho
  dsimp only
  obtain⟨h0,g,m,cap,e1,e2⟩:=h.2 rfl
  split
  ·rename_i l hl
   obtain⟨xs,k1,k2,k3,k4,_⟩:=ho
   obtain⟨hc,hlt⟩:=own_at (fp:=f) k3 e1
   obtain⟨fp,q⟩:=RWL.of_pvs hob hl k1
   obtain⟨fd,d1,d2⟩:=RWL.drop k q
   rw[RV]
   exact⟨g,0+k,xs.drop k,fd,by rw[e2];simp,d1,hc.drop k,hlt,no_live,fun b hb=>no_live⟩
  ·rw[RV];trivial
 |arr e sz rows=>
  rw[hH]at h ho
  dsimp only
  obtain⟨h0,g,m,cap,e1,e2⟩:=h.2 rfl
  split
  ·rename_i row hrow
   obtain⟨xs,fr,k1,k2,k3,k4,_⟩:=ho
   obtain⟨hc,hlt⟩:=own_at (fp:=f) k3 e1
   obtain⟨c1,cr,c2,f1,f2,f3,p1,p2,p3,p4,p5,_⟩:=RWR.row k1 hrow
   rw[p1]at hc
   have hc2:=(hc.mid p3).drop k
   obtain⟨fd,d1,d2⟩:=RWL.drop k p5
   rw[RV]
   exact⟨g,0+r*sz+k,cr.drop k,fd,by rw[e2];simp[AO.sz],d1,hc2,hlt,no_live,fun b hb=>no_live⟩
  ·rw[RV];trivial
mutual
theorem RV.lend(hob:∀id,∃f,OB L ρ H w (ρ id) f (H id)):∀(x:AV) {c:Value},RV L ρ H w x c→RV L0 ρ0 (ofO []) w (_root_.Go.Proofs.Yteblcdnhnckkaaa.lend H x) c
 |.p x,c,h=>by
  rw[_root_.Go.Proofs.Yteblcdnhnckkaaa.lend]<;>try (intros;contradiction)
  rw[RV]at *
  obtain⟨fp,h1,h2⟩:=h
  exact⟨fp,h1,fun b hb=>no_live⟩
 |.own id,c,h=>by
  rw[_root_.Go.Proofs.Yteblcdnhnckkaaa.lend]
  rw[RV]at h
  obtain⟨f,ho⟩:=hob id
  cases hH:H id with
  |arr e sz rows=>
   rw[hH]at h ho
   rw[h.2 rfl]
   exact ho.reads
  |box T p cells=>dsimp only;rw[RV];trivial
  |gone=>dsimp only;rw[RV];trivial
 |.sub id off len,c,h=>by
  rw[_root_.Go.Proofs.Yteblcdnhnckkaaa.lend]
  rw[RV]at h
  obtain⟨f,ho⟩:=hob id
  cases hH:H id with
  |arr e sz rows=>
   rw[hH]at h ho
   obtain⟨h1,b,cap,rfl,c1,c2,h2⟩:=h.2 rfl
   exact ho.part h1 c1 c2 h2
  |box T p cells=>dsimp only;rw[RV];trivial
  |gone=>dsimp only;rw[RV];trivial
 |.ptr id r k,c,h=>by rw[_root_.Go.Proofs.Yteblcdnhnckkaaa.lend];exact RV.lendP hob h
 |.rp cells,c,h=>by
  rw[_root_.Go.Proofs.Yteblcdnhnckkaaa.lend]<;>try (intros;contradiction)
  rw[RV]at *
  obtain⟨b,off,cs,fp,rfl,h1,h2,h3,h4,h5⟩:=h
  exact⟨b,off,cs,fp,rfl,h1,h2,h3,no_live,fun b hb=>no_live⟩
 |.agg l,c,h=>by
  rw[_root_.Go.Proofs.Yteblcdnhnckkaaa.lend]
  rw[RV]at *
  obtain⟨cs,rfl,h1⟩:=h
  exact⟨cs,rfl,RVL.lend hob l h1⟩
 |.tup l,c,h=>by
  rw[_root_.Go.Proofs.Yteblcdnhnckkaaa.lend]
  rw[RV]at *
  obtain⟨cs,rfl,h1⟩:=h
  exact⟨cs,rfl,RVL.lend hob l h1⟩
 |.clo fn f l,c,h=>by
  rw[_root_.Go.Proofs.Yteblcdnhnckkaaa.lend]
  rw[RV]at *
  obtain⟨fs,cs,rfl,h1,h2⟩:=h
  exact⟨fs,cs,rfl,RVL.lend hob f h1,RVL.lend hob l h2⟩
 |.dead,c,h=>by
  rw[_root_.Go.Proofs.Yteblcdnhnckkaaa.lend]<;>try (intros;contradiction)
  rw[RV]at *;exact h
 |.bad,c,h=>by
  rw[_root_.Go.Proofs.Yteblcdnhnckkaaa.lend]<;>try (intros;contradiction)
  rw[RV];trivial
theorem RVL.lend(hob:∀id,∃f,OB L ρ H w (ρ id) f (H id)):∀(x:List AV) {c:List Value},RVL L ρ H w x c→RVL L0 ρ0 (ofO []) w (lendL H x) c
 |[],c,h=>by rw[lendL];rw[RVL]at *;exact h
 |x::xs,c,h=>by
  rw[lendL]
  rw[RVL]at *
  obtain⟨c,r,rfl,h1,h2⟩:=h
  exact⟨c,r,rfl,RV.lend hob x h1,RVL.lend hob xs h2⟩
end
end
-- A value that refers to no memory.
mutual
def flatA:AV→Bool
 |.p (.v _)=>true
 |.agg l=>flatL l
 |.tup l=>flatL l
 |_=>false
def flatL:List AV→Bool
 |[]=>true
 |x::l=>flatA x&&flatL l
end
section
variable {L L':Nat→Prop}{H H':Nat→AO}{ρ ρ':Nat→Value}{w w':World}
mutual
theorem RV.flat:∀(x:AV) {c:Value},flatA x=true→RV L ρ H w x c→RV L' ρ' H' w' x c
 |.p (.v v),c,_,h=>by
  rw[RV]at *
  obtain⟨fp,h1,_⟩:=h
  rw[RW]at h1
  obtain⟨h1,rfl,h2⟩:=h1
  exact⟨[],by rw[RW];exact⟨h1,rfl,h2⟩,by simp⟩
 |.agg l,c,hf,h=>by
  unfold flatA at hf
  rw[RV]at *
  obtain⟨cs,rfl,h1⟩:=h
  exact⟨cs,rfl,RVL.flat l hf h1⟩
 |.tup l,c,hf,h=>by
  unfold flatA at hf
  rw[RV]at *
  obtain⟨cs,rfl,h1⟩:=h
  exact⟨cs,rfl,RVL.flat l hf h1⟩
 |.p (.lst _ _ _),_,hf,_=>by simp[flatA]at hf
 |.own _,_,hf,_=>by simp[flatA]at hf
 |.sub _ _ _,_,hf,_=>by simp[flatA]at hf
 |.ptr _ _ _,_,hf,_=>by simp[flatA]at hf
 |.rp _,_,hf,_=>by simp[flatA]at hf
 |.clo _ _ _,_,hf,_=>by simp[flatA]at hf
 |.dead,_,hf,_=>by simp[flatA]at hf
 |.bad,_,hf,_=>by simp[flatA]at hf
theorem RVL.flat:∀(x:List AV) {c:List Value},flatL x=true→RVL L ρ H w x c→RVL L' ρ' H' w' x c
 |[],c,_,h=>by rw[RVL]at *;exact h
 |x::xs,c,hf,h=>by
  unfold flatL at hf
  simp only[Bool.and_eq_true]at hf
  rw[RVL]at *
  obtain⟨c,r,rfl,h1,h2⟩:=h
  exact⟨c,r,rfl,RV.flat x hf.1 h1,RVL.flat xs hf.2 h2⟩
end
end
section
variable {P:Program}{L O:Nat→Prop}{w0:World}{N:Nat}{τ:Nat→AV}{H:Nat→AO}{Q:AQ}{ops:Array Oper}{l:List Oper}{o:Oper}
theorem RR.grow{ρ:Nat→Value}{fp:Nat→List Nat}{a:Act}{w w':World}(h:RR L O w0 N τ H ρ fp a w)(hc:Chg (fun _=>False) w w'):RR L O w0 N τ H ρ fp a w':=
 have E:Env L ρ ρ H H w w' noK:=⟨hc.size,fun b hb hn=>⟨hc.block b hb (fun q=>q),hn⟩,fun _ _ h=>⟨h,rfl,rfl,rfl⟩⟩
 ⟨h.chg.step (X:=fun _=>False) hc.os hc.tape hc.output hc.size hc.block (fun _ q=>q.elim) (fun b o hb hlt=>hc.nf b o hb hlt),h.size,h.defers,fun t=>by have:=RV.env E _ (h.tm t);rwa [kil_no]at this,fun id=>by
   have:=(h.ob id).env E (fun b hb=>hc.block b ((h.ob id).lt b hb) (fun q=>q))
   rwa [AO.kil_no]at this,h.dj,h.own,h.lo⟩
theorem St.lend{y:Operand}{l:List Operand}{ts:Array TypeId}{f:FuncId}{fn:Func}{args:List AV}{x:AV}(ho:o.op=.call { callee:=.value y,args:=l.toArray,argTypes:=ts })(ht:∀s,o.dst=some s→s<N)
 (hy : ev τ y = .clo (.func f) [] []) (hf : P.funcs[f]? = some fn) (hf1 : (fn.name == "runtime.NumGoroutine") = false) (hf2 : fn.body.isNone = false) (hc : GC P f args [] x []) (hx : flatA x = true) (ha : lendL H (l.map (ev τ)) = args) :
 St P o N τ H [] (updo τ o.dst x) H:=by
 refine⟨?_⟩
 intro L O w0 ρ fp a w K Q hrr hk
 have ey:=hrr.ev y
 rw[hy,RV]at ey
 obtain⟨cf,cc,ey,e1,e2⟩:=ey
 rw[RVL]at e1 e2
 subst e1 e2
 have hv:=RVL.lend (fun id=>⟨_,hrr.ob id⟩) _ (RVL.map (fun z=>hrr.ev z) l)
 rw[ha]at hv
 have hcall:=hc L0 w (l.map a.eval) ρ0 (fun _=>[]) (fun _ q=>q.elim) hv (fun i=>rfl) (by simp) (by simp)
 have hrun:(execOp a.eval o).run P w=.ok (.enter f (l.map a.eval).toArray) w:=by
  simp only[execOp,ho,resolve,Deferred.ofValue,ey,invoke,callFunc,Sem.run_bind,Sem.run_pure,Result.andThen_ok,run_program,hf,hf1,hf2,Bool.false_eq_true,if_false,List.map_toArray,List.append_toArray,List.nil_append,List.append_nil]
 unfold Oper.wp
 rw[hrun]
 show Calls P f _ w _
 refine Calls.mono hcall ?_
 rintro e w' ⟨_,_,⟨rfl,rfl⟩,v,ρ',fp',rfl,g1,g2,g3⟩
 have hg:Chg (fun _=>False) w w':=⟨g1.os,g1.tape,g1.output,g1.size,fun b hb _=>g1.block b hb (by simp),fun b o hb hlt=>g1.nf b o (by simpa using hb) hlt⟩
 refine hk _ _ _ _ ((hrr.grow hg).puto o.dst (RV.flat _ hx g2) ht) (fun X hX=>⟨⟨hg.size,fun b hb _=>hg.block b hb (fun q=>q)⟩,fun j h1 h2 b h3=>.inr ⟨j,h1,h2,h3⟩⟩)
theorem end_xret{rs:List RVar}{R:AV→List (Nat×AO)→Prop}(x:AV)(ob1:List (Nat×AO))(hR:R x ob1)(h1:retX τ H rs=some x)(h2:allO ob1 H):EndsX rs R .ret τ H:=⟨x,ob1,hR,h1,h2⟩
theorem NP.endsX{rs:List RVar}{R:AV→List (Nat×AO)→Prop}:NP (EndsX rs R):=fun _ _ _ h=>h
theorem AW.seqE(K:List (Nat×AV))(KO:List (Nat×AO)){D:Type}(T:D→List (Nat×AV))(B:D→List (Nat×AO))(I:D→Prop){x y:Code}(_:allT K τ)(_:allO KO H)
 (h:AW P L O w0 N x τ H (Q.andThen fun τ H=>∃d,I d∧allT (T d) τ∧allO (B d) H∧allT K τ∧allO KO H)) (h2:∀d,I d→AW P L O w0 N y (ofT (T d++K)) (ofO (B d++KO)) Q):AW P L O w0 N (.seq x y) τ H Q:=
 AW.seqJ (fun d=>T d++K) (fun d=>B d++KO) I (h.mono fun e τ H q=>by
  cases e<;>first|exact q|(obtain⟨d,q1,q2,q3,q4,q5⟩:=q;exact⟨d,q1,allT.app q2 q4,allO.app q3 q5⟩)) h2
theorem rd_nilc{x:Operand}{id r k:Nat}{X:Nat→Bool}(ho:o.op=.nilCheck x)(hx:ev τ x=.ptr id r k)(hh:(H id).here=true):Rd P o τ H X (.ptr id r k):=by
 refine Rd.pure fun{L ρ a w} he _=>⟨a.eval x,hx▸he x,fun W=>?_⟩
 have h:=he x
 rw[hx,RV]at h
 obtain⟨_,g,m,cap,_,e⟩:=h.2 hh
 simp[execOp,ho,e]
theorem upd_ob{ρ:Nat→Value}{fp:Nat→List Nat}{w:World}{id:Nat}{o':AO}(h:∀j,OB L ρ H w (ρ j) (fp j) (H j))(h1:o'.here=(H id).here)(h2:o'.len=(H id).len)(h3:o'.sz=(H id).sz)(hob:OB L ρ (upd H id o') w (ρ id) (fp id) o'):∀j,OB L ρ (upd H id o') w (ρ j) (fp j) (upd H id o' j):=fun j=>by
 by_cases e:j=id
 ·subst e;rw[upd_same];exact hob
 ·rw[upd_ne _ _ e]
  have E:Env L ρ ρ H (upd H id o') w w noK:=⟨Nat.le_refl _,fun b _ hn=>⟨rfl,fun hl=>hn (by
   rcases hl with hl|⟨i,q1,q2⟩
   ·exact .inl hl
   ·by_cases ei:i=id
    ·subst ei;rw[upd_same,h1]at q1;exact .inr ⟨i,q1,q2⟩
    ·rw[upd_ne _ _ ei]at q1;exact .inr ⟨i,q1,q2⟩)⟩,fun i _ hi=>by
   by_cases ei:i=id
   ·subst ei;rw[upd_same]at hi ⊢;exact⟨h1▸hi,rfl,h2,h3⟩
   ·rw[upd_ne _ _ ei]at hi ⊢;exact⟨hi,rfl,rfl,rfl⟩⟩
  have:=(h j).env E (fun _ _=>rfl)
  rwa [AO.kil_no]at this
theorem upd_env{ρ:Nat→Value}{w:World}{id:Nat}{o':AO}(h1:o'.here=(H id).here)(h2:o'.len=(H id).len)(h3:o'.sz=(H id).sz):Env L ρ ρ H (upd H id o') w w noK:=
 ⟨Nat.le_refl _,fun b _ hn=>⟨rfl,fun hl=>hn (by
   rcases hl with hl|⟨i,q1,q2⟩
   ·exact .inl hl
   ·by_cases ei:i=id
    ·subst ei;rw[upd_same,h1]at q1;exact .inr ⟨i,q1,q2⟩
    ·rw[upd_ne _ _ ei]at q1;exact .inr ⟨i,q1,q2⟩)⟩,fun i _ hi=>by
   by_cases ei:i=id
   ·subst ei;rw[upd_same]at hi ⊢;exact⟨h1▸hi,rfl,h2,h3⟩
   ·rw[upd_ne _ _ ei]at hi ⊢;exact⟨hi,rfl,rfl,rfl⟩⟩
theorem RR.pinB{ρ:Nat→Value}{fp:Nat→List Nat}{a:Act}{w:World}(h:RR L O w0 N τ H ρ fp a w){id:Nat}{T:TypeId}{cells:List AV}{p:Option Value}(hH:H id=.box T p cells):RR L O w0 N τ (upd H id (.box T (some (ρ id)) cells)) ρ fp a w:=by
 have e1:(AO.box T (some (ρ id)) cells).here=(H id).here:=by rw[hH];rfl
 have e2:(AO.box T (some (ρ id)) cells).len=(H id).len:=by rw[hH];rfl
 have e3:(AO.box T (some (ρ id)) cells).sz=(H id).sz:=by rw[hH];rfl
 have E:=upd_env (L:=L) (ρ:=ρ) (w:=w) e1 e2 e3
 refine⟨h.chg,h.size,h.defers,fun t=>by have:=RV.env E _ (h.tm t);rwa [kil_no]at this,upd_ob h.ob e1 e2 e3 ?_,h.dj,h.own,h.lo⟩
 have hob:=(h.ob id).env E (fun _ _=>rfl)
 rw[AO.kil_no,hH]at hob
 obtain⟨xs,k1,k2,k3,k4,k5⟩:=hob
 exact⟨xs,k1,k2,k3,k4,fun g hg=>by injection hg⟩
theorem RR.pinA{ρ:Nat→Value}{fp:Nat→List Nat}{a:Act}{w:World}(h:RR L O w0 N τ H ρ fp a w){id:Nat}{e:Pin}{sz:Nat}{rows:List (List PV)}(hH:H id=.arr e sz rows)(pt:Option Value)(hp:∀u,pt=some u→u=ρ id):RR L O w0 N τ (upd H id (.arr ⟨e.ty,pt⟩ sz rows)) ρ fp a w:=by
 have e1:(AO.arr ⟨e.ty,pt⟩ sz rows).here=(H id).here:=by rw[hH];rfl
 have e2:(AO.arr ⟨e.ty,pt⟩ sz rows).len=(H id).len:=by rw[hH];rfl
 have e3:(AO.arr ⟨e.ty,pt⟩ sz rows).sz=(H id).sz:=by rw[hH];rfl
 have E:=upd_env (L:=L) (ρ:=ρ) (w:=w) e1 e2 e3
 refine⟨h.chg,h.size,h.defers,fun t=>by have:=RV.env E _ (h.tm t);rwa [kil_no]at this,upd_ob h.ob e1 e2 e3 ?_,h.dj,h.own,h.lo⟩
 have hob:=(h.ob id).env E (fun _ _=>rfl)
 rw[AO.kil_no,hH]at hob
 obtain⟨xs,fr,k1,k2,k3,k4,k5⟩:=hob
 exact⟨xs,fr,k1,k2,k3,k4,fun g hg=>(hp g hg).symm⟩
theorem AW.pinB(id:Nat){T:TypeId}{cells:List AV}{p:Option Value}{c:Code}(hH:H id=.box T p cells)(h:∀g,AW P L O w0 N c τ (upd H id (.box T (some g) cells)) Q):AW P L O w0 N c τ H Q:=fun ρ fp a w hr=>h (ρ id) ρ fp a w (hr.pinB hH)
theorem AW.pinA(id:Nat){e:Pin}{sz:Nat}{rows:List (List PV)}{c:Code}(hH:H id=.arr e sz rows)(h:∀g,AW P L O w0 N c τ (upd H id (.arr ⟨e.ty,some g⟩ sz rows)) Q):AW P L O w0 N c τ H Q:=fun ρ fp a w hr=>h (ρ id) ρ fp a w (hr.pinA hH _ (fun u hu=>by injection hu with hu;exact hu.symm))
theorem AL.pinB(id:Nat){T:TypeId}{cells:List AV}{p:Option Value}(hH:H id=.box T p cells)(h:∀g,AL P L O w0 N ops l τ (upd H id (.box T (some g) cells)) Q):AL P L O w0 N ops l τ H Q:=fun ρ fp a w hr=>h (ρ id) ρ fp a w (hr.pinB hH)
theorem AL.pinA(id:Nat){e:Pin}{sz:Nat}{rows:List (List PV)}(hH:H id=.arr e sz rows)(h:∀g,AL P L O w0 N ops l τ (upd H id (.arr ⟨e.ty,some g⟩ sz rows)) Q):AL P L O w0 N ops l τ H Q:=fun ρ fp a w hr=>h (ρ id) ρ fp a w (hr.pinA hH _ (fun u hu=>by injection hu with hu;exact hu.symm))
theorem AW.unpin(id:Nat){e:Pin}{sz:Nat}{rows:List (List PV)}{c:Code}(hH:H id=.arr e sz rows)(h:AW P L O w0 N c τ (upd H id (.arr ⟨e.ty,none⟩ sz rows)) Q):AW P L O w0 N c τ H Q:=fun ρ fp a w hr=>h ρ fp a w (hr.pinA hH none (fun u hu=>by cases hu))
theorem AL.unpin(id:Nat){e:Pin}{sz:Nat}{rows:List (List PV)}(hH:H id=.arr e sz rows)(h:AL P L O w0 N ops l τ (upd H id (.arr ⟨e.ty,none⟩ sz rows)) Q):AL P L O w0 N ops l τ H Q:=fun ρ fp a w hr=>h ρ fp a w (hr.pinA hH none (fun u hu=>by cases hu))
def Imp(x y:AV):Prop:=∀ {L:Nat→Prop} {ρ:Nat→Value} {H:Nat→AO} {w:World} {c:Value},RV L ρ H w x c→RV L ρ H w y c
def ImpL(x y:List AV):Prop:=∀ {L:Nat→Prop} {ρ:Nat→Value} {H:Nat→AO} {w:World} {c:List Value},RVL L ρ H w x c→RVL L ρ H w y c
theorem Imp.refl(x:AV):Imp x x:=fun h=>h
theorem Imp.nil(e:TypeId)(sz:Nat):Imp (.p (.v (.slice none 0 0))) (.p (.lst e sz [])):=fun{L ρ H w c} h=>by
 have:=h.v_eq
 subst this
 rw[RV]
 refine⟨[],?_,by simp⟩
 rw[RW]
 refine⟨[],[],[],by simp[RWR],?_,rfl⟩
 unfold SlAt
 simp only[Bool.false_eq_true,if_false]
 exact⟨none,0,rfl,Nat.le_refl _,by simp[maxLen],.inl ⟨rfl,trivial⟩⟩
theorem ImpL.nil:ImpL [] []:=fun h=>h
theorem ImpL.cons{x y:AV}{l m:List AV}(h:Imp x y)(h2:ImpL l m):ImpL (x::l) (y::m):=fun{L ρ H w c} q=>by
 rw[RVL]at *
 obtain⟨c,r,rfl,q1,q2⟩:=q
 exact⟨c,r,rfl,h q1,h2 q2⟩
theorem Imp.agg{l m:List AV}(h:ImpL l m):Imp (.agg l) (.agg m):=fun{L ρ H w c} q=>by
 rw[RV]at *
 obtain⟨cs,rfl,q⟩:=q
 exact⟨cs,rfl,h q⟩
theorem Imp.tup{l m:List AV}(h:ImpL l m):Imp (.tup l) (.tup m):=fun{L ρ H w c} q=>by
 rw[RV]at *
 obtain⟨cs,rfl,q⟩:=q
 exact⟨cs,rfl,h q⟩
theorem GX.imp{f:FuncId}{args:List AV}{ob0:List (Nat×AO)}{R R':AV→List (Nat×AO)→Prop}(h:GX P f args ob0 R)(hR:∀x ob1,R x ob1→∃x',Imp x x'∧R' x' ob1):GX P f args ob0 R':=fun L w cs ρ fp h1 h2 h3 h4 h5=>
 Calls.mono (h L w cs ρ fp h1 h2 h3 h4 h5) fun e w' ⟨x,ob1,q,v,ρ',fp',q1,q2,q3,q4⟩=>by
  obtain⟨x',i1,i2⟩:=hR x ob1 q
  exact⟨x',ob1,i2,v,ρ',fp',q1,q2,i1 q3,q4⟩
theorem AW.imp(t:Nat){x y:AV}{c:Code}(hx:τ t=x)(hi:Imp x y)(h:AW P L O w0 N c (upd τ t y) H Q):AW P L O w0 N c τ H Q:=fun ρ fp a w hr=>by
 refine h ρ fp a w ⟨hr.chg,hr.size,hr.defers,fun s=>?_,hr.ob,hr.dj,hr.own,hr.lo⟩
 by_cases e:s=t
 ·subst e;rw[upd_same];exact hi (hx▸hr.tm s)
 ·rw[upd_ne _ _ e];exact hr.tm s
theorem AL.imp(t:Nat){x y:AV}(hx:τ t=x)(hi:Imp x y)(h:AL P L O w0 N ops l (upd τ t y) H Q):AL P L O w0 N ops l τ H Q:=fun ρ fp a w hr=>by
 refine h ρ fp a w ⟨hr.chg,hr.size,hr.defers,fun s=>?_,hr.ob,hr.dj,hr.own,hr.lo⟩
 by_cases e:s=t
 ·subst e;rw[upd_same];exact hi (hx▸hr.tm s)
 ·rw[upd_ne _ _ e];exact hr.tm s
end

section
variable {P:Program}{o:Oper}{τ:Nat→AV}{H:Nat→AO}{X:Nat→Bool}
theorem rd_val{op:BinOp}{T yT:TypeId}{x y:Operand}{vx vy v:Value}(ho:o.op=.binOp op T x y yT)(hx:ev τ x=.p (.v vx))(hy:ev τ y=.p (.v vy))(h:∀W,(do eqGuard op T x y vx vy;binOp op T vx vy:Sem Value).run P W=.ok v W)(hv:v.oneCell'=true):Rd P o τ H X (.p (.v v)):=by
 apply Rd.pure;intro L ρ a w he _
 have e1:=he x
 have e2:=he y
 rw[hx]at e1
 rw[hy]at e2
 refine⟨v,RV.v_mk hv,fun W=>?_⟩
 have:execOp a.eval o=(do let v ←(do eqGuard op T x y (a.eval x) (a.eval y);binOp op T (a.eval x) (a.eval y));pure (.value v)):=by simp only[execOp,ho]
 rw[this,e1.v_eq,e2.v_eq,Sem.run_bind,h]
 rfl
variable {T:TypeId}{x y:Operand}{k k':IntKind}{a b r:Int}
theorem run_addw(hr:k.wrap (a+b)=r):∀W,(do eqGuard .add T x y (.int k a) (.int k b);binOp .add T (.int k a) (.int k b):Sem Value).run P W=.ok (.int k r) W:=fun W=>by simp[eqGuard,binOp,Op.intArith,hr]
theorem run_mulw(hr:k.wrap (a*b)=r):∀W,(do eqGuard .mul T x y (.int k a) (.int k b);binOp .mul T (.int k a) (.int k b):Sem Value).run P W=.ok (.int k r) W:=fun W=>by simp[eqGuard,binOp,Op.intArith,hr]
theorem run_and(hr:bits .and k a b=r):∀W,(do eqGuard .and T x y (.int k a) (.int k b);binOp .and T (.int k a) (.int k b):Sem Value).run P W=.ok (.int k r) W:=fun W=>by simp[eqGuard,binOp,intBits_and,hr]
theorem run_or(hr:bits .or k a b=r):∀W,(do eqGuard .or T x y (.int k a) (.int k b);binOp .or T (.int k a) (.int k b):Sem Value).run P W=.ok (.int k r) W:=fun W=>by simp[eqGuard,binOp,intBits_or,hr]
theorem run_xor(hr:bits .xor k a b=r):∀W,(do eqGuard .xor T x y (.int k a) (.int k b);binOp .xor T (.int k a) (.int k b):Sem Value).run P W=.ok (.int k r) W:=fun W=>by simp[eqGuard,binOp,intBits_xor,hr]
theorem run_shr(hk:k.bits=64)(h0:0≤b)(h1:b≤64)(hr:a/2 ^ b.toNat=r):∀W,(do eqGuard .shr T x y (.int k a) (.int k' b);binOp .shr T (.int k a) (.int k' b):Sem Value).run P W=.ok (.int k r) W:=fun W=>by
 have q1:¬b<0:=by omega
 have q2:min b.toNat 64=b.toNat:=by omega
 simp[eqGuard,binOp,Op.shift,q1,hk,q2]
 first|exact hr|(rw[Int.fdiv_eq_ediv_of_nonneg _ (Int.le_of_lt (Int.pow_pos (by decide)))];exact hr)
end
theorem GC.of_vals{P:Program}{f:FuncId}{args:List AV}{x:AV}{r:Value}{vs:List Value}(hr:∀ {L:Nat→Prop} {ρ:Nat→Value} {w:World},RV L ρ (ofO []) w x r)(hv:vals args=some vs)(h:∀w,Calls P f vs.toArray w fun e w'=>e=.returned r∧Grow w w'):GC P f args [] x []:=by
 intro L w cs ρ fp hL hargs hob hdj hLf
 have hcs:=vals_eq hv hargs
 subst hcs
 refine Calls.mono (h w) ?_
 rintro e w' ⟨rfl,g⟩
 refine⟨x,[],⟨rfl,rfl⟩,r,ρ,fun _=>[],rfl,⟨g.below.os,g.below.tape,g.below.output,g.size,fun b hb _=>g.below.block b hb,fun b o hb hlt=>?_⟩,hr,fun i=>rfl,by simp,by simp⟩
 rcases hb with⟨i,hi⟩|hb
 ·have:=(hob i).only hi
  cases this.1
 ·exact g.nf b o hb hlt

def swp(a b i:Nat):Nat:=if i=a then b else if i=b then a else i
theorem swp_swp(a b i:Nat):swp a b (swp a b i)=i:=by
 unfold swp
 split
 ·rename_i h;subst h
  by_cases e:b=i
  ·subst e;simp
  ·rw[if_neg e,if_pos rfl]
 ·rename_i h
  split
  ·rename_i h2;subst h2;simp
  ·rename_i h2;first|rfl|rw[if_neg h,if_neg h2]
theorem swp_inj{a b i j:Nat}(h:swp a b i=swp a b j):i=j:=by rw[←swp_swp a b i,h,swp_swp]
mutual
def per(a b:Nat):AV→AV
 |.own id=>.own (swp a b id)
 |.sub id off len=>.sub (swp a b id) off len
 |.ptr id r k=>.ptr (swp a b id) r k
 |.agg l=>.agg (perL a b l)
 |.tup l=>.tup (perL a b l)
 |.clo fn f l=>.clo fn (perL a b f) (perL a b l)
 |x=>x
def perL(a b:Nat):List AV→List AV
 |[]=>[]
 |x::l=>per a b x::perL a b l
end
def AO.per(a b:Nat):AO→AO
 |.box T p cells=>.box T p (perL a b cells)
 |o=>o
theorem perL_length(a b:Nat):∀l,(perL a b l).length=l.length
 |[]=>rfl
 |x::xs=>by rw[perL,List.length_cons,perL_length a b xs,List.length_cons]
theorem AO.per_here(a b:Nat)(o:AO):(o.per a b).here=o.here:=by cases o<;>rfl
theorem AO.per_len(a b:Nat)(o:AO):(o.per a b).len=o.len:=by cases o<;>rfl
theorem AO.per_sz(a b:Nat)(o:AO):(o.per a b).sz=o.sz:=by
 cases o with
 |box T p cells=>exact perL_length a b cells
 |_=>rfl
theorem per_cell(a b:Nat)(x:AV)(h:x.cell=true):(per a b x).cell=true:=by
 cases x<;>simp only[AV.cell,Bool.false_eq_true]at h<;>simp only[per]<;>rfl
theorem perL_cell(a b:Nat):∀(l:List AV),(∀x∈l,x.cell=true)→∀x∈perL a b l,x.cell=true
 |[],h=>h
 |y::l,h=>by
  rw[perL]
  intro x hx
  rcases List.mem_cons.1 hx with rfl|hx
  ·exact per_cell a b y (h y (by simp))
  ·exact perL_cell a b l (fun z hz=>h z (by simp[hz])) x hx
section
variable {a b:Nat}{L:Nat→Prop}{ρ:Nat→Value}{H:Nat→AO}{w:World}
theorem live_per{x:Nat}:live L (fun j=>ρ (swp a b j)) (fun j=>(H (swp a b j)).per a b) x↔live L ρ H x:=by
 unfold live
 constructor
 ·rintro(h|⟨j,h1,h2⟩)
  ·exact .inl h
  ·rw[AO.per_here]at h1;exact .inr ⟨_,h1,h2⟩
 ·rintro(h|⟨j,h1,h2⟩)
  ·exact .inl h
  ·refine .inr ⟨swp a b j,?_,?_⟩
   ·rw[AO.per_here,swp_swp];exact h1
   ·show (ρ (swp a b (swp a b j))).ownBlock=some x
    rw[swp_swp];exact h2
mutual
theorem RV.per:∀(x:AV) {c:Value},RV L ρ H w x c→RV L (fun j=>ρ (swp a b j)) (fun j=>(H (swp a b j)).per a b) w (_root_.Go.Proofs.Yteblcdnhnckkaaa.per a b x) c
 |.p x,c,h=>by
  rw[_root_.Go.Proofs.Yteblcdnhnckkaaa.per]<;>try (intros;contradiction)
  rw[RV]at *
  obtain⟨fp,h1,h2⟩:=h
  exact⟨fp,h1,fun b hb hl=>h2 b hb (live_per.1 hl)⟩
 |.own j,c,h=>by
  rw[_root_.Go.Proofs.Yteblcdnhnckkaaa.per]
  rw[RV]at *
  rw[swp_swp,AO.per_here]
  exact h
 |.sub j off len,c,h=>by
  rw[_root_.Go.Proofs.Yteblcdnhnckkaaa.per]
  rw[RV]at *
  rw[swp_swp,AO.per_here,AO.per_len,AO.per_sz]
  exact h
 |.ptr j i kk,c,h=>by
  rw[_root_.Go.Proofs.Yteblcdnhnckkaaa.per]
  rw[RV]at *
  rw[swp_swp,AO.per_here,AO.per_len,AO.per_sz]
  exact h
 |.rp cells,c,h=>by
  rw[_root_.Go.Proofs.Yteblcdnhnckkaaa.per]<;>try (intros;contradiction)
  rw[RV]at *
  obtain⟨b,off,cs,fp,rfl,h1,h2,h3,h4,h5⟩:=h
  exact⟨b,off,cs,fp,rfl,h1,h2,h3,fun hl=>h4 (live_per.1 hl),fun b hb hl=>h5 b hb (live_per.1 hl)⟩
 |.agg l,c,h=>by
  rw[_root_.Go.Proofs.Yteblcdnhnckkaaa.per]
  rw[RV]at *
  obtain⟨cs,rfl,h1⟩:=h
  exact⟨cs,rfl,RVL.per l h1⟩
 |.tup l,c,h=>by
  rw[_root_.Go.Proofs.Yteblcdnhnckkaaa.per]
  rw[RV]at *
  obtain⟨cs,rfl,h1⟩:=h
  exact⟨cs,rfl,RVL.per l h1⟩
 |.clo fn f l,c,h=>by
  rw[_root_.Go.Proofs.Yteblcdnhnckkaaa.per]
  rw[RV]at *
  obtain⟨fs,cs,rfl,h1,h2⟩:=h
  exact⟨fs,cs,rfl,RVL.per f h1,RVL.per l h2⟩
 |.dead,c,h=>by
  rw[_root_.Go.Proofs.Yteblcdnhnckkaaa.per]<;>try (intros;contradiction)
  rw[RV]at *;exact h
 |.bad,c,h=>by
  rw[_root_.Go.Proofs.Yteblcdnhnckkaaa.per]<;>try (intros;contradiction)
  rw[RV];trivial
theorem RVL.per:∀(x:List AV) {c:List Value},RVL L ρ H w x c→RVL L (fun j=>ρ (swp a b j)) (fun j=>(H (swp a b j)).per a b) w (perL a b x) c
 |[],c,h=>by rw[perL];rw[RVL]at *;exact h
 |x::xs,c,h=>by
  rw[perL]
  rw[RVL]at *
  obtain⟨c,r,rfl,h1,h2⟩:=h
  exact⟨c,r,rfl,RV.per x h1,RVL.per xs h2⟩
end
end
section
variable {P:Program}{L O:Nat→Prop}{w0:World}{N:Nat}{τ:Nat→AV}{H:Nat→AO}{Q:AQ}{ops:Array Oper}{l:List Oper}
theorem RR.swap{ρ:Nat→Value}{fp:Nat→List Nat}{act:Act}{w:World}(h:RR L O w0 N τ H ρ fp act w)(a b:Nat):RR L O w0 N (fun t=>per a b (τ t)) (fun j=>(H (swp a b j)).per a b) (fun j=>ρ (swp a b j)) (fun j=>fp (swp a b j)) act w:=by
 refine⟨h.chg,h.size,h.defers,fun t=>RV.per _ (h.tm t),fun j=>?_,fun i j hij x hx=>h.dj _ _ (fun e=>hij (swp_inj e)) x hx,fun j=>h.own _,h.lo⟩
 have:=h.ob (swp a b j)
 cases hj:H (swp a b j)with
 |box T p cells=>
  rw[hj]at this
  obtain⟨xs,h1,h2,h3,h4,h5⟩:=this
  exact⟨xs,RVL.per cells h1,perL_cell a b cells h2,by rw[perL_length];exact h3,h4,h5⟩
 |arr e sz rows=>
  rw[hj]at this
  obtain⟨xs,fr,h1,h2,h3,h4,h5⟩:=this
  exact⟨xs,fr,h1,fun b hb hl=>h2 b hb (live_per.1 hl),h3,h4,h5⟩
 |gone=>rw[hj]at this;exact this
theorem AW.swap(a b:Nat){c:Code}(h:AW P L O w0 N c (fun t=>per a b (τ t)) (fun j=>(H (swp a b j)).per a b) Q):AW P L O w0 N c τ H Q:=fun ρ fp act w hr=>h _ _ act w (hr.swap a b)
theorem AL.swap(a b:Nat)(h:AL P L O w0 N ops l (fun t=>per a b (τ t)) (fun j=>(H (swp a b j)).per a b) Q):AL P L O w0 N ops l τ H Q:=fun ρ fp act w hr=>h _ _ act w (hr.swap a b)
theorem QQ.swap{e:Exit}(a b:Nat)(h:Q e (fun t=>per a b (τ t)) (fun j=>(H (swp a b j)).per a b)){ρ:Nat→Value}{fp:Nat→List Nat}{act:Act}{w:World}(hr:RR L O w0 N τ H ρ fp act w):QQ L O w0 N Q e act w:=⟨_,_,_,_,hr.swap a b,h⟩
end

section
variable {P:Program}{L O:Nat→Prop}{w0:World}{N:Nat}{τ τ':Nat→AV}{H H':Nat→AO}{Q:AQ}{ops:Array Oper}{o:Oper}
def AG1(P:Program)(L O:Nat→Prop)(w0:World)(N:Nat)(ops:Array Oper)(f:Nat)(X:Nat→Bool)(n:Nat)(listed:Array Bool)(i:Nat)(τ:Nat→AV)(H:Nat→AO)(Q:AQ):Prop:=
 ∀ρ fp a w,RR L O w0 N τ H ρ fp a w→wpOp P ops (QQ L O w0 N Q) i (fun a' w'=>(i≠f→Keep X ρ H w w')∧wpAnyG P .any ops (QQ L O w0 N Q) (Keep X ρ H w) f n (listed.setIfInBounds i true) a' w') a w
theorem AG.two{f i j:Nat}{X:Nat→Bool}{n:Nat}{listed:Array Bool}(hr:Region.ready .any ops listed=[i,j])(h1:AG1 P L O w0 N ops f X n listed i τ H Q)(h2:AG1 P L O w0 N ops f X n listed j τ H Q):AG P L O w0 N ops f X (n+1) listed τ H Q:=fun ρ fp a w hrr=>by
 refine⟨fun h0=>(by rw[hr]at h0;cases h0),fun k hk=>?_⟩
 rw[hr]at hk
 simp only[List.mem_cons,List.not_mem_nil,or_false]at hk
 rcases hk with rfl|rfl
 ·exact h1 ρ fp a w hrr
 ·exact h2 ρ fp a w hrr
theorem AG1.st{f i:Nat}{X:Nat→Bool}{n:Nat}{listed:Array Bool}{E:List Nat}(ho:ops[i]? = some o)(hs:St P o N τ H E τ' H')(hX:∀id∈E,X id=true)(hg:gv τ ops o=some true)
 (h:AG P L O w0 N ops f X n (listed.setIfInBounds i true) τ' H' Q):AG1 P L O w0 N ops f X n listed i τ H Q:=fun ρ fp a w hrr=>
 wpOp_step ho fun K hK=>by
  rw[hrr.wanted hg,if_pos rfl]
  exact hs.run hrr (fun a' w' ρ' fp' hr' hmv=>hK _ _ ⟨fun _=>(hmv X hX).1,wpAnyG_mono (fun W hW=>(hmv X hX).keep hW) _ _ _ _ (h ρ' fp' a' w' hr')⟩)
theorem AG1.stx{f i:Nat}{X:Nat→Bool}{n:Nat}{listed:Array Bool}{E:List Nat}{Z:(Nat→AV)→(Nat→AO)→Prop}(ho:ops[i]? = some o)(hs:StX P o N τ H E Z)(hX:∀id∈E,X id=true)(hg:gv τ ops o=some true)
 (h:∀τ' H',Z τ' H'→AG P L O w0 N ops f X n (listed.setIfInBounds i true) τ' H' Q):AG1 P L O w0 N ops f X n listed i τ H Q:=fun ρ fp a w hrr=>
 wpOp_step ho fun K hK=>by
  rw[hrr.wanted hg,if_pos rfl]
  exact hs.run hrr (fun τ' H' a' w' ρ' fp' hz hr' hmv=>hK _ _ ⟨fun _=>(hmv X hX).1,wpAnyG_mono (fun W hW=>(hmv X hX).keep hW) _ _ _ _ (h τ' H' hz ρ' fp' a' w' hr')⟩)
def sameX(B:List (Nat×AO))(H:Nat→AO):List Nat→Prop
 |[]=>True
 |i::l=>ofO B i=H i∧sameX B H l
theorem sameX.at{B:List (Nat×AO)}:∀ {X:List Nat},sameX B H X→∀i∈X,ofO B i=H i
 |[],_,i,hi=>by cases hi
 |j::l,h,i,hi=>by
  rcases List.mem_cons.1 hi with rfl|hi
  ·exact h.1
  ·exact sameX.at h.2 i hi
theorem AG.tidyX(T:List (Nat×AV))(B:List (Nat×AO)){X:List Nat}{f n:Nat}{listed:Array Bool}(h1:allT T τ)(h2:allO B H)(hX:sameX B H X)(h:AG P L O w0 N ops f (inK X) n listed (ofT T) (ofO B) Q):AG P L O w0 N ops f (inK X) n listed τ H Q:=fun ρ fp a w hr=>by
 obtain⟨fp',hr',_⟩:=hr.weak h1.weak h2.weak
 have e:Keep (inK X) ρ (ofO B) w=Keep (inK X) ρ H w:=by
  funext W
  unfold Keep
  have hh:∀id,inK X id=true→ofO B id=H id:=fun id hid=>hX.at id (by unfold inK at hid;rwa [List.contains_iff_mem]at hid)
  refine propext ⟨fun q=>⟨q.1,fun b hb hn=>q.2 b hb fun id h3 h4=>hn id h3 (by rw[←hh id h3];exact h4)⟩,fun q=>⟨q.1,fun b hb hn=>q.2 b hb fun id h3 h4=>hn id h3 (by rw[hh id h3];exact h4)⟩⟩
 rw[←e]
 exact h ρ fp' a w hr'
end

theorem RWL.flat_fp{w:World}{st:Bool}:∀ {x:List PV} {c:List Value} {fp:List Nat},RWL w st x c fp→(∀p∈x,∃v,p=PV.v v)→fp=[]
 |[],c,fp,h,_=>by rw[RWL]at h;exact h.2
 |x::xs,c,fp,h,hf=>by
  rw[RWL]at h
  obtain⟨c,r,f1,f2,rfl,rfl,h1,h2⟩:=h
  obtain⟨v,rfl⟩:=hf x (by simp)
  rw[RW]at h1
  rw[h1.2.1,RWL.flat_fp h2 (fun p hp=>hf p (by simp[hp]))]
  rfl
theorem RWR.flat_fp{w:World}{st:Bool}{sz:Nat}:∀ {x:List (List PV)} {c:List Value} {fp:List Nat},RWR w st sz x c fp→(∀r∈x,∀p∈r,∃v,p=PV.v v)→fp=[]
 |[],c,fp,h,_=>by rw[RWR]at h;exact h.2
 |x::xs,c,fp,h,hf=>by
  rw[RWR]at h
  obtain⟨hl,c,r,f1,f2,rfl,rfl,h1,h2⟩:=h
  rw[h1.flat_fp (hf x (by simp)),RWR.flat_fp h2 (fun r hr=>hf r (by simp[hr]))]
  rfl
theorem flat_rowsOf{α:Type}{enc:α→List Value}{l:List α}:∀r∈rowsOf enc l,∀p∈r,∃v,p=PV.v v:=fun r hr p hp=>by
 unfold rowsOf at hr
 obtain⟨a,_,rfl⟩:=List.mem_map.1 hr
 obtain⟨v,_,rfl⟩:=List.mem_map.1 hp
 exact⟨v,rfl⟩
section
variable {P:Program}{N:Nat}{τ:Nat→AV}{H:Nat→AO}{o:Oper}
end

def KeepA(w W:World):Prop:=w.heap.size≤W.heap.size∧∀b,b<w.heap.size→W.heap[b]? = w.heap[b]?
theorem KeepA.refl(w:World):KeepA w w:=⟨Nat.le_refl _,fun _ _=>rfl⟩
theorem KeepA.trans{u v w:World}(h:KeepA u v)(h2:KeepA v w):KeepA u w:=⟨Nat.le_trans h.1 h2.1,fun b hb=>by rw[h2.2 b (Nat.lt_of_lt_of_le hb h.1),h.2 b hb]⟩
theorem KeepA.of{ρ:Nat→Value}{H:Nat→AO}{w W:World}(h:Keep (fun _=>false) ρ H w W):KeepA w W:=⟨h.1,fun b hb=>h.2 b hb fun id q=>by cases q⟩
theorem KeepA.to{ρ:Nat→Value}{H:Nat→AO}{w W:World}(h:KeepA w W):Keep (fun _=>false) ρ H w W:=⟨h.1,fun b hb _=>h.2 b hb⟩
section
variable {P:Program}{ops:Array Oper}{Q:Exit→Act→World→Prop}{md:Region.Mode}{F:List Nat}
def wpAnyF(P:Program)(md:Region.Mode)(ops:Array Oper)(Q:Exit→Act→World→Prop)(F:List Nat):Nat→Array Bool→Act→World→Prop
 |0,listed,a,w=>Region.ready md ops listed=[]∧Q .normal a w
 |fuel+1,listed,a,w=>
  (Region.ready md ops listed=[]→Q .normal a w)∧
  ∀i∈Region.ready md ops listed,wpOp P ops Q i (fun a' w'=>(F.contains i=false→KeepA w w')∧wpAnyF P md ops Q F fuel (listed.setIfInBounds i true) a' w') a w
theorem wpAny_of_F:∀(fuel:Nat) (listed:Array Bool) (a:Act) (w:World),wpAnyF P md ops Q F fuel listed a w→wpAny P md ops Q fuel listed a w
 |0,_,_,_,h=>h
 |fuel+1,_,_,_,h=>⟨h.1,fun i hi=>wpOp_mono (fun a' w' h'=>wpAny_of_F fuel _ a' w' h'.2) (h.2 i hi)⟩
def reachF(md:Region.Mode)(ops:Array Oper)(F:List Nat)(listed:Array Bool)(i:Nat):Bool:=F.all fun j=>listed.getD j true||(reachB md ops j).getD i false
theorem YieldsIf.less{S S':World→Prop}{o:Oper}{v:Value}{a:Act}(h:YieldsIf P ops S o v a)(hs:∀w,S' w→S w):YieldsIf P ops S' o v a:=by
 rcases h with⟨h1,h2⟩|h
 ·exact .inl ⟨h1,fun w hw=>h2 w (hs w hw)⟩
 ·exact .inr h
theorem wpAnyF_first{i:Nat}{oi:Oper}{v:Value}(hi:ops[i]? = some oi)(hsel:∀(j:Nat) (o:Oper) cs b,ops[j]? = some o→o.op≠.select cs b)
 (hQ:∀c a w,Q (.panic c) (a.put oi.dst v) w→Q (.panic c) a w) :
 ∀(fuel:Nat) (listed:Array Bool) (a:Act) (w:World),
  (∀j oj,ops[j]? = some oj→j≠i→listed.getD j true=false→(∀e∈oj.after,Region.binds md e=true→e.on≠i)→oi.apart ops oj=true)→
  (∀j,F.contains j=true→listed.getD j true=false→(reachB md ops j).getD i false=true)→
  Closed md ops listed→i∈Region.ready md ops listed→YieldsIf P ops (KeepA w) oi v a→
  wpAnyF P md ops Q F fuel (listed.setIfInBounds i true) (a.put oi.dst v) w→wpAnyF P md ops Q F (fuel+1) listed a w:=by
 intro fuel
 induction fuel with
 |zero=>
  intro listed a w _ _ _ hr hy H
  refine⟨fun h=>(by rw[h]at hr;cases hr),fun j hj=>?_⟩
  by_cases hji:j=i
  ·subst hji;exact hy.wpOp hi (KeepA.refl w) ⟨fun _=>KeepA.refl w,H⟩
  ·have:=ready_mono hj hji
   rw[H.1]at this
   cases this
 |succ fuel ih=>
  intro listed a w hfree hF hcl hr hy H
  refine⟨fun h=>(by rw[h]at hr;cases hr),fun j hj=>?_⟩
  by_cases hji:j=i
  ·subst hji;exact hy.wpOp hi (KeepA.refl w) ⟨fun _=>KeepA.refl w,H⟩
  ·have h1:=H.2 j (ready_mono hj hji)
   obtain⟨hjun,oj,hoj,hall⟩:=mem_ready.1 hj
   have hnot:∀e∈oj.after,Region.binds md e=true→e.on≠i:=fun e he hb heq=>by
    have h1:=hall e he hb
    have h0:=(mem_ready.1 hr).1
    rw[heq]at h1
    rcases Nat.lt_or_ge i listed.size with h'|h'
    ·simp[h']at h0 h1;rw[h0]at h1;cases h1
    ·simp[Array.getElem?_eq_none h']at h1
   have h2:=wpOp_putIf hoj (hfree j oj hoj hji hjun hnot) (fun cs b=>hsel i oi cs b hi) (fun cs b=>hsel j oj cs b hoj) hQ hy h1
   have hun':∀k,(listed.setIfInBounds j true).getD k true=false→listed.getD k true=false:=fun k hun=>by
    by_cases hjk:j=k
    ·subst hjk;exact hjun
    ·rw[getD_set_ne true hjk]at hun;exact hun
   have hjf:F.contains j=false:=by
    rcases q:F.contains j with _|_
    ·rfl
    ·exfalso
     have hl:=reachB_listed hcl (fun of_ hof e he hb=>by rw[hoj]at hof;injection hof with hof;subst hof;exact hall e he hb) (hF j q hjun)
     rcases hl with hl|hl
     ·exact hji hl.symm
     ·have h0:=(mem_ready.1 hr).1
      rcases Nat.lt_or_ge i listed.size with h'|h'
      ·simp[h']at h0 hl;rw[h0]at hl;cases hl
      ·simp[Array.getElem?_eq_none h']at hl
   refine wpOp_mono (fun a' w' h3=>⟨fun _=>h3.2.1 hjf,ih (listed.setIfInBounds j true) a' w' (fun k ok hk hki hun hno=>hfree k ok hk hki (hun' k hun) hno) (fun k hk hun=>hF k hk (hun' k hun)) (hcl.set hj) (ready_mono hr (Ne.symm hji)) (YieldsIf.less h3.1 fun W hW=>(h3.2.1 hjf).trans hW) ?_⟩) h2
   rw[Array.setIfInBounds_comm _ _ hji]
   exact h3.2.2
theorem wpAnyF_firstP{i:Nat}{oi:Oper}{v:Value}(hi:ops[i]? = some oi)(hsel:∀(j:Nat) (o:Oper) cs b,ops[j]? = some o→o.op≠.select cs b)
 (hQ:∀c a w,Q (.panic c) (a.put oi.dst v) w→Q (.panic c) a w) :
 ∀(fuel:Nat) (listed:Array Bool) (a:Act) (w:World),
  (∀j oj,ops[j]? = some oj→j≠i→listed.getD j true=false→(∀e∈oj.after,Region.binds md e=true→e.on≠i)→oi.apart ops oj=true)→
  Closed md ops listed→i∈Region.ready md ops listed→YieldsIf P ops (fun _=>True) oi v a→
  wpAnyF P md ops Q F fuel (listed.setIfInBounds i true) (a.put oi.dst v) w→wpAnyF P md ops Q F (fuel+1) listed a w:=by
 intro fuel
 induction fuel with
 |zero=>
  intro listed a w _ _ hr hy H
  refine⟨fun h=>(by rw[h]at hr;cases hr),fun j hj=>?_⟩
  by_cases hji:j=i
  ·subst hji;exact hy.wpOp hi trivial ⟨fun _=>KeepA.refl w,H⟩
  ·have:=ready_mono hj hji
   rw[H.1]at this
   cases this
 |succ fuel ih=>
  intro listed a w hfree hcl hr hy H
  refine⟨fun h=>(by rw[h]at hr;cases hr),fun j hj=>?_⟩
  by_cases hji:j=i
  ·subst hji;exact hy.wpOp hi trivial ⟨fun _=>KeepA.refl w,H⟩
  ·have h1:=H.2 j (ready_mono hj hji)
   obtain⟨hjun,oj,hoj,hall⟩:=mem_ready.1 hj
   have hnot:∀e∈oj.after,Region.binds md e=true→e.on≠i:=fun e he hb heq=>by
    have h1:=hall e he hb
    have h0:=(mem_ready.1 hr).1
    rw[heq]at h1
    rcases Nat.lt_or_ge i listed.size with h'|h'
    ·simp[h']at h0 h1;rw[h0]at h1;cases h1
    ·simp[Array.getElem?_eq_none h']at h1
   have h2:=wpOp_putIf hoj (hfree j oj hoj hji hjun hnot) (fun cs b=>hsel i oi cs b hi) (fun cs b=>hsel j oj cs b hoj) hQ hy h1
   have hun':∀k,(listed.setIfInBounds j true).getD k true=false→listed.getD k true=false:=fun k hun=>by
    by_cases hjk:j=k
    ·subst hjk;exact hjun
    ·rw[getD_set_ne true hjk]at hun;exact hun
   refine wpOp_mono (fun a' w' h3=>⟨h3.2.1,ih (listed.setIfInBounds j true) a' w' (fun k ok hk hki hun hno=>hfree k ok hk hki (hun' k hun) hno) (hcl.set hj) (ready_mono hr (Ne.symm hji)) h3.1 ?_⟩) h2
   rw[Array.setIfInBounds_comm _ _ hji]
   exact h3.2.2
theorem wpAnyF_take{i:Nat}{oi:Oper}{v:Value}{fuel:Nat}{listed:Array Bool}{a:Act}{w:World}(hi:ops[i]? = some oi)
 (hs:Region.noSelect ops=true) (hf:Region.free md ops listed i=true) (hr:(Region.ready md ops listed).contains i=true) (hw:reachF md ops F listed i=true) (hc:closedB md ops listed=true)
 (hQ:∀c a w,Q (.panic c) (a.put oi.dst v) w→Q (.panic c) a w) (hy:YieldsIf P ops (KeepA w) oi v a)
 (h:wpAnyF P md ops Q F fuel (listed.setIfInBounds i true) (a.put oi.dst v) w):wpAnyF P md ops Q F (fuel+1) listed a w:=
 wpAnyF_first hi (Region.noSelect_spec hs) hQ fuel listed a w (Region.free_spec hi hf) (fun j hj hun=>by
  have:=List.all_eq_true.1 hw j (List.contains_iff_mem.1 hj)
  rw[hun,Bool.false_or]at this
  exact this) (Closed.of hc) (by simpa using hr) hy h
theorem wpAnyF_takeP{i:Nat}{oi:Oper}{v:Value}{fuel:Nat}{listed:Array Bool}{a:Act}{w:World}(hi:ops[i]? = some oi)
 (hs:Region.noSelect ops=true) (hf:Region.free md ops listed i=true) (hr:(Region.ready md ops listed).contains i=true) (hc:closedB md ops listed=true)
 (hQ:∀c a w,Q (.panic c) (a.put oi.dst v) w→Q (.panic c) a w) (hy:YieldsIf P ops (fun _=>True) oi v a)
 (h:wpAnyF P md ops Q F fuel (listed.setIfInBounds i true) (a.put oi.dst v) w):wpAnyF P md ops Q F (fuel+1) listed a w:=
 wpAnyF_firstP hi (Region.noSelect_spec hs) hQ fuel listed a w (Region.free_spec hi hf) (Closed.of hc) (by simpa using hr) hy h
theorem wpAnyF_one{i:Nat}{o:Oper}{fuel:Nat}{listed:Array Bool}{a:Act}{w:World}(ho:ops[i]? = some o)(hr:Region.ready md ops listed=[i])
 (h:∀K':Act→World→Prop,(∀a w',(F.contains i=false→KeepA w w')→wpAnyF P md ops Q F fuel (listed.setIfInBounds i true) a w'→K' a w')→if Region.wanted o (yielded ops a.tmps)=true then Oper.wp P o a w K' Q else K' (a.put o.dst undef) w) :
 wpAnyF P md ops Q F (fuel+1) listed a w:=by
 refine⟨fun h0=>(by rw[hr]at h0;cases h0),fun j hj=>?_⟩
 rw[hr]at hj
 obtain rfl:=List.mem_singleton.1 hj
 exact wpOp_step ho (fun K' hK=>h K' (fun a w h1 h2=>hK a w ⟨h1,h2⟩))
theorem wpAnyF_done{listed:Array Bool}{a:Act}{w:World}(hr:Region.ready md ops listed=[])(h:Q .normal a w):∀fuel,wpAnyF P md ops Q F fuel listed a w
 |0=>⟨hr,h⟩
 |_+1=>⟨fun _=>h,by rw[hr];simp⟩
theorem wp_region_F{id:Nat}{a:Act}{w:World}(hm:P.follows .mixedOrders=true)(h:wpAnyF P .any ops Q F ops.size (Array.replicate ops.size false) a w.drew):(Code.region id ops true).wp P Q a w:=
 wp_region_any hm (wpAny_of_F _ _ _ _ h)
end
structure Pd(P:Program)(o:Oper)(τ:Nat→AV)(H:Nat→AO)(x:AV):Prop where
 run:∀ {L O:Nat→Prop} {w0:World} {N:Nat} {ρ:Nat→Value} {fp:Nat→List Nat} {a:Act} {w:World},RR L O w0 N τ H ρ fp a w→
  ∃c,RV L ρ H w x c∧∀W,(execOp a.eval o).run P W=.ok (.value c) W
section
variable {P:Program}{o:Oper}{τ:Nat→AV}{H:Nat→AO}
theorem Pd.pure{x:AV}(h:∀ {L:Nat→Prop} {ρ:Nat→Value} {a:Act} {w:World},(∀y,RV L ρ H w (ev τ y) (a.eval y))→∃c,RV L ρ H w x c∧∀W,(execOp a.eval o).run P W=.ok (.value c) W):Pd P o τ H x:=
 ⟨fun hr=>h (fun y=>hr.ev y)⟩
theorem pd_mvx{x:Operand}{v:AV}(ho:o.op=.move x∨o.op=.assign x)(hv:ev τ x=v):Pd P o τ H v:=by
 subst hv
 refine Pd.pure fun{L ρ a w} he=>⟨a.eval x,he x,fun W=>?_⟩
 rcases ho with ho|ho<;>simp[execOp,ho]
theorem pd_faddr{t:TypeId}{x:Operand}{k off:Nat}{ft:TypeId}{id i j:Nat}(ho:o.op=.fieldAddr t x k)(hf:fldA P t k=some (off,ft))(h0:P.cellsOf ft≠0)(hd:(P.underlying ft).isSome=true)(hx:ev τ x=.ptr id i j)(hH:(H id).here=true):Pd P o τ H (.ptr id i (j+off)):=by
 apply Pd.pure;intro L ρ a w he
 have h:=he x
 rw[hx,RV]at h
 obtain⟨p1,g,m,cap,p2,p3⟩:=h.2 hH
 refine⟨_,?_,faddr_run ho hf h0 hd p3⟩
 rw[RV]
 exact⟨rfl,fun _=>⟨p1,g,m,cap,p2,by rw[Nat.add_assoc]⟩⟩
theorem pd_nilc{x:Operand}{id r k:Nat}(ho:o.op=.nilCheck x)(hx:ev τ x=.ptr id r k)(hh:(H id).here=true):Pd P o τ H (.ptr id r k):=by
 refine Pd.pure fun{L ρ a w} he=>⟨a.eval x,hx▸he x,fun W=>?_⟩
 have h:=he x
 rw[hx,RV]at h
 obtain⟨_,g,m,cap,_,e⟩:=h.2 hh
 simp[execOp,ho,e]
end
def AF(P:Program)(L O:Nat→Prop)(w0:World)(N:Nat)(ops:Array Oper)(F:List Nat)(n:Nat)(listed:Array Bool)(τ:Nat→AV)(H:Nat→AO)(Q:AQ):Prop:=
 ∀ρ fp a w,RR L O w0 N τ H ρ fp a w→wpAnyF P .any ops (QQ L O w0 N Q) F n listed a w
section
variable {P:Program}{L O:Nat→Prop}{w0:World}{N:Nat}{τ τ':Nat→AV}{H H':Nat→AO}{Q:AQ}{ops:Array Oper}{o:Oper}{F:List Nat}{n:Nat}{listed:Array Bool}
theorem AW.drawF{id:Nat}(F:List Nat)(hm:P.follows .mixedOrders=true)(h:AF P L O w0 N ops F ops.size (Array.replicate ops.size false) τ H Q):AW P L O w0 N (.region id ops true) τ H Q:=fun ρ fp a w hr=>
 wp_region_F hm (h ρ fp a w.drew hr.drew)
theorem AF.done(hr:Region.ready .any ops listed=[])(h:Q .normal τ H):AF P L O w0 N ops F n listed τ H Q:=fun ρ fp a w hrr=>
 wpAnyF_done hr ⟨τ,H,ρ,fp,hrr,h⟩ n
theorem AF.rd{i:Nat}{x:AV}{t:Nat}(ho:ops[i]? = some o)(hr:Region.ready .any ops listed=[i])(hrd:Rd P o τ H (fun _=>false) x)(hg:gv τ ops o=some true)(hd:o.dst=some t)(ht:t<N)
 (h:AF P L O w0 N ops F n (listed.setIfInBounds i true) (upd τ t x) H Q):AF P L O w0 N ops F (n+1) listed τ H Q:=fun ρ fp a w hrr=>
 wpAnyF_one ho hr fun K hK=>by
  rw[hrr.wanted hg,if_pos rfl]
  obtain⟨c,h1,h2⟩:=hrd.run hrr
  unfold Oper.wp
  rw[h2 w (Keep.refl _ _ _ _)]
  refine hK _ _ (fun _=>KeepA.refl _) (h ρ fp _ w ?_)
  rw[hd]
  exact hrr.put h1 ht
theorem AF.no{i:Nat}{t:Nat}(ho:ops[i]? = some o)(hr:Region.ready .any ops listed=[i])(hg:gv τ ops o=some false)(hd:o.dst=some t)(ht:t<N)
 (h:AF P L O w0 N ops F n (listed.setIfInBounds i true) (upd τ t (.tup [])) H Q):AF P L O w0 N ops F (n+1) listed τ H Q:=fun ρ fp a w hrr=>
 wpAnyF_one ho hr fun K hK=>by
  rw[hrr.wanted hg,if_neg (by simp)]
  refine hK _ _ (fun _=>KeepA.refl _) (h ρ fp _ w ?_)
  rw[hd]
  exact hrr.put (by rw[RV];exact⟨[],rfl,by simp[RVL]⟩) ht
theorem AF.take{i:Nat}{x:AV}{t:Nat}(ho:ops[i]? = some o)(hr:(Region.ready .any ops listed).contains i=true)(hs:Region.noSelect ops=true)(hfr:Region.free .any ops listed i=true)
 (hb:reachF .any ops F listed i=true) (hc:closedB .any ops listed=true) (hrd:Rd P o τ H (fun _=>false) x) (hg:gv τ ops o=some true) (hd:o.dst=some t) (ht:t<N) (hnp:∀c τ H,¬Q (.panic c) τ H)
 (h:AF P L O w0 N ops F n (listed.setIfInBounds i true) (upd τ t x) H Q):AF P L O w0 N ops F (n+1) listed τ H Q:=fun ρ fp a w hrr=>by
 obtain⟨c,h1,h2⟩:=hrd.run hrr
 refine wpAnyF_take (v:=c) ho hs hfr hr hb hc (fun c a w ⟨τ,H,_,_,_,q⟩=>absurd q (hnp c τ H)) (.inl ⟨hrr.wanted hg,fun W hW=>h2 W hW.to⟩) (h ρ fp _ w ?_)
 rw[hd]
 exact hrr.put h1 ht
theorem AF.takeP{i:Nat}{x:AV}{t:Nat}(ho:ops[i]? = some o)(hr:(Region.ready .any ops listed).contains i=true)(hs:Region.noSelect ops=true)(hfr:Region.free .any ops listed i=true)
 (hc:closedB .any ops listed=true) (hrd:Pd P o τ H x) (hg:gv τ ops o=some true) (hd:o.dst=some t) (ht:t<N) (hnp:∀c τ H,¬Q (.panic c) τ H)
 (h:AF P L O w0 N ops F n (listed.setIfInBounds i true) (upd τ t x) H Q):AF P L O w0 N ops F (n+1) listed τ H Q:=fun ρ fp a w hrr=>by
 obtain⟨c,h1,h2⟩:=hrd.run hrr
 refine wpAnyF_takeP (v:=c) ho hs hfr hr hc (fun c a w ⟨τ,H,_,_,_,q⟩=>absurd q (hnp c τ H)) (.inl ⟨hrr.wanted hg,fun W _=>h2 W⟩) (h ρ fp _ w ?_)
 rw[hd]
 exact hrr.put h1 ht
theorem AF.skip{i:Nat}{t:Nat}(ho:ops[i]? = some o)(hr:(Region.ready .any ops listed).contains i=true)(hs:Region.noSelect ops=true)(hfr:Region.free .any ops listed i=true)
 (hc:closedB .any ops listed=true) (hg:gv τ ops o=some false) (hd:o.dst=some t) (ht:t<N) (hnp:∀c τ H,¬Q (.panic c) τ H)
 (h:AF P L O w0 N ops F n (listed.setIfInBounds i true) (upd τ t (.tup [])) H Q):AF P L O w0 N ops F (n+1) listed τ H Q:=fun ρ fp a w hrr=>by
 refine wpAnyF_takeP (v:=undef) ho hs hfr hr hc (fun c a w ⟨τ,H,_,_,_,q⟩=>absurd q (hnp c τ H)) (.inr ⟨hrr.wanted hg,rfl⟩) (h ρ fp _ w ?_)
 rw[hd]
 exact hrr.put (by rw[RV];exact⟨[],rfl,by simp[RVL]⟩) ht
theorem keepA_of{E:List Nat}{i:Nat}(hF:F.contains i=true∨E=[]){ρ ρ':Nat→Value}{w w':World}(hmv:∀X:Nat→Bool,(∀id∈E,X id=true)→Mv X ρ H w ρ' H' w'):F.contains i=false→KeepA w w':=fun q=>by
 rcases hF with hF|rfl
 ·rw[hF]at q;cases q
 ·exact KeepA.of (hmv (fun _=>false) (by simp)).1
theorem AF.st{i:Nat}{E:List Nat}(ho:ops[i]? = some o)(hr:Region.ready .any ops listed=[i])(hs:St P o N τ H E τ' H')(hF:F.contains i=true∨E=[])(hg:gv τ ops o=some true)
 (h:AF P L O w0 N ops F n (listed.setIfInBounds i true) τ' H' Q):AF P L O w0 N ops F (n+1) listed τ H Q:=fun ρ fp a w hrr=>
 wpAnyF_one ho hr fun K hK=>by
  rw[hrr.wanted hg,if_pos rfl]
  exact hs.run hrr (fun a' w' ρ' fp' hr' hmv=>hK _ _ (keepA_of hF hmv) (h ρ' fp' a' w' hr'))
theorem AF.stx{i:Nat}{E:List Nat}{Z:(Nat→AV)→(Nat→AO)→Prop}(ho:ops[i]? = some o)(hr:Region.ready .any ops listed=[i])(hs:StX P o N τ H E Z)(hF:F.contains i=true∨E=[])(hg:gv τ ops o=some true)
 (h:∀τ' H',Z τ' H'→AF P L O w0 N ops F n (listed.setIfInBounds i true) τ' H' Q):AF P L O w0 N ops F (n+1) listed τ H Q:=fun ρ fp a w hrr=>
 wpAnyF_one ho hr fun K hK=>by
  rw[hrr.wanted hg,if_pos rfl]
  exact hs.run hrr (fun τ' H' a' w' ρ' fp' hz hr' hmv=>hK _ _ (keepA_of hF hmv) (h τ' H' hz ρ' fp' a' w' hr'))
def AF1(P:Program)(L O:Nat→Prop)(w0:World)(N:Nat)(ops:Array Oper)(F:List Nat)(n:Nat)(listed:Array Bool)(i:Nat)(τ:Nat→AV)(H:Nat→AO)(Q:AQ):Prop:=
 ∀ρ fp a w,RR L O w0 N τ H ρ fp a w→wpOp P ops (QQ L O w0 N Q) i (fun a' w'=>(F.contains i=false→KeepA w w')∧wpAnyF P .any ops (QQ L O w0 N Q) F n (listed.setIfInBounds i true) a' w') a w
theorem AF.two{i j:Nat}(hr:Region.ready .any ops listed=[i,j])(h1:AF1 P L O w0 N ops F n listed i τ H Q)(h2:AF1 P L O w0 N ops F n listed j τ H Q):AF P L O w0 N ops F (n+1) listed τ H Q:=fun ρ fp a w hrr=>by
 refine⟨fun h0=>(by rw[hr]at h0;cases h0),fun k hk=>?_⟩
 rw[hr]at hk
 simp only[List.mem_cons,List.not_mem_nil,or_false]at hk
 rcases hk with rfl|rfl
 ·exact h1 ρ fp a w hrr
 ·exact h2 ρ fp a w hrr
theorem AF1.st{i:Nat}{E:List Nat}(ho:ops[i]? = some o)(hs:St P o N τ H E τ' H')(hF:F.contains i=true∨E=[])(hg:gv τ ops o=some true)
 (h:AF P L O w0 N ops F n (listed.setIfInBounds i true) τ' H' Q):AF1 P L O w0 N ops F n listed i τ H Q:=fun ρ fp a w hrr=>
 wpOp_step ho fun K hK=>by
  rw[hrr.wanted hg,if_pos rfl]
  exact hs.run hrr (fun a' w' ρ' fp' hr' hmv=>hK _ _ ⟨keepA_of hF hmv,h ρ' fp' a' w' hr'⟩)
theorem AF.bool{b:Bool}{t:Nat}(ht:τ t=.p (.v (.bool b)))(h1:b=true→AF P L O w0 N ops F n listed (upd τ t (.p (.v (.bool true)))) H Q)(h2:b=false→AF P L O w0 N ops F n listed (upd τ t (.p (.v (.bool false)))) H Q):AF P L O w0 N ops F n listed τ H Q:=by
 cases b
 ·have:=h2 rfl;rwa [upd_self ht]at this
 ·have:=h1 rfl;rwa [upd_self ht]at this
theorem AF.slot(t:Nat)(x:AV)(ht:τ t=x)(h:AF P L O w0 N ops F n listed (upd τ t x) H Q):AF P L O w0 N ops F n listed τ H Q:=by rwa [upd_self ht]at h
theorem AF.obj(i:Nat)(x:AO)(ht:H i=x)(h:AF P L O w0 N ops F n listed τ (upd H i x) Q):AF P L O w0 N ops F n listed τ H Q:=by rwa [upd_self ht]at h
theorem AF.freeze(id:Nat){e:Pin}{sz:Nat}{rows:List (List PV)}(hH:H id=.arr e sz rows)(h:AF P L O w0 N ops F n listed (fun t=>frz id (.lst e.ty sz rows) (τ t)) (frzH id (.lst e.ty sz rows) H) Q):AF P L O w0 N ops F n listed τ H Q:=
 fun ρ fp a w hr=>h ρ _ a w (hr.freeze id hH)
theorem AF.pinB(id:Nat){T:TypeId}{cells:List AV}{p:Option Value}(hH:H id=.box T p cells)(h:∀g,AF P L O w0 N ops F n listed τ (upd H id (.box T (some g) cells)) Q):AF P L O w0 N ops F n listed τ H Q:=fun ρ fp a w hr=>h (ρ id) ρ fp a w (hr.pinB hH)
theorem AF.pinA(id:Nat){e:Pin}{sz:Nat}{rows:List (List PV)}(hH:H id=.arr e sz rows)(h:∀g,AF P L O w0 N ops F n listed τ (upd H id (.arr ⟨e.ty,some g⟩ sz rows)) Q):AF P L O w0 N ops F n listed τ H Q:=fun ρ fp a w hr=>h (ρ id) ρ fp a w (hr.pinA hH _ (fun u hu=>by injection hu with hu;exact hu.symm))
end

-- A value of own rows and of what refers to no memory.
mutual
def ownA:AV→Bool
 |.p (.v _)=>true
 |.own _=>true
 |.agg l=>ownAL l
 |.tup l=>ownAL l
 |_=>false
def ownAL:List AV→Bool
 |[]=>true
 |x::l=>ownA x&&ownAL l
end
section
variable {L L':Nat→Prop}{H H':Nat→AO}{ρ ρ':Nat→Value}{w w':World}
mutual
def ownN:AV→List Nat
 |.own id=>[id]
 |.agg l=>ownNL l
 |.tup l=>ownNL l
 |_=>[]
def ownNL:List AV→List Nat
 |[]=>[]
 |x::l=>ownN x++ownNL l
end
mutual
theorem RV.owned:∀(x:AV) {c:Value},ownA x=true→RV L ρ H w x c→(∀id∈ownN x,(H id).here=true∧ρ' id=ρ id)→RV L' ρ' H' w' x c
 |.p (.v v),c,_,h,_=>by
  rw[RV]at *
  obtain⟨fp,h1,_⟩:=h
  rw[RW]at h1
  obtain⟨h1,rfl,h2⟩:=h1
  exact⟨[],by rw[RW];exact⟨h1,rfl,h2⟩,by simp⟩
 |.own id,c,_,h,k=>by
  rw[RV]at *
  obtain⟨q1,q2⟩:=k id (by simp[ownN])
  exact⟨h.1,fun q=>by rw[h.2 q1,q2]⟩
 |.agg l,c,hf,h,k=>by
  unfold ownA at hf
  rw[RV]at *
  obtain⟨cs,rfl,h1⟩:=h
  exact⟨cs,rfl,RVL.owned l hf h1 fun id hid=>k id (by unfold ownN;exact hid)⟩
 |.tup l,c,hf,h,k=>by
  unfold ownA at hf
  rw[RV]at *
  obtain⟨cs,rfl,h1⟩:=h
  exact⟨cs,rfl,RVL.owned l hf h1 fun id hid=>k id (by unfold ownN;exact hid)⟩
 |.p (.lst _ _ _),_,hf,_,_=>by simp[ownA]at hf
 |.sub _ _ _,_,hf,_,_=>by simp[ownA]at hf
 |.ptr _ _ _,_,hf,_,_=>by simp[ownA]at hf
 |.rp _,_,hf,_,_=>by simp[ownA]at hf
 |.clo _ _ _,_,hf,_,_=>by simp[ownA]at hf
 |.dead,_,hf,_,_=>by simp[ownA]at hf
 |.bad,_,hf,_,_=>by simp[ownA]at hf
theorem RVL.owned:∀(x:List AV) {c:List Value},ownAL x=true→RVL L ρ H w x c→(∀id∈ownNL x,(H id).here=true∧ρ' id=ρ id)→RVL L' ρ' H' w' x c
 |[],c,_,h,_=>by rw[RVL]at *;exact h
 |x::xs,c,hf,h,k=>by
  unfold ownAL at hf
  simp only[Bool.and_eq_true]at hf
  rw[RVL]at *
  obtain⟨c,r,rfl,h1,h2⟩:=h
  exact⟨c,r,rfl,RV.owned x hf.1 h1 (fun id hid=>k id (by unfold ownNL;exact List.mem_append_left _ hid)),RVL.owned xs hf.2 h2 (fun id hid=>k id (by unfold ownNL;exact List.mem_append_right _ hid))⟩
end
end
def inO(l:List (Nat×AO))(i:Nat):Bool:=(l.map Prod.fst).contains i
theorem ofO_app{l m:List (Nat×AO)}{i:Nat}:ofO (l++m) i=if inO l i=true then ofO l i else ofO m i:=by
 induction l with
 |nil=>simp[inO]
 |cons p l ih=>
  obtain⟨j,o⟩:=p
  by_cases e:j=i
  ·subst e
   simp[ofO,inO]
  ·have e':¬i=j:=fun q=>e q.symm
   have h1:inO ((j,o)::l) i=inO l i:=by simp[inO,e']
   rw[h1]
   simp only[List.cons_append,ofO,if_neg e']
   exact ih
theorem ofO_out{l:List (Nat×AO)}{i:Nat}(h:inO l i=false):ofO l i=.gone:=by
 induction l with
 |nil=>rfl
 |cons p l ih=>
  obtain⟨j,o⟩:=p
  by_cases e:i=j
  ·subst e;simp[inO]at h
  ·have h1:inO ((j,o)::l) i=inO l i:=by simp[inO,e]
   rw[h1]at h
   simp only[ofO,if_neg e]
   exact ih h
def flatO:AO→Prop
 |.arr e sz rows=>e.pt=none∧∀r∈rows,∀p∈r,∃v,p=PV.v v
 |_=>False
def arrO:AO→Bool
 |.arr _ _ _=>true
 |_=>false
theorem ofO_mem{l:List (Nat×AO)}{i:Nat}(h:inO l i=true):∃o,(i,o)∈l∧ofO l i=o:=by
 induction l with
 |nil=>simp[inO]at h
 |cons p l ih=>
  obtain⟨j,o⟩:=p
  by_cases e:i=j
  ·subst e;exact⟨o,by simp,by simp[ofO]⟩
  ·have h1:inO ((j,o)::l) i=inO l i:=by simp[inO,e]
   rw[h1]at h
   obtain⟨o',q1,q2⟩:=ih h
   exact⟨o',List.mem_cons_of_mem _ q1,by simp only[ofO,if_neg e];exact q2⟩
theorem GC.lent{P:Program}{f:FuncId}{args args':List AV}{x:AV}{ob0 ob1:List (Nat×AO)}(hc:GC P f args [] x ob1)(hl:lendL (ofO ob0) args'=args)(hx:ownA x=true)(hn:∀id∈ownN x,inO ob1 id=true)(h0:∀p∈ob0,arrO p.2=true)(h1:∀p∈ob1,flatO p.2)(hd:∀p∈ob0,inO ob1 p.1=false) :
 GC P f args' ob0 x (ob1++ob0):=by
 intro L w cs ρ fp hL hargs hob hdj hLf
 have hv:=RVL.lend (fun id=>⟨_,hob id⟩) args' hargs
 rw[hl]at hv
 refine Calls.mono (hc L0 w cs ρ0 (fun _=>[]) (fun _ q=>q.elim) hv (fun i=>rfl) (by simp) (by simp)) ?_
 rintro e w' ⟨y,o,⟨hy,ho⟩,v,ρ',fp',rfl,g1,g2,g3,g4,g5⟩
 replace hy:=hy.symm
 replace ho:=ho.symm
 subst hy ho
 have hnew:∀i,∀b∈fp' i,w.heap.size≤b:=fun i b hb=>by
  rcases(g5 i b hb).1 with⟨j,q⟩|q
  ·cases q
  ·exact q
 have hsame:∀b,b<w.heap.size→w'.heap[b]? = w.heap[b]?:=fun b hb=>g1.block b hb (by simp)
 generalize hρ2:(fun i=>if inO ob1 i=true then ρ' i else ρ i)=ρ2
 generalize hf2:(fun i=>if inO ob1 i=true then fp' i else fp i)=f2
 have eρ1:∀ {i},inO ob1 i=true→ρ2 i=ρ' i:=fun{i} h=>by rw[←hρ2];simp only[h,if_true]
 have eρ0:∀ {i},inO ob1 i=false→ρ2 i=ρ i:=fun{i} h=>by rw[←hρ2];simp[h]
 have ef1:∀ {i},inO ob1 i=true→f2 i=fp' i:=fun{i} h=>by rw[←hf2];simp only[h,if_true]
 have ef0:∀ {i},inO ob1 i=false→f2 i=fp i:=fun{i} h=>by rw[←hf2];simp[h]
 have eH1:∀ {i},inO ob1 i=true→ofO (ob1++ob0) i=ofO ob1 i:=fun{i} h=>by rw[ofO_app,if_pos h]
 have eH0:∀ {i},inO ob1 i=false→ofO (ob1++ob0) i=ofO ob0 i:=fun{i} h=>by rw[ofO_app,if_neg (by simp[h])]
 have hlive:∀b,b<w.heap.size→¬live L ρ (ofO ob0) b→¬live L ρ2 (ofO (ob1++ob0)) b:=by
  rintro b hb hn (hl|⟨i,q1,q2⟩)
  ·exact hn (.inl hl)
  ·rcases hi:inO ob1 i with _|_
   ·rw[eH0 hi]at q1;rw[eρ0 hi]at q2;exact hn (.inr ⟨i,q1,q2⟩)
   ·rw[eH1 hi]at q1;rw[eρ1 hi]at q2
    have:=hnew i b ((g3 i).top q1 q2)
    omega
 have E:Env L ρ ρ2 (ofO ob0) (ofO (ob1++ob0)) w w' (inO ob1):=⟨g1.size,fun b hb hn=>⟨hsame b hb,hlive b hb hn⟩,fun i hk hi=>by
  rw[eH0 hk]at hi ⊢
  exact⟨hi,eρ0 hk,rfl,rfl⟩⟩
 refine⟨x,ob1++ob0,⟨rfl,rfl⟩,v,ρ2,f2,rfl,⟨g1.os,g1.tape,g1.output,g1.size,fun b hb _=>hsame b hb,fun b o hb hlt=>?_⟩,?_,fun i=>?_,fun i j hij b hb hb'=>?_,fun i b hb=>?_⟩
 ·rcases Nat.lt_or_ge b w.heap.size with hb2|hb2
  ·rcases hb with⟨i,hi⟩|hb
   ·rw[World.frozen?_of_block (w:=w) (hsame b hb2)]
    exact(hob i).frozen b hi o
   ·omega
  ·exact g1.nf b o (.inr hb2) hlt
 ·refine RV.owned x hx g2 fun id hid=>?_
  obtain⟨o,q1,q2⟩:=ofO_mem (hn id hid)
  have hfl:=h1 _ q1
  refine⟨?_,eρ1 (hn id hid)⟩
  rw[q2]
  cases o with
  |arr e sz rows=>rfl
  |box T p c=>exact hfl.elim
  |gone=>exact hfl.elim
 ·rcases hi:inO ob1 i with _|_
  ·rw[eH0 hi,eρ0 hi,ef0 hi]
   have h:=(hob i).env E (fun b hb=>hsame b ((hob i).lt b hb))
   have ek:(ofO ob0 i).kil (inO ob1)=ofO ob0 i:=by
    rcases hj:inO ob0 i with _|_
    ·rw[ofO_out hj];rfl
    ·obtain⟨o,q1,q2⟩:=ofO_mem hj
     have:=h0 _ q1
     rw[q2]
     cases o with
     |arr e sz rows=>rfl
     |box T p c=>cases this
     |gone=>rfl
   rwa [ek]at h
  ·rw[eH1 hi,eρ1 hi,ef1 hi]
   obtain⟨o,q1,q2⟩:=ofO_mem hi
   have hfl:=h1 _ q1
   have h:=g3 i
   rw[q2]at h ⊢
   cases o with
   |arr e sz rows=>
    obtain⟨xs,fr,k1,k2,k3,k4,k5⟩:=h
    have hfr:=k1.flat_fp hfl.2
    subst hfr
    exact⟨xs,[],k1,by simp,k3,k4,k5⟩
   |box T p c=>exact hfl.elim
   |gone=>exact hfl.elim
 ·rcases hi:inO ob1 i with _|_<;>rcases hj:inO ob1 j with _|_
  ·rw[ef0 hi]at hb;rw[ef0 hj]at hb';exact hdj i j hij b hb hb'
  ·rw[ef0 hi]at hb;rw[ef1 hj]at hb'
   have:=(hob i).lt b hb
   have:=hnew j b hb'
   omega
  ·rw[ef1 hi]at hb;rw[ef0 hj]at hb'
   have:=(hob j).lt b hb'
   have:=hnew i b hb
   omega
  ·rw[ef1 hi]at hb;rw[ef1 hj]at hb';exact g4 i j hij b hb hb'
 ·rcases hi:inO ob1 i with _|_
  ·rw[ef0 hi]at hb;exact⟨.inl ⟨i,hb⟩,hLf i b hb⟩
  ·rw[ef1 hi]at hb
   have:=hnew i b hb
   exact⟨.inr this,fun hl=>by have:=hL b hl;omega⟩
section
variable {P:Program}{L O:Nat→Prop}{w0:World}{N:Nat}{τ:Nat→AV}{H:Nat→AO}{Q:AQ}{ops:Array Oper}{F:List Nat}{n:Nat}{listed:Array Bool}
theorem pd_ext{o:Oper}{x:Operand}{k:Nat}{r:AV}(ho:o.op=.extract x k)(h:extv (ev τ x) k=some r):Pd P o τ H r:=by
 apply Pd.pure;intro L ρ a w he
 have hx:=he x
 generalize ev τ x=vx at *
 unfold extv at h
 split at h
 ·rw[RV]at hx
  obtain⟨cs,e,hl⟩:=hx
  obtain⟨u,k1,k2⟩:=RVL.get hl h
  refine⟨u,k2,fun W=>?_⟩
  simp[execOp,ho,e,Instr.extract,k1]
 ·cases h
theorem AF.three{i j k:Nat}(hr:Region.ready .any ops listed=[i,j,k])(h1:AF1 P L O w0 N ops F n listed i τ H Q)(h2:AF1 P L O w0 N ops F n listed j τ H Q)(h3:AF1 P L O w0 N ops F n listed k τ H Q):AF P L O w0 N ops F (n+1) listed τ H Q:=fun ρ fp a w hrr=>by
 refine⟨fun h0=>(by rw[hr]at h0;cases h0),fun m hm=>?_⟩
 rw[hr]at hm
 simp only[List.mem_cons,List.not_mem_nil,or_false]at hm
 rcases hm with rfl|rfl|rfl
 ·exact h1 ρ fp a w hrr
 ·exact h2 ρ fp a w hrr
 ·exact h3 ρ fp a w hrr
end
end Go.Proofs.Yteblcdnhnckkaaa

