/- Texts of the proof of FnFnAgain, joined: E10, E11, E12, E13, E14, E15, E16, E17, E18, E19. -/
import Derived.Test.YtflhgkmhmcfimaaGreatJAgain2
import Derived.Test.YtflhgkmhmcfimaaGreatQSup
import Derived.Laws.StructEq
namespace Go.Proofs.YtflhgkmhmcfimaaGreat
set_option maxRecDepth 100000
open Go.RowKit
set_option linter.unusedSimpArgs false
set_option linter.unusedVariables false
mutual
def cO(id:Nat)(y:PV):AV->AV
 |.own j=>if j=id then .p y else .own j
 |.sub j off len=>if j=id then .dead else .sub j off len
 |.ptr j r c=>if j=id then .dead else .ptr j r c
 |.agg cs=>.agg (qv id y cs)
 |.au cs=>.au (qv id y cs)
 |.fQ fn f cs=>.fQ fn (qv id y f) (qv id y cs)
 |x=>x
def qv(id:Nat)(y:PV):List AV->List AV
 |[]=>[]
 |x::xs=>cO id y x::qv id y xs
end
def AO.cO(id:Nat)(y:PV):AO->AO
 |.box T p cells=>.box T p (qv id y cells)
 |o=>o
theorem Fa(id:Nat)(y:PV):∀l,(qv id y l).length=l.length
 |[]=>rfl
 |x::xs=>by rw[qv,List.length_cons,Fa id y xs,List.length_cons]
theorem A4(id:Nat)(y:PV)(o:AO):(o.cO id y).here=o.here:=by cases o<;>rfl
theorem NZ(id:Nat)(y:PV)(o:AO):(o.cO id y).len=o.len:=by cases o<;>rfl
theorem N0(id:Nat)(y:PV)(o:AO):(o.cO id y).sz=o.sz:=by
 cases o with
 |box T p cells=>exact Fa id y cells
 |_=>rfl
theorem Xs(id:Nat)(y:PV)(x:AV)(h:x.cell=true):(cO id y x).cell=true:=by
 cases x<;>simp only[AV.cell,Bool.false_eq_true]at h<;>simp only[cO];all_goals first|rfl|(split<;>rfl)
theorem Iv(id:Nat)(y:PV):∀(l:List AV),(∀x∈l,x.cell=true)->∀x∈qv id y l,x.cell=true
 |[],h=>h
 |z::l,h=>by
  rw[qv];intro x hx;rcases List.mem_cons.1 hx with rfl|hx
  ·exact Xs id y z (h z x_19)
  exact Iv id y l (fun u hu=>h u (by simp[hu])) x hx
structure Fb(id:Nat)(y:PV)(L:Nat->Prop)(ρ:Nat->Value)(H H':Nat->AO)(w:World):Prop where
 live:∀b,¬live L ρ H b->¬live L ρ H' b
 obj:∀j,j≠id->(H' j).here=true->(H j).here=true/\(H' j).len=(H j).len/\(H' j).sz=(H j).sz
 here:(H id).here=true
 val:RV L ρ H' w (.p y) (ρ id)
section
variable {id:Nat}{y:PV}{L:Nat->Prop}{ρ:Nat->Value}{H H':Nat->AO}{w:World}
mutual
theorem RV.cO(R:Fb id y L ρ H H' w):∀(x:AV) {c:Value},RV L ρ H w x c->RV L ρ H' w (cO id y x) c
 |.p x,c,h=>by
  rw[_root_.Go.Proofs.YtflhgkmhmcfimaaGreat.cO]<;>try (intros;contradiction)
  rw[RV]at *;obtain⟨fp,V,h2⟩:=h;exact⟨fp,V,fun b hb=>R.live b (h2 b hb)⟩
 |.own j,c,h=>by
  rw[_root_.Go.Proofs.YtflhgkmhmcfimaaGreat.cO];rw[RV]at h;split
  ·rename_i q;subst q;rw[h.2 R.here];exact R.val
  rename_i q;rw[RV];exact⟨h.1,fun ho=>h.2 (R.obj j q ho).1⟩
 |.sub j off len,c,h=>by
  rw[_root_.Go.Proofs.YtflhgkmhmcfimaaGreat.cO];rw[RV]at h;split
  ·grind[RV]
  rename_i q;rw[RV];exact⟨h.1,fun ho=>by
   obtain⟨V,h3,h4⟩:=R.obj j q ho;grind⟩
 |.ptr j i kk,c,h=>by
  rw[_root_.Go.Proofs.YtflhgkmhmcfimaaGreat.cO];rw[RV]at h;split
  ·grind[RV]
  rename_i q;rw[RV];exact⟨h.1,fun ho=>by
   obtain⟨V,h3,h4⟩:=R.obj j q ho;grind⟩
 |.rp cells,c,h=>by
  rw[_root_.Go.Proofs.YtflhgkmhmcfimaaGreat.cO]<;>try (intros;contradiction)
  rw[RV]at *;obtain⟨b,off,cs,fp,rfl,V,h2,h3,h4,h5⟩:=h;exact⟨b,off,cs,fp,rfl,V,h2,h3,R.live b h4,fun b hb=>R.live b (h5 b hb)⟩
 |.agg l,c,h=>by
  rw[_root_.Go.Proofs.YtflhgkmhmcfimaaGreat.cO];rw[RV]at *;obtain⟨cs,rfl,V⟩:=h;simp_all[bf.cO]
 |.au l,c,h=>by
  rw[_root_.Go.Proofs.YtflhgkmhmcfimaaGreat.cO];rw[RV]at *;obtain⟨cs,rfl,V⟩:=h;simp_all[bf.cO]
 |.fQ fn f l,c,h=>by
  rw[_root_.Go.Proofs.YtflhgkmhmcfimaaGreat.cO];rw[RV]at *;obtain⟨fs,cs,rfl,V,h2⟩:=h;exact⟨fs,cs,rfl,bf.cO R f V,bf.cO R l h2⟩
 |.dead,c,h=>by
  trivial
 |.bad,c,h=>by
  trivial
theorem bf.cO(R:Fb id y L ρ H H' w):∀(x:List AV) {c:List Value},bf L ρ H w x c->bf L ρ H' w (qv id y x) c
 |[],c,h=>by trivial
 |x::xs,c,h=>by
  rw[qv];rw[bf]at *;obtain⟨c,r,rfl,V,h2⟩:=h;exact⟨c,r,rfl,RV.cO R x V,bf.cO R xs h2⟩
end
end
def so(id:Nat)(y:PV)(H:Nat->AO):Nat->AO:=aH (fun j=>(H j).cO id y) id .gone
section
variable {P:Program}{o:Oper}{N:Nat}{τ:Nat->AV}{H:Nat->AO}{L O:Nat->Prop}{w0:World}{ops:Array Oper}{l:List Oper}{Q:AQ}
theorem RR.freeze{ρ:Nat->Value}{fp:Nat->List Nat}{a:Act}{w:World}(h:RR L O w0 N τ H ρ fp a w)(id:Nat){e:ga}{sz:Nat}{rows:List (List PV)}(hH:H id=.ai e sz rows) :
 RR L O w0 N (fun t=>cO id (.ab e.ty sz rows) (τ t)) (so id (.ab e.ty sz rows) H) ρ (aH fp id []) a w:=by
 have bO:∀ {j},j≠id->so id (.ab e.ty sz rows) H j=(H j).cO id (.ab e.ty sz rows):=fun{j} q=>eX _ _ q
 have pk:so id (.ab e.ty sz rows) H id=.gone:=dV _ _ _
 have re:∀b,live L ρ (so id (.ab e.ty sz rows) H) b->live L ρ H b:=by
  rintro b (hl|⟨j,q1,q2⟩)
  ·exact .inl hl
  by_cases ej:j=id
  ·subst ej;rw[pk]at q1;cases q1
  rw[bO ej,A4]at q1;exact .inr ⟨j,q1,q2⟩
 have bY:=h.ob id
 rw[hH]at bY
 obtain⟨xs,fr,b1,b2,b3,b4,_⟩:=bY
 have R:Fb id (.ab e.ty sz rows) L ρ H (so id (.ab e.ty sz rows) H) w:=by
  refine⟨fun b hn hl=>hn (re b hl),fun j hj hh=>?_,by rw[hH];rfl,?_⟩
  ·grind[A4,NZ,N0]
  rw[RV];rcases b3.2 with⟨q,q2⟩|⟨g,cap,cur,q,_,hg,hnc,bC,_⟩
  ·refine⟨[]++fr,?_,fun b hb hl=>b2 b (by simpa using hb) (re b hl)⟩;rw[RW];refine⟨xs,[],fr,b1,?_,rfl⟩;unfold iF;grind
  have tc:=b3;rw[q]at tc;refine⟨[g]++fr,?_,fun b hb hl=>?_⟩
  ·rw[RW];refine⟨xs,[g],fr,b1,?_,rfl⟩;unfold iF;simp only[Bool.false_eq_true,if_false];exact⟨_,cap,q,hnc,bC,.inr ⟨g,0,rfl,vl tc,(Array.getElem?_eq_some_iff.1 hg).1,rfl⟩⟩
  rcases List.mem_append.1 hb with hb|hb
  ·have te:b=g:=by simpa using hb
   subst te;have N1:b∈fp id:=by rw[b4,q];simp[Value.ownBlock]
   rcases hl with hl|⟨j,q1,q2⟩
   ·exact(h.own id b N1).2 hl
   by_cases ej:j=id
   ·subst ej;rw[pk]at q1;cases q1
   rw[bO ej,A4]at q1;exact h.dj j id ej b ((h.ob j).top q1 q2) N1
  grind
 refine⟨h.jp,h.size,h.defers,fun t=>RV.cO R _ (h.tm t),fun j=>?_,fun i j gF b hb ec=>?_,fun j b hb=>?_,h.lo⟩
 ·by_cases ej:j=id
  ·subst ej;rw[pk,dV];rfl
  rw[bO ej,eX _ _ ej]
  have:=h.ob j
  cases hj:H j with
  |box T p cells=>
   rw[hj]at this
   obtain⟨ys,V,h2,h3,h4,h5⟩:=this
   exact⟨ys,bf.cO R cells V,Iv _ _ cells h2,by grind[Fa],h4,h5⟩
  |ai e' s' r'=>
   rw[hj]at this
   obtain⟨ys,tp,V,h2,h3,h4⟩:=this
   exact⟨ys,tp,V,fun b hb=>R.live b (h2 b hb),h3,h4⟩
  |gone=>rw[hj]at this;exact this
 ·by_cases e1:i=id
  ·grind[dV]
  by_cases e2:j=id
  ·grind[dV]
  rw[eX _ _ e1]at hb
  rw[eX _ _ e2]at ec
  exact h.dj i j gF b hb ec
 by_cases e1:j=id
 ·grind[dV]
 rw[eX _ _ e1]at hb;exact h.own j b hb
theorem AW.freeze(id:Nat){c:Code}{e:ga}{sz:Nat}{rows:List (List PV)}(hH:H id=.ai e sz rows)(h:AW P L O w0 N c (fun t=>cO id (.ab e.ty sz rows) (τ t)) (so id (.ab e.ty sz rows) H) Q):AW P L O w0 N c τ H Q:=
 fun ρ fp a w hr=>h ρ _ a w (hr.freeze id hH)
theorem AL.freeze(id:Nat){e:ga}{sz:Nat}{rows:List (List PV)}(hH:H id=.ai e sz rows)(h:AL P L O w0 N ops l (fun t=>cO id (.ab e.ty sz rows) (τ t)) (so id (.ab e.ty sz rows) H) Q):AL P L O w0 N ops l τ H Q:=
 fun ρ fp a w hr=>h ρ _ a w (hr.freeze id hH)
theorem AG.freeze(id:Nat){f:Nat}{X:Nat->Bool}{n:Nat}{av:Array Bool}{e:ga}{sz:Nat}{rows:List (List PV)}(hH:H id=.ai e sz rows)(h:AG P L O w0 N ops f X n av (fun t=>cO id (.ab e.ty sz rows) (τ t)) (so id (.ab e.ty sz rows) H) Q):AG P L O w0 N ops f X n av τ H Q:=
 fun ρ fp a w hr=>zp (fun W hW=>⟨hW.1,fun b hb hn=>hW.2 b hb (fun j q1 q2 q3=>by
  by_cases ej:j=id
  ·subst ej;rw[show so j (.ab e.ty sz rows) H j=.gone from dV _ _ _]at q2;cases q2
  simp_all[so,eX,A4])⟩) _ _ _ _ (h ρ _ a w (hr.freeze id hH))
theorem x_104{p:Prop}(c:p:=by exact ⟨[],[],by simp[bI],by simp,World.ownsRow_nil _ _ _ _,rfl,fun u hu=>by cases hu⟩):p:=c
theorem RR.oP{ρ:Nat->Value}{fp:Nat->List Nat}{a:Act}{w:World}(h:RR L O w0 N τ H ρ fp a w)(id t:Nat)(e:TypeId)(sz:Nat)(ht:τ t=.p (.v (.slice none 0 0))) :
 RR L O w0 N (aH (fun s=>bq (cK id) (τ s)) t (.own id)) (aH (fun j=>(H j).bq (cK id)) id (.ai e sz [])) (aH ρ id (.slice none 0 0)) (aH fp id []) a w:=by
 have V:=h.Cb (cK id) (id:=id) (o':=.ai e sz []) (v':=.slice none 0 0) (f':=[]) h.jp (Nat.le_refl _) (fun _ _ _=>rfl) (fun hk=>by grind[cK]) (fun _ b hb=>by cases hb) (fun E=>x_104) x_19 x_19
 refine⟨V.jp,V.size,V.defers,fun s=>?_,V.ob,V.dj,V.own,V.lo⟩
 by_cases e1:s=t
 ·subst e1
  rw[dV]
  have h2:=h.tm s
  rw[ht]at h2
  rw[h2.gd,RV]
  exact⟨rfl,fun _=>(dV _ _ _).symm⟩
 rw[eX _ _ e1];exact V.tm s
theorem AW.oP(id t:Nat)(e:TypeId)(sz:Nat){c:Code}(ht:τ t=.p (.v (.slice none 0 0)))(h:AW P L O w0 N c (aH (fun s=>bq (cK id) (τ s)) t (.own id)) (aH (fun j=>(H j).bq (cK id)) id (.ai e sz [])) Q):AW P L O w0 N c τ H Q:=
 fun ρ fp a w hr=>h _ _ a w (hr.oP id t e sz ht)
theorem RR.pi{ρ:Nat->Value}{fp:Nat->List Nat}{a:Act}{w:World}(h:RR L O w0 N τ H ρ fp a w)(id b k:Nat)(e:TypeId)(sz:Nat){T:TypeId}{p:Option Value}{cells:List AV}(hb:H b=.box T p cells)(zT:b≠id)(hk:cells[k]? = some (.p (.v (.slice none 0 0)))) :
 RR L O w0 N (fun s=>bq (cK id) (τ s)) (aH (aH (fun j=>(H j).bq (cK id)) id (.ai e sz [])) b (.box T p ((iA (cK id) cells).set k (.own id)))) (aH ρ id (.slice none 0 0)) (aH fp id []) a w:=by
 have V:=h.Cb (cK id) (id:=id) (o':=.ai e sz []) (v':=.slice none 0 0) (f':=[]) h.jp (Nat.le_refl _) (fun _ _ _=>rfl) (fun hk=>by simp[cK]at hk) (fun _ b hb=>by cases hb) (fun E=>x_104) x_19 x_19
 generalize Iw:aH (fun j=>(H j).bq (cK id)) id (.ai e sz [])=H1 at *
 have lG:H1 b=.box T p (iA (cK id) cells):=by rw[<-Iw,eX _ _ zT,hb];rfl
 have hi1:(H1 id).here=true:=by rw[<-Iw,dV];rfl
 generalize aH ρ id (.slice none 0 0)=pM at *
 have E:Env L pM pM H1 (aH H1 b (.box T p ((iA (cK id) cells).set k (.own id)))) w w kT:=by
  refine⟨Nat.le_refl _,fun b' _ hn=>⟨rfl,?_⟩,fun j _ hj=>?_⟩
  ·rintro(hl|⟨j,q1,q2⟩)
   ·exact hn (.inl hl)
   by_cases ej:j=b
   ·subst ej;exact hn (.inr ⟨j,by rw[lG];rfl,q2⟩)
   rw[eX _ _ ej]at q1;exact hn (.inr ⟨j,q1,q2⟩)
  by_cases ej:j=b
  ·subst ej;rw[dV,lG];exact⟨rfl,rfl,rfl,by simp[AO.sz]⟩
  rw[eX _ _ ej]at hj ⊢;exact⟨hj,rfl,rfl,rfl⟩
 refine⟨V.jp,V.size,V.defers,fun s=>by have:=RV.env E _ (V.tm s);rwa [mf]at this,fun j=>?_,V.dj,V.own,V.lo⟩
 have hj:=(V.ob j).env E (fun _ _=>rfl)
 rw[AO.mf]at hj
 by_cases ej:j=b
 ·subst ej
  rw[dV]
  rw[lG]at hj
  obtain⟨xs,k1,k2,k3,k4,k5⟩:=hj
  have hc:=(h.ob j)
  rw[hb]at hc
  have uG:(iA (cK id) cells)[k]? = some (.p (.v (.slice none 0 0))):=by
   have:∀(l:List AV) (k:Nat),l[k]? = some (.p (.v (.slice none 0 0)))->(iA (cK id) l)[k]? = some (.p (.v (.slice none 0 0))):=by
    intro l;induction l with
    |nil=>intro k h;simp at h
    |cons x l ih=>
     intro k h;cases k with
     |zero=>simp at h;subst h;simp[iA,bq]
     |succ k=>simp at h;rw[iA];simpa using ih k h
   exact this cells k hk
  obtain⟨u,u1,u2⟩:=Co k1 uG
  have hu:=u2.gd
  subst hu
  refine⟨xs,?_,fun z hz=>?_,by rw[List.length_set];exact k3,k4,k5⟩
  ·have gen:∀(l:List AV) (cs:List Value) (k':Nat) (u:Value),bf L pM (aH H1 j (.box T p ((iA (cK id) cells).set k (.own id)))) w l cs->cs[k']? = some u->RV L pM (aH H1 j (.box T p ((iA (cK id) cells).set k (.own id)))) w (.own id) u->bf L pM (aH H1 j (.box T p ((iA (cK id) cells).set k (.own id)))) w (l.set k' (.own id)) cs:=by
    intro l;induction l with
    |nil=>intro cs k' u h _ _;exact h
    |cons x l ih=>
     intro cs k' u h hu hv;rw[bf]at h;obtain⟨c,r,rfl,V,h2⟩:=h;cases k' with
     |zero=>
      rw[List.set_cons_zero,bf];simp at hu;subst hu;exact⟨c,r,rfl,hv,h2⟩
     |succ k'=>
      rw[List.set_cons_succ,bf];exact⟨c,r,rfl,V,ih r k' u h2 (by simpa using hu) hv⟩
   refine gen _ _ k _ k1 u1 ?_
   rw[RV,eX _ _ (Ne.symm zT)]
   refine⟨rfl,fun _=>?_⟩
   have:=V.ob id
   have Xt:H1 id=.ai e sz []:=by rw[<-Iw,dV]
   rw[Xt]at this
   obtain⟨ys,fr,_,_,jE,Xu,_⟩:=this
   rcases jE.2 with⟨q,_⟩|⟨g,cap,cur,q,_⟩
   ·exact q.symm
   have:g∈aH fp id [] id:=by rw[Xu,q];simp[Value.ownBlock]
   rw[dV]at this
   cases this
  rcases List.mem_or_eq_of_mem_set hz with hz|rfl
  ·exact k2 z hz
  rfl
 grind[eX]
theorem AW.pi(id b k:Nat)(e:TypeId)(sz:Nat){c:Code}{T:TypeId}{p:Option Value}{cells:List AV}(hb:H b=.box T p cells)(zT:b≠id)(hk:cells[k]? = some (.p (.v (.slice none 0 0))))(h:AW P L O w0 N c (fun s=>bq (cK id) (τ s)) (aH (aH (fun j=>(H j).bq (cK id)) id (.ai e sz [])) b (.box T p ((iA (cK id) cells).set k (.own id)))) Q):AW P L O w0 N c τ H Q:=
 fun ρ fp a w hr=>h _ _ a w (hr.pi id b k e sz hb zT hk)
end

section
variable {K:(Nat->AV)->(Nat->AO)->Prop}{Q:AQ}{τ:Nat->AV}{H:Nat->AO}{id i:Nat}
theorem UV(h:Q .normal τ H):AQ.inBlock id Q (.exit id) τ H:=by simp_all[AQ.inBlock]
theorem UW(hi:i≠id)(h:Q (.exit i) τ H):AQ.inBlock id Q (.exit i) τ H:=by simp_all[AQ.inBlock]
theorem ax{rs:List mQ}{x:AV}{bd:List (Nat×AO)}(V:th τ H rs=some x)(h2:fo bd H):Ends rs x bd .ret τ H:=⟨V,h2⟩
theorem iZ{rs:List mQ}{x:AV}{bd:List (Nat×AO)}(V:th τ H rs=some x)(h2:fo bd H):Ends rs x bd .normal τ H:=⟨V,h2⟩
def NP(Q:AQ):Prop:=∀c τ H,¬Q (.panic c) τ H
theorem NP.then(h:NP Q):NP (AQ.andThen K Q):=h
theorem NP.block(h:NP Q):NP (AQ.inBlock id Q):=h
theorem UT{rs:List mQ}{x:AV}{bd:List (Nat×AO)}:NP (Ends rs x bd):=fun _ _ _ h=>h
end
section
variable {P:Program}{L O:Nat->Prop}{w0:World}{N:Nat}{τ:Nat->AV}{H:Nat->AO}{Q:AQ}{ops:Array Oper}{l:List Oper}{b:Bool}{t:Nat}
theorem sr{α:Type}{f:Nat->α}{i:Nat}{x:α}(h:f i=x):aH f i x=f:=funext fun j=>by grind[aH]
theorem AL.bool(ht:τ t=.p (.v (.bool b)))(V:b=true->AL P L O w0 N ops l (aH τ t (.p (.v (.bool true)))) H Q)(h2:b=false->AL P L O w0 N ops l (aH τ t (.p (.v (.bool false)))) H Q):AL P L O w0 N ops l τ H Q:=by
 cases b
 ·have:=h2 rfl;grind[sr]
 have:=V rfl;grind[sr]
theorem AG.bool{f:Nat}{X:Nat->Bool}{n:Nat}{av:Array Bool}(ht:τ t=.p (.v (.bool b)))(V:b=true->AG P L O w0 N ops f X n av (aH τ t (.p (.v (.bool true)))) H Q)(h2:b=false->AG P L O w0 N ops f X n av (aH τ t (.p (.v (.bool false)))) H Q):AG P L O w0 N ops f X n av τ H Q:=by
 cases b
 ·have:=h2 rfl;grind[sr]
 have:=V rfl;grind[sr]
theorem dC(t:Nat)(x:AV)(ht:τ t=x)(h:AL P L O w0 N ops l (aH τ t x) H Q):AL P L O w0 N ops l τ H Q:=by rwa [sr ht]at h
theorem Au(t:Nat)(x:AV){f:Nat}{X:Nat->Bool}{n:Nat}{av:Array Bool}(ht:τ t=x)(h:AG P L O w0 N ops f X n av (aH τ t x) H Q):AG P L O w0 N ops f X n av τ H Q:=by rwa [sr ht]at h
theorem U9(t:Nat)(x:AV){c:Code}(ht:τ t=x)(h:AW P L O w0 N c (aH τ t x) H Q):AW P L O w0 N c τ H Q:=by rwa [sr ht]at h
theorem AW.obj(i:Nat)(x:AO){c:Code}(ht:H i=x)(h:AW P L O w0 N c τ (aH H i x) Q):AW P L O w0 N c τ H Q:=by rwa [sr ht]at h
def val:AV->Option Value
 |.p (.v v)=>some v
 |_=>none
def A5:List AV->Option (List Value)
 |[]=>some []
 |x::l=>match val x,A5 l with
  |some v,some vs=>some (v::vs)
  |_,_=>none
def vu:AV->Option Value
 |.agg l=>(A5 l).map fun vs=>.agg vs.toArray
 |x=>val x
theorem Ix{ρ:Nat->Value}{w:World}:∀ {l:List AV} {vs cs:List Value},A5 l=some vs->bf L ρ H w l cs->cs=vs
 |[],vs,cs,h,h2=>by injection h with h;grind[bf]
 |x::l,vs,cs,h,h2=>by
  rw[bf]at h2;obtain⟨c,r,rfl,h3,h4⟩:=h2;unfold A5 at h;split at h
  ·rename_i v xJ h5 h6;injection h with h;subst h;rw[Ix h6 h4];congr 1;unfold val at h5;split at h5
   ·injection h5 with h5;subst h5;exact h3.gd
   cases h5
  grind
theorem Iy{ρ:Nat->Value}{w:World}{x:AV}{v c:Value}(h:vu x=some v)(h2:RV L ρ H w x c):c=v:=by
 unfold vu at h;split at h
 ·rename_i l;cases hv:A5 l with
  |none=>grind
  |some vs=>
   rw[hv]at h;injection h with h;subst h;rw[RV]at h2;obtain⟨cs,rfl,h3⟩:=h2;rw[Ix hv h3]
 unfold val at h;split at h
 ·injection h with h;subst h;exact h2.gd
 grind
theorem G5{o:Oper}{X:Nat->Bool}{op:BinOp}{T yT:TypeId}{x y:Operand}{vx vy:Value}{b:Bool}(ho:o.op=.binOp op T x y yT)(hx:vu (ev τ x)=some vx)(hy:vu (ev τ y)=some vy)(h:∀W,(do eqGuard op T x y vx vy;binOp op T vx vy:Sem Value).run P W=.ok (.bool b) W):Rd P o τ H X (aD b):=by
 apply Rd.pure;intro L ρ a w he _;have e1:=Iy hx (he x);have e2:=Iy hy (he y);refine⟨.bool b,fX rfl,fun W=>?_⟩;have:execOp a.eval o=(do let v <-(do eqGuard op T x y (a.eval x) (a.eval y);binOp op T (a.eval x) (a.eval y));pure (.value v)):=by simp only[execOp,ho]
 rw[this,e1,e2,Sem.run_bind,h];rfl
end
theorem bS{α:Type}{g:α->List PV}{l:List α}{k:Nat}(h:k<l.length):(l.map g)[k]? = some (g l[k]):=by grind
theorem iN.gJ:∀ {l m:List (Nat×AV)} {τ:Nat->AV},iN l τ->iN m τ->iN (l++m) τ
 |[],m,τ,_,h=>h
 |(s,x)::l,m,τ,h,k=>⟨h.1,iN.gJ h.2 k⟩
theorem fo.gJ:∀ {l m:List (Nat×AO)} {τ:Nat->AO},fo l τ->fo m τ->fo (l++m) τ
 |[],m,τ,_,h=>h
 |(s,x)::l,m,τ,h,k=>⟨h.1,fo.gJ h.2 k⟩
theorem iN.same(τ:Nat->AV):∀ks:List Nat,iN (ks.map fun t=>(t,τ t)) τ
 |[]=>trivial
 |_::ks=>⟨rfl,iN.same τ ks⟩
theorem fo.same(H:Nat->AO):∀ks:List Nat,fo (ks.map fun t=>(t,H t)) H
 |[]=>trivial
 |_::ks=>⟨rfl,fo.same H ks⟩
theorem Vb{P:Program}{L O:Nat->Prop}{w0:World}{N:Nat}{τ:Nat->AV}{H:Nat->AO}{Q:AQ}(K:List (Nat×AV))(KO:List (Nat×AO)){D:Type}(T:D->List (Nat×AV))(B:D->List (Nat×AO))(I:D->Prop)(μ:D->Nat){c:Code}(d:D)(h0:I d)(V:iN (T d) τ)(h2:fo (B d) H)(h3:iN K τ)(h4:fo KO H)
 (round:∀d,I d->AW P L O w0 N c (nY (T d++K)) (bx (B d++KO)) (Q.andThen fun τ' H'=>∃d',I d'/\μ d'<μ d/\iN (T d') τ'/\fo (B d') H'/\iN K τ'/\fo KO H')):AW P L O w0 N (.loop c) τ H Q:=
 AW.loop (fun d=>T d++K) (fun d=>B d++KO) I μ d h0 (V.gJ h3) (h2.gJ h4) fun d hI=>(round d hI).mono fun e τ' H' q=>by
  cases e<;>first|exact q|skip
  obtain⟨d',q1,q2,q3,q4,q5,q6⟩:=q;exact⟨d',q1,q2,q3.gJ q5,q4.gJ q6⟩
def ah{α:Type}(enc:α->List Value)(xs:List α):List (List PV):=xs.map fun x=>(enc x).map PV.v
theorem ap{α:Type}(enc:α->List Value)(xs:List α):(ah enc xs).length=xs.length:=List.length_map _
theorem Iz{w:World}{st:Bool}{α:Type}{enc:α->List Value}{sz:Nat}(hs:∀x,(enc x).length=sz)(V:∀x,∀u∈enc x,u.oneCell'=true):∀xs,bI w st sz (ah enc xs) (xs.flatMap enc) []
 |[]=>by trivial
 |x::xs=>by
  rw[List.flatMap_cons];show bI w st sz ((enc x).map PV.v::ah enc xs) _ _;rw[bI];exact⟨by grind,enc x,_,[],[],rfl,rfl,Hz _ (V x),Iz hs V xs⟩
theorem wU{L:Nat->Prop}{ρ:Nat->Value}{H:Nat->AO}{α:Type}{enc:α->List Value}{sz:Nat}{dg:World->Nat->Nat->List Value->α->Prop}{w:World}{lo hi:Nat}{v:Value}{xs:List α}{e:TypeId}(h:dd sz dg w lo hi v xs)(GU:∀cs x,dg w lo hi cs x->cs=enc x)(hs:∀x,(enc x).length=sz)(V:∀x,∀u∈enc x,u.oneCell'=true)
 (un:hi<=w.heap.size) (hl:∀b,lo<=b->b<hi->¬live L ρ H b):RV L ρ H w (.p (.ab e sz (ah enc xs))) v:=by
 obtain⟨a,cap,rfl,c1,c2,ml⟩:=h
 rw[RV]
 rcases ml with hz|⟨b,off,rfl,b1,b2,hel⟩
 ·refine⟨[]++[],?_,by simp⟩
  rw[RW]
  refine⟨_,[],[],Iz hs V xs,?_,rfl⟩
  unfold iF
  simp only[Bool.false_eq_true,if_false]
  exact⟨_,_,by rw[ap],by grind[ap],c2,.inl ⟨by grind[ap],trivial⟩⟩
 refine⟨[b]++[],?_,fun x hx=>by simp at hx;subst hx;exact hl x b1 b2⟩
 rw[RW]
 refine⟨_,[b],[],Iz hs V xs,?_,rfl⟩
 unfold iF
 simp only[Bool.false_eq_true,if_false]
 refine⟨_,_,by rw[ap],by rw[ap];exact c1,c2,.inr ⟨b,off,rfl,fun j v hj=>?_,by omega,rfl⟩⟩
 have gR:0<sz:=by
  rcases Nat.eq_zero_or_pos sz with q|q
  ·exfalso;have hlen:(xs.flatMap enc).length=0:=by
    have:∀(l:List α),(l.flatMap enc).length=l.length*sz:=by
     intro l;induction l with
     |nil=>simp
     |cons y l ih=>rw[List.flatMap_cons,List.length_append,ih,hs,List.length_cons,Nat.add_mul];omega
    rw[this,q];simp
   have:=(List.getElem?_eq_some_iff.1 hj).1;omega
  exact q
 have hlen:∀(l:List α),(l.flatMap enc).length=l.length*sz:=by
  intro l;induction l with
  |nil=>simp
  |cons y l ih=>rw[List.flatMap_cons,List.length_append,ih,hs,List.length_cons,Nat.add_mul];omega
 have ro:=(List.getElem?_eq_some_iff.1 hj).1
 rw[hlen]at ro
 have hU:j/sz<xs.length:=Nat.div_lt_of_lt_mul (by rw[Nat.mul_comm];exact ro)
 obtain⟨cs,q1,q2⟩:=hel (j/sz) hU
 have Xv:=GU _ _ q1
 subst Xv
 have N2:j=j/sz*sz+j%sz:=by rw[Nat.mul_comm];exact(Nat.div_add_mod j sz).symm
 have hm:j%sz<sz:=Nat.mod_lt _ gR
 have Xw:∀(l:List α) (i m:Nat) (h:i<l.length),m<sz->(l.flatMap enc)[i*sz+m]? = (enc l[i])[m]?:=by
  intro l;induction l with
  |nil=>intro i m h;exact absurd h x_19
  |cons y l ih=>
   intro i m h hm;rw[List.flatMap_cons];cases i with
   |zero=>rw[Nat.zero_mul,Nat.zero_add,List.getElem?_append_left (by rw[hs];exact hm)];rfl
   |succ i=>
    rw[List.getElem?_append_right (by rw[hs,Nat.add_mul];omega),hs,show (i+1)*sz+m-sz=i*sz+m by rw[Nat.add_mul];omega];exact ih i m (by simpa using h) hm
 rw[N2,Xw xs (j/sz) (j%sz) hU hm]at hj
 have:=q2 _ _ hj
 grind
theorem Xx{P:Program}{f:FuncId}{args:List AV}{x:AV}{r:Value}(hx:vu x=some r)(h:GC P f args [] x []){w:World}{cs:List Value}(pF:bf (fun _=>False) (fun _=>undef) (bx []) w args cs):Calls P f cs.toArray w fun e w'=>e=.returned r/\cZ w w':=by
 refine Calls.mono (h (fun _=>False) w cs (fun _=>undef) (fun _=>[]) (fun _ q=>q.elim) pF (fun i=>rfl) x_19 x_19) ?_;rintro e w' ⟨_,_,⟨rfl,rfl⟩,v,ci,bH,rfl,g1,g2,_⟩;refine⟨by rw[Iy hx g2],⟨⟨g1.os,g1.tape,g1.output,g1.size,fun b hb=>g1.block b hb x_19⟩,fun b o V h2=>g1.nf b o (.inr V) h2⟩⟩

def dA:List Value->List Value->Bool
 |.int _ a::r,.int _ b::r'=>a==b&&dA r r'
 |.bool a::r,.bool b::r'=>a==b&&dA r r'
 |[],[]=>true
 |_,_=>false
def vt(P:Program):List Field->Nat->List Value->List Value->Prop
 |[],_,[],[]=>True
 | f :: fs,i,.int k _ :: r,.int k' _ :: r' => k = k' /\ f.name ≠ "_" /\ f.offset = i /\ (∃ k,P.underlying f.type = some (.int k)) /\ vt P fs (i + 1) r r'
 | f :: fs,i,.bool _ :: r,.bool _ :: r' => f.name ≠ "_" /\ f.offset = i /\ P.underlying f.type = some .bool /\ vt P fs (i + 1) r r'
 |_,_,_,_=>False
section
variable {P:Program}
theorem Fc{t:TypeId}{d:TypeDesc}(ht:P.underlying t=some d)(V:∀fs,d≠.struct fs)(h2:∀n e,d≠.array n e){xs:Array Value}{i:Nat}{v:Value}(hv:xs[i]? = some v)(W:World):(part t xs i).run P W=.ok v W:=by
 simp_all[part,N3]
theorem B4(d:Nat)(W:World):∀(fs:List Field) (i:Nat) (pre wb vs xJ:List Value),pre.length=i->wb.length=i->vt P fs i vs xJ->
 (Op.eqFields (d+1) (pre++vs).toArray (wb++xJ).toArray fs).run P W=.ok (dA vs xJ) W
 |[],i,pre,wb,vs,xJ,_,_,h=>by
  cases vs<;>cases xJ<;>first|rfl|exact h.elim|(rename_i v _;cases v<;>exact h.elim)
 |f::fs,i,pre,wb,[],xJ,_,_,h=>by trivial
 |f::fs,i,pre,wb,v::r,[],_,_,h=>by cases v<;>exact h.elim
 |f::fs,i,pre,wb,v::r,v'::r',V,h2,h=>by
  have e1:(pre++v::r).toArray[i]? = some v:=by rw[List.getElem?_toArray,List.getElem?_append_right x_2,V];simp
  have e2:(wb++v'::r').toArray[i]? = some v':=by rw[List.getElem?_toArray,List.getElem?_append_right x_2,h2];simp
  cases v<;>cases v'<;>first|exact h.elim|skip
  case int.int k a k' b=>
   obtain⟨rfl,q1,q2,⟨kk,q3⟩,q4⟩:=h
   have ih:=B4 d W fs (i+1) (pre++[.int k a]) (wb++[.int k b]) r r' (by simp[V]) (by simp[h2]) q4
   rw[List.append_assoc,List.append_assoc,List.singleton_append,List.singleton_append]at ih
   unfold Op.eqFields
   rw[if_pos q1,Sem.run_bind,q2,Fc q3 x_19 x_19 e1,Result.andThen_ok,Sem.run_bind,Fc q3 x_19 x_19 e2,Result.andThen_ok,Sem.run_bind,run_equalIn_int W d f.type k kk a b q3,Result.andThen_ok]
   unfold dA
   cases kN:(a==b)
   all_goals trivial
  case bool.bool a b=>
   obtain⟨q1,q2,q3,q4⟩:=h
   have ih:=B4 d W fs (i+1) (pre++[.bool a]) (wb++[.bool b]) r r' (by simp[V]) (by simp[h2]) q4
   rw[List.append_assoc,List.append_assoc,List.singleton_append,List.singleton_append]at ih
   unfold Op.eqFields
   rw[if_pos q1,Sem.run_bind,q2,Fc q3 x_19 x_19 e1,Result.andThen_ok,Sem.run_bind,Fc q3 x_19 x_19 e2,Result.andThen_ok,Sem.run_bind,run_equalIn_bool' W d f.type a b q3,Result.andThen_ok]
   unfold dA
   cases kN:(a==b)
   all_goals trivial
variable {o:Oper}{τ:Nat->AV}{H:Nat->AO}{X:Nat->Bool}
theorem j0{op:BinOp}{T yT:TypeId}{x y:Operand}{xs ys:List Value}{fs:List Field}(ho:o.op=.binOp op T x y yT)(G4:op=.eql\/op=.neq)(hx:vu (ev τ x)=some (.agg xs.toArray))(hy:vu (ev τ y)=some (.agg ys.toArray))
 (hf:P.fieldsOf T=fs.toArray) (ht:P.underlying T=some (.struct (P.fieldsOf T))) (hp:P.stoodInHeld T=false) (hg:P.eqGuardType P.depth T=false) (jC:vt P fs 0 xs ys):Rd P o τ H X (aD (match op with|.eql=>dA xs ys|_=>!dA xs ys)):=by
 have he:∀W,(Op.equal T (.agg xs.toArray) (.agg ys.toArray)).run P W=.ok (dA xs ys) W:=fun W=>by
  have V:=run_equalIn_struct (P:=P) W (Op.maxDepth-1) T xs.toArray ys.toArray ht hp;have h2:=B4 (P:=P) (Op.maxDepth-2) W fs 0 [] [] xs ys rfl rfl jC;rw[hf]at V;exact V.trans h2
 apply G5 ho hx hy
 intro W
 rcases G4 with rfl|rfl
 all_goals simp_all[eqGuard,binOp]
end

theorem fo.has:∀ {B:List (Nat×AO)} {H:Nat->AO} {id:Nat},fo B H->(B.map (·.1)).contains id=true->bx B id=H id
 |[],_,_,_,h=>by grind
 |(s,x)::l,H,id,h,h2=>by
  unfold bx;split
  ·rename_i q;subst q;exact h.1.symm
  rename_i q;refine fo.has h.2 ?_;grind
section
variable {P:Program}{L O:Nat->Prop}{w0:World}{N:Nat}{τ:Nat->AV}{H:Nat->AO}{Q:AQ}{ops:Array Oper}{l:List Oper}
theorem H4{o:Oper}{X:Nat->Bool}{x:Operand}{v:AV}(ho:o.op=.move x\/o.op=.assign x)(hv:ev τ x=v):Rd P o τ H X v:=hv▸Xy ho
theorem AL.eJ{τ':Nat->AV}{H':Nat->AO}(hs:∀t,τ' t=.bad\/τ' t=τ t)(hH:∀id,H' id=.gone\/H' id=H id)(h:AL P L O w0 N ops l τ' H' Q):AL P L O w0 N ops l τ H Q:=fun ρ fp a w hr=>by
 obtain⟨bH,gU,_⟩:=hr.eJ hs hH;exact h ρ bH a w gU
end

theorem mh{b:Nat}:¬live (fun _=>False) (fun _=>undef) (bx []) b:=by
 rintro(h|⟨id,h,_⟩)
 ·exact h
 cases h
def xK(H:Nat->AO):List AV->Option (List PV)
 |[]=>some []
 |.p x::l=>(xK H l).map (x::·)
 |.own id::l=>match H id with|.ai e sz rows=>(xK H l).map (.ab e.ty sz rows::·)|_=>none
 |_::_=>none
def CF(H:Nat->AO)(id r k:Nat):AV:=
 match H id with
 |.box _ _ cells=>match r,xK H cells with|0,some l=>.rp (l.drop k)|_,_=>.bad
 |.ai _ _ rows=>match rows[r]? with|some row=>.rp (row.drop k)|none=>.bad
 |.gone=>.bad
mutual
def jB(H:Nat->AO):AV->AV
 |.own id=>match H id with|.ai e sz rows=>.p (.ab e.ty sz rows)|_=>.bad
 |.sub id off len=>match H id with|.ai e sz rows=>.p (.ab e.ty sz ((rows.drop off).take len))|_=>.bad
 |.ptr id r k=>CF H id r k
 |.agg l=>.agg (qk H l)
 |.au l=>.au (qk H l)
 |.fQ fn f l=>.fQ fn (qk H f) (qk H l)
 |x=>x
def qk(H:Nat->AO):List AV->List AV
 |[]=>[]
 |x::l=>jB H x::qk H l
end
abbrev L0:Nat->Prop:=fun _=>False
abbrev s8:Nat->Value:=fun _=>undef
section
variable {L O:Nat->Prop}{w0:World}{N:Nat}{τ:Nat->AV}{H:Nat->AO}{ρ:Nat->Value}{fp:Nat->List Nat}{a:Act}{w:World}
theorem OB.reads{v:Value}{f:List Nat}{e:ga}{sz:Nat}{rows:List (List PV)}(h:OB L ρ H w v f (.ai e sz rows)):RV L0 s8 (bx []) w (.p (.ab e.ty sz rows)) v:=by
 obtain⟨xs,fr,b1,b2,b3,b4,_⟩:=h;rw[RV];rcases b3.2 with⟨q,q2⟩|⟨g,cap,cur,q,_,hg,hnc,bC,_⟩
 ·refine⟨[]++fr,?_,fun b hb=>mh⟩;rw[RW];refine⟨xs,[],fr,b1,?_,rfl⟩;unfold iF;grind
 have tc:=b3;rw[q]at tc;refine⟨[g]++fr,?_,fun b hb=>mh⟩;rw[RW];refine⟨xs,[g],fr,b1,?_,rfl⟩;unfold iF;simp only[Bool.false_eq_true,if_false];exact⟨_,cap,q,hnc,bC,.inr ⟨g,0,rfl,vl tc,(Array.getElem?_eq_some_iff.1 hg).1,rfl⟩⟩
theorem OB.part{v:Value}{f:List Nat}{e:ga}{sz off len:Nat}{rows:List (List PV)}{b:Option Addr}{cap:Nat}(h:OB L ρ H w v f (.ai e sz rows))(V:off+len<=rows.length)(c1:len<=cap)(c2:cap<=maxLen)(h2:0<len->∃g m uh,v=.slice (some ⟨g,0,none⟩) m uh/\b=some ⟨g,off*sz,none⟩) :
 RV L0 s8 (bx []) w (.p (.ab e.ty sz ((rows.drop off).take len))) (.slice b len cap):=by
 obtain⟨xs,fr,k1,k2,k3,_⟩:=h
 obtain⟨g1,t1,t2⟩:=k1.drop off
 obtain⟨g2,t3,t4⟩:=t1.take len
 have hl:((rows.drop off).take len).length=len:=by rw[List.length_take,List.length_drop];omega
 rw[RV]
 by_cases hz:len=0
 ·refine⟨[]++g2,?_,fun b hb=>mh⟩
  rw[RW]
  refine⟨_,[],g2,t3,?_,rfl⟩
  unfold iF
  simp only[Bool.false_eq_true,if_false]
  exact⟨b,cap,by rw[hl],by omega,c2,.inl ⟨by omega,trivial⟩⟩
 obtain⟨g,m,uh,e2,e3⟩:=h2 x_2
 rw[e2]at k3
 have hm:m=rows.length:=by
  rcases k3.2 with⟨q,_⟩|⟨g',uh,cur,q,_⟩
  ·cases q
  grind
 subst hm
 refine⟨[g]++g2,?_,fun b hb=>mh⟩
 rw[RW]
 refine⟨_,[g],g2,t3,?_,rfl⟩
 unfold iF
 simp only[Bool.false_eq_true,if_false]
 refine⟨b,cap,by rw[hl],by omega,c2,.inr ⟨g,off*sz,e3,?_,?_,rfl⟩⟩
 ·have:=(vl k3).drop (off*sz)
  rw[Nat.zero_add]at this
  intro i v hi
  rw[List.getElem?_take]at hi
  split at hi
  ·exact this i v hi
  grind
 exact(k3.lt g (by rfl)).2
theorem OB.IA{v:Value}{f:List Nat}{e:ga}{sz:Nat}{rows:List (List PV)}(h:OB L ρ H w v f (.ai e sz rows)):∃fp,RW w false (.ab e.ty sz rows) v fp:=by
 have:=h.reads;grind[RV]
theorem IB(bY:∀id,∃f,OB L ρ H w (ρ id) f (H id)):∀ {cells:List AV} {l:List PV} {xs:List Value},xK H cells=some l->bf L ρ H w cells xs->∃fp,bP w false l xs fp
 |[],l,xs,h,h2=>by
  injection h with h;simp_all[bf,bP]
 |x::cells,l,xs,h,h2=>by
  rw[bf]at h2;obtain⟨c,r,rfl,h3,h4⟩:=h2;cases x with
  |p y=>
   unfold xK at h;cases hq:xK H cells with
   |none=>grind
   |some m=>
    rw[hq]at h;injection h with h;subst h;obtain⟨f2,q2⟩:=IB bY hq h4;rw[RV]at h3;obtain⟨f1,q1,_⟩:=h3;exact⟨f1++f2,by rw[bP];grind⟩
  |own id=>
   unfold xK at h;obtain⟨f,ho⟩:=bY id;cases hH:H id with
   |ai e sz rows=>
    rw[hH]at h ho;dsimp only at h;cases hq:xK H cells with
    |none=>grind
    |some m=>
     rw[hq]at h;injection h with h;subst h;obtain⟨f2,q2⟩:=IB bY hq h4;rw[RV,hH]at h3;obtain⟨f1,q1⟩:=ho.IA;rw[<-h3.2 rfl]at q1;exact⟨f1++f2,by rw[bP];grind⟩
   |box T p cs=>grind
   |gone=>grind
  |sub _ _ _=>cases h
  |ptr _ _ _=>cases h
  |rp _=>cases h
  |agg _=>cases h
  |au _=>cases h
  |fQ _ _ _=>cases h
  |dead=>cases h
  |bad=>cases h
theorem RV.CF(bY:∀id,∃f,OB L ρ H w (ρ id) f (H id)){id r k:Nat}{c:Value}(h:RV L ρ H w (.ptr id r k) c):RV L0 s8 (bx []) w (_root_.Go.Proofs.YtflhgkmhmcfimaaGreat.CF H id r k) c:=by
 unfold _root_.Go.Proofs.YtflhgkmhmcfimaaGreat.CF;rw[RV]at h;obtain⟨f,ho⟩:=bY id;cases hH:H id with
 |gone=>trivial
 |box T p cells=>
  rw[hH]at h ho;dsimp only;obtain⟨h0,g,m,cap,e1,e2⟩:=h.2 rfl;split
  ·rename_i l hl;obtain⟨xs,k1,k2,k3,k4,_⟩:=ho;obtain⟨hc,eI⟩:=AD (fp:=f) k3 e1;obtain⟨fp,q⟩:=IB bY hl k1;obtain⟨fd,d1,d2⟩:=bP.drop k q;rw[RV];exact⟨g,0+k,xs.drop k,fd,by rw[e2];simp,d1,hc.drop k,eI,mh,fun b hb=>mh⟩
  trivial
 |ai e sz rows=>
  rw[hH]at h ho;dsimp only;obtain⟨h0,g,m,cap,e1,e2⟩:=h.2 rfl;split
  ·rename_i row um;obtain⟨xs,fr,k1,k2,k3,k4,_⟩:=ho;obtain⟨hc,eI⟩:=AD (fp:=f) k3 e1;obtain⟨c1,cr,c2,f1,f2,f3,p1,p2,p3,p4,p5,_⟩:=bI.row k1 um;rw[p1]at hc;have Cj:=(hc.Hp p3).drop k;obtain⟨fd,d1,d2⟩:=bP.drop k p5;rw[RV];exact⟨g,0+r*sz+k,cr.drop k,fd,by rw[e2];simp[AO.sz],d1,Cj,eI,mh,fun b hb=>mh⟩
  trivial
mutual
theorem RV.jB(bY:∀id,∃f,OB L ρ H w (ρ id) f (H id)):∀(x:AV) {c:Value},RV L ρ H w x c->RV L0 s8 (bx []) w (_root_.Go.Proofs.YtflhgkmhmcfimaaGreat.jB H x) c
 |.p x,c,h=>by
  grind[_root_.Go.Proofs.YtflhgkmhmcfimaaGreat.jB,RV,mh]
 |.own id,c,h=>by
  rw[_root_.Go.Proofs.YtflhgkmhmcfimaaGreat.jB];rw[RV]at h;obtain⟨f,ho⟩:=bY id;cases hH:H id with
  |ai e sz rows=>
   rw[hH]at h ho;rw[h.2 rfl];exact ho.reads
  |box T p cells=>trivial
  |gone=>trivial
 |.sub id off len,c,h=>by
  rw[_root_.Go.Proofs.YtflhgkmhmcfimaaGreat.jB];rw[RV]at h;obtain⟨f,ho⟩:=bY id;cases hH:H id with
  |ai e sz rows=>
   rw[hH]at h ho;obtain⟨V,b,cap,rfl,c1,c2,h2⟩:=h.2 rfl;exact ho.part V c1 c2 h2
  |box T p cells=>trivial
  |gone=>trivial
 |.ptr id r k,c,h=>by rw[_root_.Go.Proofs.YtflhgkmhmcfimaaGreat.jB];exact RV.CF bY h
 |.rp cells,c,h=>by
  rw[_root_.Go.Proofs.YtflhgkmhmcfimaaGreat.jB]<;>try (intros;contradiction)
  rw[RV]at *;obtain⟨b,off,cs,fp,rfl,V,h2,h3,h4,h5⟩:=h;exact⟨b,off,cs,fp,rfl,V,h2,h3,mh,fun b hb=>mh⟩
 |.agg l,c,h=>by
  rw[_root_.Go.Proofs.YtflhgkmhmcfimaaGreat.jB];rw[RV]at *;obtain⟨cs,rfl,V⟩:=h;simp_all[bf.jB]
 |.au l,c,h=>by
  rw[_root_.Go.Proofs.YtflhgkmhmcfimaaGreat.jB];rw[RV]at *;obtain⟨cs,rfl,V⟩:=h;simp_all[bf.jB]
 |.fQ fn f l,c,h=>by
  rw[_root_.Go.Proofs.YtflhgkmhmcfimaaGreat.jB];rw[RV]at *;obtain⟨fs,cs,rfl,V,h2⟩:=h;exact⟨fs,cs,rfl,bf.jB bY f V,bf.jB bY l h2⟩
 |.dead,c,h=>by
  trivial
 |.bad,c,h=>by
  trivial
theorem bf.jB(bY:∀id,∃f,OB L ρ H w (ρ id) f (H id)):∀(x:List AV) {c:List Value},bf L ρ H w x c->bf L0 s8 (bx []) w (qk H x) c
 |[],c,h=>by trivial
 |x::xs,c,h=>by
  rw[qk];rw[bf]at *;obtain⟨c,r,rfl,V,h2⟩:=h;exact⟨c,r,rfl,RV.jB bY x V,bf.jB bY xs h2⟩
end
end
mutual
def qs:AV->Bool
 |.p (.v _)=>true
 |.agg l=>CG l
 |.au l=>CG l
 |_=>false
def CG:List AV->Bool
 |[]=>true
 |x::l=>qs x&&CG l
end
section
variable {L L':Nat->Prop}{H H':Nat->AO}{ρ ci:Nat->Value}{w w':World}
mutual
theorem N4:∀(x:AV) {c:Value},qs x=true->RV L ρ H w x c->RV L' ci H' w' x c
 |.p (.v v),c,_,h=>by
  rw[RV]at *;obtain⟨fp,V,_⟩:=h;rw[RW]at V;obtain⟨V,rfl,h2⟩:=V;simp_all[RW]
 |.agg l,c,hf,h=>by
  unfold qs at hf;rw[RV]at *;obtain⟨cs,rfl,V⟩:=h;simp_all[IC]
 |.au l,c,hf,h=>by
  unfold qs at hf;rw[RV]at *;obtain⟨cs,rfl,V⟩:=h;simp_all[IC]
 |.p (.ab _ _ _),_,hf,_=>by trivial
 |.own _,_,hf,_=>by trivial
 |.sub _ _ _,_,hf,_=>by trivial
 |.ptr _ _ _,_,hf,_=>by trivial
 |.rp _,_,hf,_=>by trivial
 |.fQ _ _ _,_,hf,_=>by trivial
 |.dead,_,hf,_=>by trivial
 |.bad,_,hf,_=>by trivial
theorem IC:∀(x:List AV) {c:List Value},CG x=true->bf L ρ H w x c->bf L' ci H' w' x c
 |[],c,_,h=>by trivial
 |x::xs,c,hf,h=>by
  unfold CG at hf;simp only[Bool.and_eq_true]at hf;rw[bf]at *;obtain⟨c,r,rfl,V,h2⟩:=h;exact⟨c,r,rfl,N4 x hf.1 V,IC xs hf.2 h2⟩
end
end
section
variable {P:Program}{L O:Nat->Prop}{w0:World}{N:Nat}{τ:Nat->AV}{H:Nat->AO}{Q:AQ}{ops:Array Oper}{l:List Oper}{o:Oper}
theorem RR.grow{ρ:Nat->Value}{fp:Nat->List Nat}{a:Act}{w w':World}(h:RR L O w0 N τ H ρ fp a w)(hc:pL (fun _=>False) w w'):RR L O w0 N τ H ρ fp a w':=
 have E:Env L ρ ρ H H w w' kT:=⟨hc.size,fun b hb hn=>⟨hc.block b hb (fun q=>q),hn⟩,fun _ _ h=>⟨h,rfl,rfl,rfl⟩⟩
 ⟨h.jp.step (X:=fun _=>False) hc.os hc.tape hc.output hc.size hc.block (fun _ q=>q.elim) (fun b o hb eI=>hc.nf b o hb eI),h.size,h.defers,fun t=>by have:=RV.env E _ (h.tm t);grind[mf],fun id=>by
   have:=(h.ob id).env E (fun b hb=>hc.block b ((h.ob id).lt b hb) (fun q=>q));grind[AO.mf],h.dj,h.own,h.lo⟩
theorem St.jB{y:Operand}{l:List Operand}{ts:Array TypeId}{f:FuncId}{fn:Func}{args:List AV}{x:AV}(ho:o.op=.call { callee:=.value y,args:=l.toArray,argTypes:=ts })(ht:∀s,o.dst=some s->s<N)
 (hy : ev τ y = .fQ (.func f) [] []) (hf : P.funcs[f]? = some fn) (vG : (fn.name == "runtime.NumGoroutine") = false) (nX : fn.body.isNone = false) (hc : GC P f args [] x []) (hx : qs x = true) (ha : qk H (l.map (ev τ)) = args) :
 St P o N τ H [] (mb τ o.dst x) H:=by
 refine⟨?_⟩
 intro L O w0 ρ fp a w K Q bV hk
 have ey:=bV.ev y
 rw[hy,RV]at ey
 obtain⟨cf,cc,ey,e1,e2⟩:=ey
 rw[bf]at e1 e2
 subst e1 e2
 have hv:=bf.jB (fun id=>⟨_,bV.ob id⟩) _ (bf.map (fun z=>bV.ev z) l)
 rw[ha]at hv
 have vE:=hc L0 w (l.map a.eval) s8 (fun _=>[]) (fun _ q=>q.elim) hv (fun i=>rfl) x_19 x_19
 have rq:(execOp a.eval o).run P w=.ok (.enter f (l.map a.eval).toArray) w:=by
  simp only[execOp,ho,resolve,Deferred.ofValue,ey,invoke,callFunc,Sem.run_bind,Sem.run_pure,Result.andThen_ok,run_program,hf,vG,nX,Bool.false_eq_true,if_false,List.map_toArray,List.append_toArray,List.nil_append,List.append_nil]
 unfold Oper.wp
 rw[rq]
 show Calls P f _ w _
 refine Calls.mono vE ?_
 rintro e w' ⟨_,_,⟨rfl,rfl⟩,v,ci,bH,rfl,g1,g2,g3⟩
 have hg:pL (fun _=>False) w w':=⟨g1.os,g1.tape,g1.output,g1.size,fun b hb _=>g1.block b hb x_19,fun b o hb eI=>g1.nf b o x_14 eI⟩
 refine hk _ _ _ _ ((bV.grow hg).Az o.dst (N4 _ hx g2) ht) (fun X hX=>⟨⟨hg.size,fun b hb _=>hg.block b hb (fun q=>q)⟩,fun j V h2 b h3=>.inr ⟨j,V,h2,h3⟩⟩)
theorem fN{rs:List mQ}{R:AV->List (Nat×AO)->Prop}(x:AV)(bd:List (Nat×AO))(hR:R x bd)(V:th τ H rs=some x)(h2:fo bd H):yX rs R .ret τ H:=⟨x,bd,hR,V,h2⟩
theorem UU{rs:List mQ}{R:AV->List (Nat×AO)->Prop}:NP (yX rs R):=fun _ _ _ h=>h
theorem GX.gc{f:FuncId}{args:List AV}{ob0 bd:List (Nat×AO)}{x:AV}{R:AV->List (Nat×AO)->Prop}(h:GX P f args ob0 R)(hR:∀y o,R y o->y=x/\o=bd):GC P f args ob0 x bd:=h.mono hR
theorem Vc(K:List (Nat×AV))(KO:List (Nat×AO)){D:Type}(T:D->List (Nat×AV))(B:D->List (Nat×AO))(I:D->Prop){x y:Code}(_:iN K τ)(_:fo KO H)
 (h:AW P L O w0 N x τ H (Q.andThen fun τ H=>∃d,I d/\iN (T d) τ/\fo (B d) H/\iN K τ/\fo KO H)) (h2:∀d,I d->AW P L O w0 N y (nY (T d++K)) (bx (B d++KO)) Q):AW P L O w0 N (.seq x y) τ H Q:=
 Xz (fun d=>T d++K) (fun d=>B d++KO) I (h.mono fun e τ H q=>by
  cases e<;>first|exact q|(obtain⟨d,q1,q2,q3,q4,q5⟩:=q;exact⟨d,q1,iN.gJ q2 q4,fo.gJ q3 q5⟩)) h2
theorem Vp{x:Operand}{id r k:Nat}{X:Nat->Bool}(ho:o.op=.nilCheck x)(hx:ev τ x=.ptr id r k)(hh:(H id).here=true):Rd P o τ H X (.ptr id r k):=by
 refine Rd.pure fun{L ρ a w} he _=>⟨a.eval x,hx▸he x,fun W=>?_⟩;have h:=he x;rw[hx,RV]at h;obtain⟨_,g,m,cap,_,e⟩:=h.2 hh;simp[execOp,ho,e]
theorem Sj{x:Operand}{cells:List PV}{X:Nat->Bool}(ho:o.op=.nilCheck x)(hx:ev τ x=.rp cells):Rd P o τ H X (.rp cells):=by
 refine Rd.pure fun{L ρ a w} he _=>⟨a.eval x,hx▸he x,fun W=>?_⟩;have h:=he x;rw[hx,RV]at h;obtain⟨b,off,cs,fp,e,_⟩:=h;simp[execOp,ho,e]
theorem N5{ρ:Nat->Value}{fp:Nat->List Nat}{w:World}{id:Nat}{o':AO}(h:∀j,OB L ρ H w (ρ j) (fp j) (H j))(V:o'.here=(H id).here)(h2:o'.len=(H id).len)(h3:o'.sz=(H id).sz)(bY:OB L ρ (aH H id o') w (ρ id) (fp id) o'):∀j,OB L ρ (aH H id o') w (ρ j) (fp j) (aH H id o' j):=fun j=>by
 by_cases e:j=id
 ·grind[dV]
 rw[eX _ _ e];have E:Env L ρ ρ H (aH H id o') w w kT:=⟨Nat.le_refl _,fun b _ hn=>⟨rfl,fun hl=>hn (by
  rcases hl with hl|⟨i,q1,q2⟩
  ·exact .inl hl
  ·by_cases ei:i=id
   ·subst ei;rw[dV,V]at q1;exact .inr ⟨i,q1,q2⟩
   rw[eX _ _ ei]at q1;exact .inr ⟨i,q1,q2⟩)⟩,fun i _ hi=>by
  by_cases ei:i=id
  ·subst ei;rw[dV]at hi ⊢;exact⟨V▸hi,rfl,h2,h3⟩
  rw[eX _ _ ei]at hi ⊢;exact⟨hi,rfl,rfl,rfl⟩⟩
 have:=(h j).env E (fun _ _=>rfl);grind[AO.mf]
theorem N6{ρ:Nat->Value}{w:World}{id:Nat}{o':AO}(V:o'.here=(H id).here)(h2:o'.len=(H id).len)(h3:o'.sz=(H id).sz):Env L ρ ρ H (aH H id o') w w kT:=
 ⟨Nat.le_refl _,fun b _ hn=>⟨rfl,fun hl=>hn (by
   rcases hl with hl|⟨i,q1,q2⟩
   ·exact .inl hl
   ·by_cases ei:i=id
    ·subst ei;rw[dV,V]at q1;exact .inr ⟨i,q1,q2⟩
    rw[eX _ _ ei]at q1;exact .inr ⟨i,q1,q2⟩)⟩,fun i _ hi=>by
   by_cases ei:i=id;all_goals simp_all[dV,eX]⟩
theorem RR.tZ{ρ:Nat->Value}{fp:Nat->List Nat}{a:Act}{w:World}(h:RR L O w0 N τ H ρ fp a w){id:Nat}{T:TypeId}{cells:List AV}{p:Option Value}(hH:H id=.box T p cells):RR L O w0 N τ (aH H id (.box T (some (ρ id)) cells)) ρ fp a w:=by
 have e1:(AO.box T (some (ρ id)) cells).here=(H id).here:=by rw[hH];rfl
 have e2:(AO.box T (some (ρ id)) cells).len=(H id).len:=by rw[hH];rfl
 have e3:(AO.box T (some (ρ id)) cells).sz=(H id).sz:=by rw[hH];rfl
 have E:=N6 (L:=L) (ρ:=ρ) (w:=w) e1 e2 e3;refine⟨h.jp,h.size,h.defers,fun t=>by have:=RV.env E _ (h.tm t);grind[mf],N5 h.ob e1 e2 e3 ?_,h.dj,h.own,h.lo⟩;have bY:=(h.ob id).env E (fun _ _=>rfl);rw[AO.mf,hH]at bY;obtain⟨xs,k1,k2,k3,k4,k5⟩:=bY;exact⟨xs,k1,k2,k3,k4,fun g hg=>by grind⟩
theorem RR.mU{ρ:Nat->Value}{fp:Nat->List Nat}{a:Act}{w:World}(h:RR L O w0 N τ H ρ fp a w){id:Nat}{e:ga}{sz:Nat}{rows:List (List PV)}(hH:H id=.ai e sz rows)(pt:Option Value)(hp:∀u,pt=some u->u=ρ id):RR L O w0 N τ (aH H id (.ai ⟨e.ty,pt⟩ sz rows)) ρ fp a w:=by
 have e1:(AO.ai ⟨e.ty,pt⟩ sz rows).here=(H id).here:=by rw[hH];rfl
 have e2:(AO.ai ⟨e.ty,pt⟩ sz rows).len=(H id).len:=by rw[hH];rfl
 have e3:(AO.ai ⟨e.ty,pt⟩ sz rows).sz=(H id).sz:=by rw[hH];rfl
 have E:=N6 (L:=L) (ρ:=ρ) (w:=w) e1 e2 e3;refine⟨h.jp,h.size,h.defers,fun t=>by have:=RV.env E _ (h.tm t);grind[mf],N5 h.ob e1 e2 e3 ?_,h.dj,h.own,h.lo⟩;have bY:=(h.ob id).env E (fun _ _=>rfl);rw[AO.mf,hH]at bY;obtain⟨xs,fr,k1,k2,k3,k4,k5⟩:=bY;exact⟨xs,fr,k1,k2,k3,k4,fun g hg=>(hp g hg).symm⟩
theorem AW.tZ(id:Nat){T:TypeId}{cells:List AV}{p:Option Value}{c:Code}(hH:H id=.box T p cells)(h:∀g,AW P L O w0 N c τ (aH H id (.box T (some g) cells)) Q):AW P L O w0 N c τ H Q:=fun ρ fp a w hr=>h (ρ id) ρ fp a w (hr.tZ hH)
theorem AW.mU(id:Nat){e:ga}{sz:Nat}{rows:List (List PV)}{c:Code}(hH:H id=.ai e sz rows)(h:∀g,AW P L O w0 N c τ (aH H id (.ai ⟨e.ty,some g⟩ sz rows)) Q):AW P L O w0 N c τ H Q:=fun ρ fp a w hr=>h (ρ id) ρ fp a w (hr.mU hH _ (fun u hu=>by grind))
theorem AL.tZ(id:Nat){T:TypeId}{cells:List AV}{p:Option Value}(hH:H id=.box T p cells)(h:∀g,AL P L O w0 N ops l τ (aH H id (.box T (some g) cells)) Q):AL P L O w0 N ops l τ H Q:=fun ρ fp a w hr=>h (ρ id) ρ fp a w (hr.tZ hH)
theorem AL.mU(id:Nat){e:ga}{sz:Nat}{rows:List (List PV)}(hH:H id=.ai e sz rows)(h:∀g,AL P L O w0 N ops l τ (aH H id (.ai ⟨e.ty,some g⟩ sz rows)) Q):AL P L O w0 N ops l τ H Q:=fun ρ fp a w hr=>h (ρ id) ρ fp a w (hr.mU hH _ (fun u hu=>by grind))
theorem iQ(id:Nat){e:ga}{sz:Nat}{rows:List (List PV)}{c:Code}(hH:H id=.ai e sz rows)(h:AW P L O w0 N c τ (aH H id (.ai ⟨e.ty,none⟩ sz rows)) Q):AW P L O w0 N c τ H Q:=fun ρ fp a w hr=>h ρ fp a w (hr.mU hH none (fun u hu=>by cases hu))
theorem abv(id:Nat){e:ga}{sz:Nat}{rows:List (List PV)}(hH:H id=.ai e sz rows)(h:AL P L O w0 N ops l τ (aH H id (.ai ⟨e.ty,none⟩ sz rows)) Q):AL P L O w0 N ops l τ H Q:=fun ρ fp a w hr=>h ρ fp a w (hr.mU hH none (fun u hu=>by cases hu))
def fe(x y:AV):Prop:=∀ {L:Nat->Prop} {ρ:Nat->Value} {H:Nat->AO} {w:World} {c:Value},RV L ρ H w x c->RV L ρ H w y c
def ff(x y:List AV):Prop:=∀ {L:Nat->Prop} {ρ:Nat->Value} {H:Nat->AO} {w:World} {c:List Value},bf L ρ H w x c->bf L ρ H w y c
theorem fe.refl(x:AV):fe x x:=fun h=>h
theorem fe.nil(e:TypeId)(sz:Nat):fe (.p (.v (.slice none 0 0))) (.p (.ab e sz [])):=fun{L ρ H w c} h=>by
 have:=h.gd;subst this;rw[RV];refine⟨[],?_,by simp⟩;rw[RW];refine⟨[],[],[],by simp[bI],?_,rfl⟩;unfold iF;grind
theorem ff.nil:ff [] []:=fun h=>h
theorem ff.cons{x y:AV}{l m:List AV}(h:fe x y)(h2:ff l m):ff (x::l) (y::m):=fun{L ρ H w c} q=>by
 rw[bf]at *;obtain⟨c,r,rfl,q1,q2⟩:=q;exact⟨c,r,rfl,h q1,h2 q2⟩
theorem fe.agg{l m:List AV}(h:ff l m):fe (.agg l) (.agg m):=fun{L ρ H w c} q=>by
 rw[RV]at *;obtain⟨cs,rfl,q⟩:=q;exact⟨cs,rfl,h q⟩
theorem fe.au{l m:List AV}(h:ff l m):fe (.au l) (.au m):=fun{L ρ H w c} q=>by
 rw[RV]at *;obtain⟨cs,rfl,q⟩:=q;exact⟨cs,rfl,h q⟩
theorem GX.imp{f:FuncId}{args:List AV}{ob0:List (Nat×AO)}{R R':AV->List (Nat×AO)->Prop}(h:GX P f args ob0 R)(hR:∀x bd,R x bd->∃x',fe x x'/\R' x' bd):GX P f args ob0 R':=fun L w cs ρ fp V h2 h3 h4 h5=>
 Calls.mono (h L w cs ρ fp V h2 h3 h4 h5) fun e w' ⟨x,bd,q,v,ci,bH,q1,q2,q3,q4⟩=>by
  obtain⟨x',i1,i2⟩:=hR x bd q;exact⟨x',bd,i2,v,ci,bH,q1,q2,i1 q3,q4⟩
theorem AW.imp(t:Nat){x y:AV}{c:Code}(hx:τ t=x)(hi:fe x y)(h:AW P L O w0 N c (aH τ t y) H Q):AW P L O w0 N c τ H Q:=fun ρ fp a w hr=>by
 refine h ρ fp a w ⟨hr.jp,hr.size,hr.defers,fun s=>?_,hr.ob,hr.dj,hr.own,hr.lo⟩;by_cases e:s=t
 ·subst e;rw[dV];exact hi (hx▸hr.tm s)
 rw[eX _ _ e];exact hr.tm s
theorem AL.imp(t:Nat){x y:AV}(hx:τ t=x)(hi:fe x y)(h:AL P L O w0 N ops l (aH τ t y) H Q):AL P L O w0 N ops l τ H Q:=fun ρ fp a w hr=>by
 refine h ρ fp a w ⟨hr.jp,hr.size,hr.defers,fun s=>?_,hr.ob,hr.dj,hr.own,hr.lo⟩;by_cases e:s=t
 ·subst e;rw[dV];exact hi (hx▸hr.tm s)
 rw[eX _ _ e];exact hr.tm s
end

section
variable {P:Program}{o:Oper}{τ:Nat->AV}{H:Nat->AO}{X:Nat->Bool}
theorem kg{op:BinOp}{T yT:TypeId}{x y:Operand}{vx vy v:Value}(ho:o.op=.binOp op T x y yT)(hx:ev τ x=.p (.v vx))(hy:ev τ y=.p (.v vy))(h:∀W,(do eqGuard op T x y vx vy;binOp op T vx vy:Sem Value).run P W=.ok v W)(hv:v.oneCell'=true):Rd P o τ H X (.p (.v v)):=by
 apply Rd.pure;intro L ρ a w he _;have e1:=he x;have e2:=he y;rw[hx]at e1;rw[hy]at e2;refine⟨v,fX hv,fun W=>?_⟩;have:execOp a.eval o=(do let v <-(do eqGuard op T x y (a.eval x) (a.eval y);binOp op T (a.eval x) (a.eval y));pure (.value v)):=by simp only[execOp,ho]
 rw[this,e1.gd,e2.gd,Sem.run_bind,h];rfl
variable {T:TypeId}{x y:Operand}{k k':IntKind}{a b r:Int}
theorem N7(hr:k.wrap (a+b)=r):∀W,(do eqGuard .add T x y (.int k a) (.int k b);binOp .add T (.int k a) (.int k b):Sem Value).run P W=.ok (.int k r) W:=fun W=>by simp[eqGuard,binOp,Op.intArith,hr]
theorem ID(hr:k.wrap (a-b)=r):∀W,(do eqGuard .sub T x y (.int k a) (.int k b);binOp .sub T (.int k a) (.int k b):Sem Value).run P W=.ok (.int k r) W:=fun W=>by simp[eqGuard,binOp,Op.intArith,hr]
theorem Fd(hr:k.wrap (a*b)=r):∀W,(do eqGuard .mul T x y (.int k a) (.int k b);binOp .mul T (.int k a) (.int k b):Sem Value).run P W=.ok (.int k r) W:=fun W=>by simp[eqGuard,binOp,Op.intArith,hr]
theorem N8(hr:bits .and k a b=r):∀W,(do eqGuard .and T x y (.int k a) (.int k b);binOp .and T (.int k a) (.int k b):Sem Value).run P W=.ok (.int k r) W:=fun W=>by simp[eqGuard,binOp,intBits_and,hr]
theorem Mg(hr:bits .or k a b=r):∀W,(do eqGuard .or T x y (.int k a) (.int k b);binOp .or T (.int k a) (.int k b):Sem Value).run P W=.ok (.int k r) W:=fun W=>by simp[eqGuard,binOp,intBits_or,hr]
theorem akM(hr:bits .xor k a b=r):∀W,(do eqGuard .xor T x y (.int k a) (.int k b);binOp .xor T (.int k a) (.int k b):Sem Value).run P W=.ok (.int k r) W:=fun W=>by simp[eqGuard,binOp,intBits_xor,hr]
theorem IE(hk:k.bits=64)(h0:0<=b)(V:b<=64)(hr:k.wrap (a*2 ^ b.toNat)=r):∀W,(do eqGuard .shl T x y (.int k a) (.int k' b);binOp .shl T (.int k a) (.int k' b):Sem Value).run P W=.ok (.int k r) W:=fun W=>by
 have q1:¬b<0:=by omega
 have q2:min b.toNat 64=b.toNat:=by omega
 simp[eqGuard,binOp,Op.shift,q1,hk,q2,hr]
theorem B7(hk:k.bits=64)(h0:0<=b)(V:b<=64)(hr:a/2 ^ b.toNat=r):∀W,(do eqGuard .shr T x y (.int k a) (.int k' b);binOp .shr T (.int k a) (.int k' b):Sem Value).run P W=.ok (.int k r) W:=fun W=>by
 have q1:¬b<0:=by omega
 have q2:min b.toNat 64=b.toNat:=by omega
 simp[eqGuard,binOp,Op.shift,q1,hk,q2];grind
end
theorem wrap_u64{n:Int}(h0:0<=n)(V:n<18446744073709551616):IntKind.u64.wrap n=n:=by
 grind[IntKind.wrap,IntKind.signed,IntKind.bits]
theorem XA{a b:Int}(m:Nat)(h0:0<=a)(V:a<18446744073709551616)(h2:a%2 ^ m=0)(h3:0<=b)(h4:b<2 ^ m)(h5:a+b<18446744073709551616):bits .or .u64 a b=a+b:=by
 unfold bits;have e:IntKind.u64.bits=64:=rfl;obtain⟨A,rfl⟩:=Int.eq_ofNat_of_zero_le h0;obtain⟨B,rfl⟩:=Int.eq_ofNat_of_zero_le h3;have hA:A<18446744073709551616:=by omega
 have hB:B<2 ^ m:=by exact_mod_cast h4
 have hAm:A%2 ^ m=0:=by exact_mod_cast h2
 have hBb:B<18446744073709551616:=by omega
 dsimp only;rw[e];have n1:(BitVec.ofInt 64 (A:Int)).toNat=A:=by rw[BitVec.toNat_ofInt];omega
 have n2:(BitVec.ofInt 64 (B:Int)).toNat=B:=by rw[BitVec.toNat_ofInt];omega
 rw[BitVec.toNat_or,n1,n2];obtain⟨q,hq⟩:∃q,A=2 ^ m*q:=⟨A/2 ^ m,by have:=Nat.div_add_mod A (2 ^ m);omega⟩;grind[Nat.two_pow_add_eq_or_of_lt,wrap_u64]
theorem XB{a:Int}(h0:0<=a)(V:a<18446744073709551616):bits .and .u64 a 4294967295=a%4294967296:=by
 unfold bits;have e:IntKind.u64.bits=64:=rfl;obtain⟨A,rfl⟩:=Int.eq_ofNat_of_zero_le h0;dsimp only;rw[e];have n1:(BitVec.ofInt 64 (A:Int)).toNat=A:=by rw[BitVec.toNat_ofInt];omega
 have n2:(BitVec.ofInt 64 (4294967295:Int)).toNat=2 ^ 32-1:=by decide
 rw[BitVec.toNat_and,n1,n2,Nat.and_two_pow_sub_one_eq_mod];grind[wrap_u64]
theorem qR{P:Program}{f:FuncId}{args:List AV}{x:AV}{r:Value}{vs:List Value}(hr:∀ {L:Nat->Prop} {ρ:Nat->Value} {w:World},RV L ρ (bx []) w x r)(hv:A5 args=some vs)(h:∀w,Calls P f vs.toArray w fun e w'=>e=.returned r/\cZ w w'):GC P f args [] x []:=by
 intro L w cs ρ fp hL pF bY pG ud;have pI:=Ix hv pF;subst pI;refine Calls.mono (h w) ?_;rintro e w' ⟨rfl,g⟩;refine⟨x,[],⟨rfl,rfl⟩,r,ρ,fun _=>[],rfl,⟨g.below.os,g.below.tape,g.below.output,g.size,fun b hb _=>g.below.block b hb,fun b o hb eI=>?_⟩,hr,fun i=>rfl,by simp,by simp⟩;rcases hb with⟨i,hi⟩|hb
 ·have:=(bY i).only hi;cases this.1
 exact g.nf b o hb eI
theorem IF{L:Nat->Prop}{ρ:Nat->Value}{H:Nat->AO}{w:World}:∀ {l:List AV} {cs:List Value},l=cs.map (fun c=>.p (.v c))->cs.all (·.oneCell')=true->RV L ρ H w (.au l) (.tuple cs.toArray):=fun{l cs} V h2=>by
 simp_all[RV,Ay]

def jH(a b i:Nat):Nat:=if i=a then b else if i=b then a else i
theorem zq(a b i:Nat):jH a b (jH a b i)=i:=by
 unfold jH;grind
theorem XC{a b i j:Nat}(h:jH a b i=jH a b j):i=j:=by grind[zq]
mutual
def gK(a b:Nat):AV->AV
 |.own id=>.own (jH a b id)
 |.sub id off len=>.sub (jH a b id) off len
 |.ptr id r k=>.ptr (jH a b id) r k
 |.agg l=>.agg (rx a b l)
 |.au l=>.au (rx a b l)
 |.fQ fn f l=>.fQ fn (rx a b f) (rx a b l)
 |x=>x
def rx(a b:Nat):List AV->List AV
 |[]=>[]
 |x::l=>gK a b x::rx a b l
end
def AO.gK(a b:Nat):AO->AO
 |.box T p cells=>.box T p (rx a b cells)
 |o=>o
theorem IG(a b:Nat):∀l,(rx a b l).length=l.length
 |[]=>rfl
 |x::xs=>by rw[rx,List.length_cons,IG a b xs,List.length_cons]
theorem CH(a b:Nat)(o:AO):(o.gK a b).here=o.here:=by cases o<;>rfl
theorem N9(a b:Nat)(o:AO):(o.gK a b).len=o.len:=by cases o<;>rfl
theorem N'(a b:Nat)(o:AO):(o.gK a b).sz=o.sz:=by
 cases o with
 |box T p cells=>exact IG a b cells
 |_=>rfl
theorem XD(a b:Nat)(x:AV)(h:x.cell=true):(gK a b x).cell=true:=by
 cases x<;>simp only[AV.cell,Bool.false_eq_true]at h<;>simp only[gK]<;>rfl
theorem Oa(a b:Nat):∀(l:List AV),(∀x∈l,x.cell=true)->∀x∈rx a b l,x.cell=true
 |[],h=>h
 |y::l,h=>by
  rw[rx];intro x hx;rcases List.mem_cons.1 hx with rfl|hx
  ·exact XD a b y (h y x_19)
  exact Oa a b l (fun z hz=>h z (by simp[hz])) x hx
section
variable {a b:Nat}{L:Nat->Prop}{ρ:Nat->Value}{H:Nat->AO}{w:World}
theorem Fe{x:Nat}:live L (fun j=>ρ (jH a b j)) (fun j=>(H (jH a b j)).gK a b) x↔live L ρ H x:=by
 unfold live;constructor
 ·grind[CH]
 rintro(h|⟨j,V,h2⟩)
 ·grind
 refine .inr ⟨jH a b j,?_,?_⟩;all_goals grind[CH,jH]
mutual
theorem RV.gK:∀(x:AV) {c:Value},RV L ρ H w x c->RV L (fun j=>ρ (jH a b j)) (fun j=>(H (jH a b j)).gK a b) w (_root_.Go.Proofs.YtflhgkmhmcfimaaGreat.gK a b x) c
 |.p x,c,h=>by
  simp_all[_root_.Go.Proofs.YtflhgkmhmcfimaaGreat.gK,RV,Fe]
 |.own j,c,h=>by
  grind[_root_.Go.Proofs.YtflhgkmhmcfimaaGreat.gK,RV,zq,CH]
 |.sub j off len,c,h=>by
  grind[_root_.Go.Proofs.YtflhgkmhmcfimaaGreat.gK,RV,zq,CH,N9,N']
 |.ptr j i kk,c,h=>by
  grind[_root_.Go.Proofs.YtflhgkmhmcfimaaGreat.gK,RV,zq,CH,N9,N']
 |.rp cells,c,h=>by
  simp_all[_root_.Go.Proofs.YtflhgkmhmcfimaaGreat.gK,RV,Fe]
 |.agg l,c,h=>by
  rw[_root_.Go.Proofs.YtflhgkmhmcfimaaGreat.gK];rw[RV]at *;obtain⟨cs,rfl,V⟩:=h;simp_all[bf.gK]
 |.au l,c,h=>by
  rw[_root_.Go.Proofs.YtflhgkmhmcfimaaGreat.gK];rw[RV]at *;obtain⟨cs,rfl,V⟩:=h;simp_all[bf.gK]
 |.fQ fn f l,c,h=>by
  rw[_root_.Go.Proofs.YtflhgkmhmcfimaaGreat.gK];rw[RV]at *;obtain⟨fs,cs,rfl,V,h2⟩:=h;exact⟨fs,cs,rfl,bf.gK f V,bf.gK l h2⟩
 |.dead,c,h=>by
  trivial
 |.bad,c,h=>by
  trivial
theorem bf.gK:∀(x:List AV) {c:List Value},bf L ρ H w x c->bf L (fun j=>ρ (jH a b j)) (fun j=>(H (jH a b j)).gK a b) w (rx a b x) c
 |[],c,h=>by trivial
 |x::xs,c,h=>by
  rw[rx];rw[bf]at *;obtain⟨c,r,rfl,V,h2⟩:=h;exact⟨c,r,rfl,RV.gK x V,bf.gK xs h2⟩
end
end
section
variable {P:Program}{L O:Nat->Prop}{w0:World}{N:Nat}{τ:Nat->AV}{H:Nat->AO}{Q:AQ}{ops:Array Oper}{l:List Oper}
theorem RR.swap{ρ:Nat->Value}{fp:Nat->List Nat}{act:Act}{w:World}(h:RR L O w0 N τ H ρ fp act w)(a b:Nat):RR L O w0 N (fun t=>gK a b (τ t)) (fun j=>(H (jH a b j)).gK a b) (fun j=>ρ (jH a b j)) (fun j=>fp (jH a b j)) act w:=by
 refine⟨h.jp,h.size,h.defers,fun t=>RV.gK _ (h.tm t),fun j=>?_,fun i j gF x hx=>h.dj _ _ (fun e=>gF (XC e)) x hx,fun j=>h.own _,h.lo⟩;have:=h.ob (jH a b j);cases hj:H (jH a b j)with
 |box T p cells=>
  rw[hj]at this;obtain⟨xs,V,h2,h3,h4,h5⟩:=this;exact⟨xs,bf.gK cells V,Oa a b cells h2,by grind[IG],h4,h5⟩
 |ai e sz rows=>
  rw[hj]at this;obtain⟨xs,fr,V,h2,h3,h4,h5⟩:=this;exact⟨xs,fr,V,fun b hb hl=>h2 b hb (Fe.1 hl),h3,h4,h5⟩
 |gone=>rw[hj]at this;exact this
theorem AW.swap(a b:Nat){c:Code}(h:AW P L O w0 N c (fun t=>gK a b (τ t)) (fun j=>(H (jH a b j)).gK a b) Q):AW P L O w0 N c τ H Q:=fun ρ fp act w hr=>h _ _ act w (hr.swap a b)
theorem AL.swap(a b:Nat)(h:AL P L O w0 N ops l (fun t=>gK a b (τ t)) (fun j=>(H (jH a b j)).gK a b) Q):AL P L O w0 N ops l τ H Q:=fun ρ fp act w hr=>h _ _ act w (hr.swap a b)
theorem QQ.swap{e:Exit}(a b:Nat)(h:Q e (fun t=>gK a b (τ t)) (fun j=>(H (jH a b j)).gK a b)){ρ:Nat->Value}{fp:Nat->List Nat}{act:Act}{w:World}(hr:RR L O w0 N τ H ρ fp act w):QQ L O w0 N Q e act w:=⟨_,_,_,_,hr.swap a b,h⟩
end

section
variable {P:Program}{L O:Nat->Prop}{w0:World}{N:Nat}{τ τ':Nat->AV}{H H':Nat->AO}{Q:AQ}{ops:Array Oper}{o:Oper}
def oe(P:Program)(L O:Nat->Prop)(w0:World)(N:Nat)(ops:Array Oper)(f:Nat)(X:Nat->Bool)(n:Nat)(av:Array Bool)(i:Nat)(τ:Nat->AV)(H:Nat->AO)(Q:AQ):Prop:=
 ∀ρ fp a w,RR L O w0 N τ H ρ fp a w->wpOp P ops (QQ L O w0 N Q) i (fun a' w'=>(i≠f->l6 X ρ H w w')/\qw P .any ops (QQ L O w0 N Q) (l6 X ρ H w) f n (av.setIfInBounds i true) a' w') a w
theorem AG.two{f i j:Nat}{X:Nat->Bool}{n:Nat}{av:Array Bool}(hr:Region.ready .any ops av=[i,j])(V:oe P L O w0 N ops f X n av i τ H Q)(h2:oe P L O w0 N ops f X n av j τ H Q):AG P L O w0 N ops f X (n+1) av τ H Q:=fun ρ fp a w bV=>by
 refine⟨fun h0=>x_14,fun k hk=>?_⟩;rw[hr]at hk;simp only[List.mem_cons,List.not_mem_nil,or_false]at hk;rcases hk with rfl|rfl
 ·exact V ρ fp a w bV
 exact h2 ρ fp a w bV
theorem oe.st{f i:Nat}{X:Nat->Bool}{n:Nat}{av:Array Bool}{E:List Nat}(ho:ops[i]? = some o)(hs:St P o N τ H E τ' H')(hX:∀id∈E,X id=true)(hg:gv τ ops o=some true)
 (h:AG P L O w0 N ops f X n (av.setIfInBounds i true) τ' H' Q):oe P L O w0 N ops f X n av i τ H Q:=fun ρ fp a w bV=>
 wpOp_step ho fun K hK=>by
  rw[bV.wanted hg,if_pos rfl];exact hs.run bV (fun a' w' ci bH gU lI=>hK _ _ ⟨fun _=>(lI X hX).1,zp (fun W hW=>(lI X hX).vA hW) _ _ _ _ (h ci bH a' w' gU)⟩)
theorem abw{f i:Nat}{X:Nat->Bool}{n:Nat}{av:Array Bool}{E:List Nat}{Z:(Nat->AV)->(Nat->AO)->Prop}(ho:ops[i]? = some o)(hs:wW P o N τ H E Z)(hX:∀id∈E,X id=true)(hg:gv τ ops o=some true)
 (h:∀τ' H',Z τ' H'->AG P L O w0 N ops f X n (av.setIfInBounds i true) τ' H' Q):oe P L O w0 N ops f X n av i τ H Q:=fun ρ fp a w bV=>
 wpOp_step ho fun K hK=>by
  rw[bV.wanted hg,if_pos rfl];exact hs.run bV (fun τ' H' a' w' ci bH hz gU lI=>hK _ _ ⟨fun _=>(lI X hX).1,zp (fun W hW=>(lI X hX).vA hW) _ _ _ _ (h τ' H' hz ci bH a' w' gU)⟩)
def AT(B:List (Nat×AO))(H:Nat->AO):List Nat->Prop
 |[]=>True
 |i::l=>bx B i=H i/\AT B H l
theorem AT.at{B:List (Nat×AO)}:∀ {X:List Nat},AT B H X->∀i∈X,bx B i=H i
 |[],_,i,hi=>by cases hi
 |j::l,h,i,hi=>by
  rcases List.mem_cons.1 hi with rfl|hi
  ·exact h.1
  exact AT.at h.2 i hi
theorem U6(T:List (Nat×AV))(B:List (Nat×AO)){X:List Nat}{f n:Nat}{av:Array Bool}(V:iN T τ)(h2:fo B H)(hX:AT B H X)(h:AG P L O w0 N ops f (kh X) n av (nY T) (bx B) Q):AG P L O w0 N ops f (kh X) n av τ H Q:=fun ρ fp a w hr=>by
 obtain⟨bH,gU,_⟩:=hr.eJ V.eJ h2.eJ;have e:l6 (kh X) ρ (bx B) w=l6 (kh X) ρ H w:=by
  funext W;unfold l6;have hh:∀id,kh X id=true->bx B id=H id:=fun id hid=>hX.at id (by grind[kh]);refine propext ⟨fun q=>⟨q.1,fun b hb hn=>q.2 b hb fun id h3 h4=>hn id h3 x_14⟩,fun q=>⟨q.1,fun b hb hn=>q.2 b hb fun id h3 h4=>hn id h3 x_14⟩⟩
 rw[<-e];exact h ρ bH a w gU
end

theorem bP.vj{w:World}{st:Bool}:∀ {x:List PV} {c:List Value} {fp:List Nat},bP w st x c fp->(∀p∈x,∃v,p=PV.v v)->fp=[]
 |[],c,fp,h,_=>by grind[bP]
 |x::xs,c,fp,h,hf=>by
  rw[bP]at h;obtain⟨c,r,f1,f2,rfl,rfl,V,h2⟩:=h;obtain⟨v,rfl⟩:=hf x x_19;rw[RW]at V;rw[V.2.1,bP.vj h2 (fun p hp=>hf p (by simp[hp]))];rfl
theorem bI.vj{w:World}{st:Bool}{sz:Nat}:∀ {x:List (List PV)} {c:List Value} {fp:List Nat},bI w st sz x c fp->(∀r∈x,∀p∈r,∃v,p=PV.v v)->fp=[]
 |[],c,fp,h,_=>by grind[bI]
 |x::xs,c,fp,h,hf=>by
  rw[bI]at h;obtain⟨hl,c,r,f1,f2,rfl,rfl,V,h2⟩:=h;rw[V.vj (hf x x_19),bI.vj h2 (fun r hr=>hf r (by simp[hr]))];rfl
theorem yg{α:Type}{enc:α->List Value}{l:List α}:∀r∈ah enc l,∀p∈r,∃v,p=PV.v v:=fun r hr p hp=>by
 unfold ah at hr;grind
section
variable {P:Program}{N:Nat}{τ:Nat->AV}{H:Nat->AO}{o:Oper}
theorem KI(id:Nat){y:Operand}{l:List Operand}{ts:Array TypeId}{f:FuncId}{fn:Func}{args:List AV}{i sz:Nat}{e:TypeId}{rows:List (List PV)}(ho:o.op=.call { callee:=.value y,args:=l.toArray,argTypes:=ts })(ht:∀s,o.dst=some s->s<N)
 (hy : ev τ y = .fQ (.func f) [] []) (hf : P.funcs[f]? = some fn) (vG : (fn.name == "runtime.NumGoroutine") = false) (nX : fn.body.isNone = false) (hc : GC P f args [] (.own i) [(i,.ai ⟨e,none⟩ sz rows)]) (jC : ∀ r ∈ rows,∀ p ∈ r,∃ v,p = PV.v v) (ha : qk H (l.map (ev τ)) = args) :
 St P o N τ H [] (mb (fun t=>bq (cK id) (τ t)) o.dst (.own id)) (aH (fun j=>(H j).bq (cK id)) id (.ai ⟨e,none⟩ sz rows)):=by
 refine⟨?_⟩
 intro L O w0 ρ fp a w K Q bV hk
 have ey:=bV.ev y
 rw[hy,RV]at ey
 obtain⟨cf,cc,ey,e1,e2⟩:=ey
 rw[bf]at e1 e2
 subst e1 e2
 have hv:=bf.jB (fun id=>⟨_,bV.ob id⟩) _ (bf.map (fun z=>bV.ev z) l)
 rw[ha]at hv
 have vE:=hc L0 w (l.map a.eval) s8 (fun _=>[]) (fun _ q=>q.elim) hv (fun i=>rfl) x_19 x_19
 have rq:(execOp a.eval o).run P w=.ok (.enter f (l.map a.eval).toArray) w:=by
  simp only[execOp,ho,resolve,Deferred.ofValue,ey,invoke,callFunc,Sem.run_bind,Sem.run_pure,Result.andThen_ok,run_program,hf,vG,nX,Bool.false_eq_true,if_false,List.map_toArray,List.append_toArray,List.nil_append,List.append_nil]
 unfold Oper.wp
 rw[rq]
 show Calls P f _ w _
 refine Calls.mono vE ?_
 rintro e w' ⟨_,_,⟨rfl,rfl⟩,v,ci,bH,rfl,g1,g2,g3,g4,g5⟩
 have hg:pL (fun _=>False) w w':=⟨g1.os,g1.tape,g1.output,g1.size,fun b hb _=>g1.block b hb x_19,fun b o hb eI=>g1.nf b o x_14 eI⟩
 have Ob:bx [(i,AO.ai ⟨e,none⟩ sz rows)] i=.ai ⟨e,none⟩ sz rows:=by simp[bx]
 have gi:=g3 i
 rw[Ob]at gi
 rw[RV,Ob]at g2
 have XE:v=ci i:=g2.2 rfl
 obtain⟨xs,fr,k1,k2,k3,k4,_⟩:=gi
 have ke:=k1.vj jC
 subst ke
 have nW:∀b∈bH i,w.heap.size<=b:=fun b hb=>by
  grind
 have XF:w0.heap.size<=w.heap.size:=bV.jp.size
 have gU:=bV.Cb (cK id) (id:=id) (o':=.ai ⟨e,none⟩ sz rows) (v':=ci i) (f':=bH i) (bV.grow hg).jp hg.size (fun b hb _=>hg.block b hb (fun q=>q))
  (fun hk=>by grind[cK]) (fun _ b hb=>.inl (nW b x_14))
  (fun E=>⟨xs,[],k1,by simp,k3,k4,fun u hu=>by cases hu⟩)
  (fun b hb=>⟨.inr (Nat.le_trans XF (nW b hb)),fun hL=>by have:=bV.lo b hL;grind⟩)
  (fun j hj b hb Ht=>by have:=(bV.ob j).lt b Ht;grind)
 refine hk _ _ _ _ (gU.Az o.dst (c:=v) ?_ ht) (fun X hX=>⟨⟨hg.size,fun b hb _=>hg.block b hb (fun q=>q)⟩,fun j hj hh b hb=>?_⟩)
 ·grind[RV,dV]
 by_cases ej:j=id
 ·subst ej
  rw[dV]at hb
  exact .inl (nW b (by rw[k4];simpa[Option.mem_toList]using hb))
 grind[eX,sb]
end

def lb(w W:World):Prop:=w.heap.size<=W.heap.size/\∀b,b<w.heap.size->W.heap[b]? = w.heap[b]?
theorem lb.refl(w:World):lb w w:=⟨Nat.le_refl _,fun _ _=>rfl⟩
theorem lb.trans{u v w:World}(h:lb u v)(h2:lb v w):lb u w:=⟨Nat.le_trans h.1 h2.1,fun b hb=>by rw[h2.2 b (Nat.lt_of_lt_of_le hb h.1),h.2 b hb]⟩
theorem XG{ρ:Nat->Value}{H:Nat->AO}{w W:World}(h:l6 (fun _=>false) ρ H w W):lb w W:=⟨h.1,fun b hb=>h.2 b hb fun id q=>by cases q⟩
theorem lb.to{ρ:Nat->Value}{H:Nat->AO}{w W:World}(h:lb w W):l6 (fun _=>false) ρ H w W:=⟨h.1,fun b hb _=>h.2 b hb⟩
section
variable {P:Program}{ops:Array Oper}{Q:Exit->Act->World->Prop}{md:Region.Mode}{F:List Nat}
def o7(P:Program)(md:Region.Mode)(ops:Array Oper)(Q:Exit->Act->World->Prop)(F:List Nat):Nat->Array Bool->Act->World->Prop
 |0,av,a,w=>Region.ready md ops av=[]/\Q .normal a w
 |cS+1,av,a,w=>
  (Region.ready md ops av=[]->Q .normal a w)/\
  ∀i∈Region.ready md ops av,wpOp P ops Q i (fun a' w'=>(F.contains i=false->lb w w')/\o7 P md ops Q F cS (av.setIfInBounds i true) a' w') a w
theorem Oc:∀(cS:Nat) (av:Array Bool) (a:Act) (w:World),o7 P md ops Q F cS av a w->wpAny P md ops Q cS av a w
 |0,_,_,_,h=>h
 |cS+1,_,_,_,h=>⟨h.1,fun i hi=>wpOp_mono (fun a' w' h'=>Oc cS _ a' w' h'.2) (h.2 i hi)⟩
def H0(md:Region.Mode)(ops:Array Oper)(F:List Nat)(av:Array Bool)(i:Nat):Bool:=F.all fun j=>av.getD j true||(xC md ops j).getD i false
theorem XH{S S':World->Prop}{o:Oper}{v:Value}{a:Act}(h:YieldsIf P ops S o v a)(hs:∀w,S' w->S w):YieldsIf P ops S' o v a:=by
 rcases h with⟨V,h2⟩|h
 ·exact .inl ⟨V,fun w hw=>h2 w (hs w hw)⟩
 exact .inr h
theorem XI{i:Nat}{oi:Oper}{v:Value}(hi:ops[i]? = some oi)(xL:∀(j:Nat) (o:Oper) cs b,ops[j]? = some o->o.op≠.select cs b)
 (hQ:∀c a w,Q (.panic c) (a.put oi.dst v) w->Q (.panic c) a w) :
 ∀(cS:Nat) (av:Array Bool) (a:Act) (w:World),
  (∀j oj,ops[j]? = some oj->j≠i->av.getD j true=false->(∀e∈oj.after,Region.binds md e=true->e.on≠i)->oi.apart ops oj=true)->
  (∀j,F.contains j=true->av.getD j true=false->(xC md ops j).getD i false=true)->
  xM md ops av->i∈Region.ready md ops av->YieldsIf P ops (lb w) oi v a->
  o7 P md ops Q F cS (av.setIfInBounds i true) (a.put oi.dst v) w->o7 P md ops Q F (cS+1) av a w:=by
 intro cS
 induction cS with
 |zero=>
  intro av a w _ _ _ hr hy H
  refine⟨fun h=>x_14,fun j hj=>?_⟩
  by_cases jq:j=i
  ·subst jq;exact hy.wpOp hi (lb.refl w) ⟨fun _=>lb.refl w,H⟩
  have:=ready_mono hj jq
  rw[H.1]at this
  grind
 |succ cS ih=>
  intro av a w xN hF qH hr hy H
  refine⟨fun h=>x_14,fun j hj=>?_⟩
  by_cases jq:j=i
  ·subst jq;exact hy.wpOp hi (lb.refl w) ⟨fun _=>lb.refl w,H⟩
  have V:=H.2 j (ready_mono hj jq)
  obtain⟨uH,oj,pQ,bB⟩:=mem_ready.1 hj
  have CI:∀e∈oj.after,Region.binds md e=true->e.on≠i:=fun e he hb pk=>by
   have V:=bB e he hb;have h0:=(mem_ready.1 hr).1;rw[pk]at V;rcases Nat.lt_or_ge i av.size with h'|h'
   ·simp[h']at h0 V;rw[h0]at V;cases V
   simp[Array.getElem?_eq_none h']at V
  have h2:=wpOp_putIf pQ (xN j oj pQ jq uH CI) (fun cs b=>xL i oi cs b hi) (fun cs b=>xL j oj cs b pQ) hQ hy V
  have Ff:∀k,(av.setIfInBounds j true).getD k true=false->av.getD k true=false:=fun k o8=>by
   by_cases hjk:j=k
   ·subst hjk;exact uH
   rw[getD_set_ne true hjk]at o8;exact o8
  have CJ:F.contains j=false:=by
   rcases q:F.contains j with _|_
   ·rfl
   exfalso;have hl:=Od qH (fun Fg wd e he hb=>by rw[pQ]at wd;injection wd with wd;subst wd;exact bB e he hb) (hF j q uH);rcases hl with hl|hl
   ·exact jq hl.symm
   have h0:=(mem_ready.1 hr).1;rcases Nat.lt_or_ge i av.size with h'|h'
   ·simp[h']at h0 hl;rw[h0]at hl;cases hl
   simp[Array.getElem?_eq_none h']at hl
  refine wpOp_mono (fun a' w' h3=>⟨fun _=>h3.2.1 CJ,ih (av.setIfInBounds j true) a' w' (fun k ok hk CK o8 iY=>xN k ok hk CK (Ff k o8) iY) (fun k hk o8=>hF k hk (Ff k o8)) (qH.set hj) (ready_mono hr (Ne.symm jq)) (XH h3.1 fun W hW=>(h3.2.1 CJ).trans hW) ?_⟩) h2
  grind[Array.setIfInBounds_comm]
theorem XJ{i:Nat}{oi:Oper}{v:Value}(hi:ops[i]? = some oi)(xL:∀(j:Nat) (o:Oper) cs b,ops[j]? = some o->o.op≠.select cs b)
 (hQ:∀c a w,Q (.panic c) (a.put oi.dst v) w->Q (.panic c) a w) :
 ∀(cS:Nat) (av:Array Bool) (a:Act) (w:World),
  (∀j oj,ops[j]? = some oj->j≠i->av.getD j true=false->(∀e∈oj.after,Region.binds md e=true->e.on≠i)->oi.apart ops oj=true)->
  xM md ops av->i∈Region.ready md ops av->YieldsIf P ops (fun _=>True) oi v a->
  o7 P md ops Q F cS (av.setIfInBounds i true) (a.put oi.dst v) w->o7 P md ops Q F (cS+1) av a w:=by
 intro cS
 induction cS with
 |zero=>
  intro av a w _ _ hr hy H
  refine⟨fun h=>x_14,fun j hj=>?_⟩
  by_cases jq:j=i
  ·subst jq;exact hy.wpOp hi trivial ⟨fun _=>lb.refl w,H⟩
  have:=ready_mono hj jq
  rw[H.1]at this
  grind
 |succ cS ih=>
  intro av a w xN qH hr hy H
  refine⟨fun h=>x_14,fun j hj=>?_⟩
  by_cases jq:j=i
  ·subst jq;exact hy.wpOp hi trivial ⟨fun _=>lb.refl w,H⟩
  have V:=H.2 j (ready_mono hj jq)
  obtain⟨uH,oj,pQ,bB⟩:=mem_ready.1 hj
  have CI:∀e∈oj.after,Region.binds md e=true->e.on≠i:=fun e he hb pk=>by
   have V:=bB e he hb;have h0:=(mem_ready.1 hr).1;rw[pk]at V;rcases Nat.lt_or_ge i av.size with h'|h'
   ·simp[h']at h0 V;rw[h0]at V;cases V
   simp[Array.getElem?_eq_none h']at V
  have h2:=wpOp_putIf pQ (xN j oj pQ jq uH CI) (fun cs b=>xL i oi cs b hi) (fun cs b=>xL j oj cs b pQ) hQ hy V
  have Ff:∀k,(av.setIfInBounds j true).getD k true=false->av.getD k true=false:=fun k o8=>by
   by_cases hjk:j=k
   ·subst hjk;exact uH
   rw[getD_set_ne true hjk]at o8;exact o8
  refine wpOp_mono (fun a' w' h3=>⟨h3.2.1,ih (av.setIfInBounds j true) a' w' (fun k ok hk CK o8 iY=>xN k ok hk CK (Ff k o8) iY) (qH.set hj) (ready_mono hr (Ne.symm jq)) h3.1 ?_⟩) h2
  grind[Array.setIfInBounds_comm]
theorem XK{i:Nat}{oi:Oper}{v:Value}{cS:Nat}{av:Array Bool}{a:Act}{w:World}(hi:ops[i]? = some oi)
 (hs:Region.noSelect ops=true) (hf:Region.free md ops av i=true) (hr:(Region.ready md ops av).contains i=true) (hw:H0 md ops F av i=true) (hc:rt md ops av=true)
 (hQ:∀c a w,Q (.panic c) (a.put oi.dst v) w->Q (.panic c) a w) (hy:YieldsIf P ops (lb w) oi v a)
 (h:o7 P md ops Q F cS (av.setIfInBounds i true) (a.put oi.dst v) w):o7 P md ops Q F (cS+1) av a w:=
 XI hi (Region.noSelect_spec hs) hQ cS av a w (Region.free_spec hi hf) (fun j hj o8=>by
  have:=List.all_eq_true.1 hw j (List.contains_iff_mem.1 hj);grind) (IH hc) x_14 hy h
theorem Oe{i:Nat}{oi:Oper}{v:Value}{cS:Nat}{av:Array Bool}{a:Act}{w:World}(hi:ops[i]? = some oi)
 (hs:Region.noSelect ops=true) (hf:Region.free md ops av i=true) (hr:(Region.ready md ops av).contains i=true) (hc:rt md ops av=true)
 (hQ:∀c a w,Q (.panic c) (a.put oi.dst v) w->Q (.panic c) a w) (hy:YieldsIf P ops (fun _=>True) oi v a)
 (h:o7 P md ops Q F cS (av.setIfInBounds i true) (a.put oi.dst v) w):o7 P md ops Q F (cS+1) av a w:=
 XJ hi (Region.noSelect_spec hs) hQ cS av a w (Region.free_spec hi hf) (IH hc) x_14 hy h
theorem Fh{i:Nat}{o:Oper}{cS:Nat}{av:Array Bool}{a:Act}{w:World}(ho:ops[i]? = some o)(hr:Region.ready md ops av=[i])
 (h:∀K':Act->World->Prop,(∀a w',(F.contains i=false->lb w w')->o7 P md ops Q F cS (av.setIfInBounds i true) a w'->K' a w')->if Region.wanted o (yielded ops a.tmps)=true then Oper.wp P o a w K' Q else K' (a.put o.dst undef) w) :
 o7 P md ops Q F (cS+1) av a w:=by
 refine⟨fun h0=>x_14,fun j hj=>?_⟩
 rw[hr]at hj
 obtain rfl:=List.mem_singleton.1 hj
 exact wpOp_step ho (fun K' hK=>h K' (fun a w V h2=>hK a w ⟨V,h2⟩))
theorem XL{av:Array Bool}{a:Act}{w:World}(hr:Region.ready md ops av=[])(h:Q .normal a w):∀cS,o7 P md ops Q F cS av a w
 |0=>⟨hr,h⟩
 |_+1=>⟨fun _=>h,by grind⟩
theorem XM{id:Nat}{a:Act}{w:World}(hm:P.follows .mixedOrders=true)(h:o7 P .any ops Q F ops.size (Array.replicate ops.size false) a w.drew):(Code.region id ops true).wp P Q a w:=
 wp_region_any hm (Oc _ _ _ _ h)
end
structure Pd(P:Program)(o:Oper)(τ:Nat->AV)(H:Nat->AO)(x:AV):Prop where
 run:∀ {L O:Nat->Prop} {w0:World} {N:Nat} {ρ:Nat->Value} {fp:Nat->List Nat} {a:Act} {w:World},RR L O w0 N τ H ρ fp a w->
  ∃c,RV L ρ H w x c/\∀W,(execOp a.eval o).run P W=.ok (.value c) W
section
variable {P:Program}{o:Oper}{τ:Nat->AV}{H:Nat->AO}
theorem Pd.pure{x:AV}(h:∀ {L:Nat->Prop} {ρ:Nat->Value} {a:Act} {w:World},(∀y,RV L ρ H w (ev τ y) (a.eval y))->∃c,RV L ρ H w x c/\∀W,(execOp a.eval o).run P W=.ok (.value c) W):Pd P o τ H x:=
 ⟨fun hr=>h (fun y=>hr.ev y)⟩
theorem Vd{x:Operand}{v:AV}(ho:o.op=.move x\/o.op=.assign x)(hv:ev τ x=v):Pd P o τ H v:=by
 subst hv;refine Pd.pure fun{L ρ a w} he=>⟨a.eval x,he x,fun W=>?_⟩;rcases ho with ho|ho<;>simp[execOp,ho]
theorem U8{t:TypeId}{x:Operand}{k off:Nat}{ft:TypeId}{cells:List PV}(ho:o.op=.fieldAddr t x k)(hf:zk P t k=some (off,ft))(h0:P.cellsOf ft≠0)(hd:(P.underlying ft).isSome=true)(hx:ev τ x=.rp cells):Pd P o τ H (.rp (cells.drop off)):=by
 apply Pd.pure;intro L ρ a w he;have h:=he x;rw[hx,RV]at h;obtain⟨b,c,cs,fp,e,p1,p2,p3,p4,p5⟩:=h;obtain⟨f2,q1,q2⟩:=bP.drop off p1;exact⟨_,by rw[RV];exact⟨b,_,_,f2,rfl,q1,p2.drop off,p3,p4,fun b hb=>p5 b (q2 hb)⟩,Fi ho hf h0 hd e⟩
theorem Vo{t:TypeId}{x:Operand}{k off:Nat}{ft:TypeId}{id i j:Nat}(ho:o.op=.fieldAddr t x k)(hf:zk P t k=some (off,ft))(h0:P.cellsOf ft≠0)(hd:(P.underlying ft).isSome=true)(hx:ev τ x=.ptr id i j)(hH:(H id).here=true):Pd P o τ H (.ptr id i (j+off)):=by
 apply Pd.pure;intro L ρ a w he;have h:=he x;rw[hx,RV]at h;obtain⟨p1,g,m,cap,p2,p3⟩:=h.2 hH;refine⟨_,?_,Fi ho hf h0 hd p3⟩;rw[RV];exact⟨rfl,fun _=>⟨p1,g,m,cap,p2,by simp⟩⟩
theorem Vq{x:Operand}{id r k:Nat}(ho:o.op=.nilCheck x)(hx:ev τ x=.ptr id r k)(hh:(H id).here=true):Pd P o τ H (.ptr id r k):=by
 refine Pd.pure fun{L ρ a w} he=>⟨a.eval x,hx▸he x,fun W=>?_⟩;have h:=he x;rw[hx,RV]at h;obtain⟨_,g,m,cap,_,e⟩:=h.2 hh;simp[execOp,ho,e]
end
def AF(P:Program)(L O:Nat->Prop)(w0:World)(N:Nat)(ops:Array Oper)(F:List Nat)(n:Nat)(av:Array Bool)(τ:Nat->AV)(H:Nat->AO)(Q:AQ):Prop:=
 ∀ρ fp a w,RR L O w0 N τ H ρ fp a w->o7 P .any ops (QQ L O w0 N Q) F n av a w
section
variable {P:Program}{L O:Nat->Prop}{w0:World}{N:Nat}{τ τ':Nat->AV}{H H':Nat->AO}{Q:AQ}{ops:Array Oper}{o:Oper}{F:List Nat}{n:Nat}{av:Array Bool}
theorem UZ{id:Nat}(F:List Nat)(hm:P.follows .mixedOrders=true)(h:AF P L O w0 N ops F ops.size (Array.replicate ops.size false) τ H Q):AW P L O w0 N (.region id ops true) τ H Q:=fun ρ fp a w hr=>
 XM hm (h ρ fp a w.drew hr.drew)
theorem AF.done(hr:Region.ready .any ops av=[])(h:Q .normal τ H):AF P L O w0 N ops F n av τ H Q:=fun ρ fp a w bV=>
 XL hr ⟨τ,H,ρ,fp,bV,h⟩ n
theorem AF.rd{i:Nat}{x:AV}{t:Nat}(ho:ops[i]? = some o)(hr:Region.ready .any ops av=[i])(sA:Rd P o τ H (fun _=>false) x)(hg:gv τ ops o=some true)(hd:o.dst=some t)(ht:t<N)
 (h:AF P L O w0 N ops F n (av.setIfInBounds i true) (aH τ t x) H Q):AF P L O w0 N ops F (n+1) av τ H Q:=fun ρ fp a w bV=>
 Fh ho hr fun K hK=>by
  rw[bV.wanted hg,if_pos rfl];obtain⟨c,V,h2⟩:=sA.run bV;unfold Oper.wp;rw[h2 w (l6.refl _ _ _ _)];refine hK _ _ (fun _=>lb.refl _) (h ρ fp _ w ?_);rw[hd];exact bV.put V ht
theorem U3{i:Nat}{t:Nat}(ho:ops[i]? = some o)(hr:Region.ready .any ops av=[i])(hg:gv τ ops o=some false)(hd:o.dst=some t)(ht:t<N)
 (h:AF P L O w0 N ops F n (av.setIfInBounds i true) (aH τ t (.au [])) H Q):AF P L O w0 N ops F (n+1) av τ H Q:=fun ρ fp a w bV=>
 Fh ho hr fun K hK=>by
  rw[bV.wanted hg,if_neg x_19];refine hK _ _ (fun _=>lb.refl _) (h ρ fp _ w ?_);rw[hd];exact bV.put x_126 ht
theorem AF.take{i:Nat}{x:AV}{t:Nat}(ho:ops[i]? = some o)(hr:(Region.ready .any ops av).contains i=true)(hs:Region.noSelect ops=true)(ke:Region.free .any ops av i=true)
 (hb:H0 .any ops F av i=true) (hc:rt .any ops av=true) (sA:Rd P o τ H (fun _=>false) x) (hg:gv τ ops o=some true) (hd:o.dst=some t) (ht:t<N) (wg:∀c τ H,¬Q (.panic c) τ H)
 (h:AF P L O w0 N ops F n (av.setIfInBounds i true) (aH τ t x) H Q):AF P L O w0 N ops F (n+1) av τ H Q:=fun ρ fp a w bV=>by
 obtain⟨c,V,h2⟩:=sA.run bV
 refine XK (v:=c) ho hs ke hr hb hc (fun c a w ⟨τ,H,_,_,_,q⟩=>absurd q (wg c τ H)) (.inl ⟨bV.wanted hg,fun W hW=>h2 W hW.to⟩) (h ρ fp _ w ?_)
 rw[hd]
 exact bV.put V ht
theorem Va{i:Nat}{x:AV}{t:Nat}(ho:ops[i]? = some o)(hr:(Region.ready .any ops av).contains i=true)(hs:Region.noSelect ops=true)(ke:Region.free .any ops av i=true)
 (hc:rt .any ops av=true) (sA:Pd P o τ H x) (hg:gv τ ops o=some true) (hd:o.dst=some t) (ht:t<N) (wg:∀c τ H,¬Q (.panic c) τ H)
 (h:AF P L O w0 N ops F n (av.setIfInBounds i true) (aH τ t x) H Q):AF P L O w0 N ops F (n+1) av τ H Q:=fun ρ fp a w bV=>by
 obtain⟨c,V,h2⟩:=sA.run bV
 refine Oe (v:=c) ho hs ke hr hc (fun c a w ⟨τ,H,_,_,_,q⟩=>absurd q (wg c τ H)) (.inl ⟨bV.wanted hg,fun W _=>h2 W⟩) (h ρ fp _ w ?_)
 rw[hd]
 exact bV.put V ht
theorem AF.skip{i:Nat}{t:Nat}(ho:ops[i]? = some o)(hr:(Region.ready .any ops av).contains i=true)(hs:Region.noSelect ops=true)(ke:Region.free .any ops av i=true)
 (hc:rt .any ops av=true) (hg:gv τ ops o=some false) (hd:o.dst=some t) (ht:t<N) (wg:∀c τ H,¬Q (.panic c) τ H)
 (h:AF P L O w0 N ops F n (av.setIfInBounds i true) (aH τ t (.au [])) H Q):AF P L O w0 N ops F (n+1) av τ H Q:=fun ρ fp a w bV=>by
 refine Oe (v:=undef) ho hs ke hr hc (fun c a w ⟨τ,H,_,_,_,q⟩=>absurd q (wg c τ H)) (.inr ⟨bV.wanted hg,rfl⟩) (h ρ fp _ w ?_)
 rw[hd]
 exact bV.put x_126 ht
theorem Ef{E:List Nat}{i:Nat}(hF:F.contains i=true\/E=[]){ρ ci:Nat->Value}{w w':World}(lI:∀X:Nat->Bool,(∀id∈E,X id=true)->Mv X ρ H w ci H' w'):F.contains i=false->lb w w':=fun q=>by
 rcases hF with hF|rfl
 ·grind
 exact XG (lI (fun _=>false) x_19).1
theorem AF.st{i:Nat}{E:List Nat}(ho:ops[i]? = some o)(hr:Region.ready .any ops av=[i])(hs:St P o N τ H E τ' H')(hF:F.contains i=true\/E=[])(hg:gv τ ops o=some true)
 (h:AF P L O w0 N ops F n (av.setIfInBounds i true) τ' H' Q):AF P L O w0 N ops F (n+1) av τ H Q:=fun ρ fp a w bV=>
 Fh ho hr fun K hK=>by
  rw[bV.wanted hg,if_pos rfl];exact hs.run bV (fun a' w' ci bH gU lI=>hK _ _ (Ef hF lI) (h ci bH a' w' gU))
theorem abx{i:Nat}{E:List Nat}{Z:(Nat->AV)->(Nat->AO)->Prop}(ho:ops[i]? = some o)(hr:Region.ready .any ops av=[i])(hs:wW P o N τ H E Z)(hF:F.contains i=true\/E=[])(hg:gv τ ops o=some true)
 (h:∀τ' H',Z τ' H'->AF P L O w0 N ops F n (av.setIfInBounds i true) τ' H' Q):AF P L O w0 N ops F (n+1) av τ H Q:=fun ρ fp a w bV=>
 Fh ho hr fun K hK=>by
  rw[bV.wanted hg,if_pos rfl];exact hs.run bV (fun τ' H' a' w' ci bH hz gU lI=>hK _ _ (Ef hF lI) (h τ' H' hz ci bH a' w' gU))
def d9(P:Program)(L O:Nat->Prop)(w0:World)(N:Nat)(ops:Array Oper)(F:List Nat)(n:Nat)(av:Array Bool)(i:Nat)(τ:Nat->AV)(H:Nat->AO)(Q:AQ):Prop:=
 ∀ρ fp a w,RR L O w0 N τ H ρ fp a w->wpOp P ops (QQ L O w0 N Q) i (fun a' w'=>(F.contains i=false->lb w w')/\o7 P .any ops (QQ L O w0 N Q) F n (av.setIfInBounds i true) a' w') a w
theorem AF.two{i j:Nat}(hr:Region.ready .any ops av=[i,j])(V:d9 P L O w0 N ops F n av i τ H Q)(h2:d9 P L O w0 N ops F n av j τ H Q):AF P L O w0 N ops F (n+1) av τ H Q:=fun ρ fp a w bV=>by
 refine⟨fun h0=>x_14,fun k hk=>?_⟩;rw[hr]at hk;simp only[List.mem_cons,List.not_mem_nil,or_false]at hk;rcases hk with rfl|rfl
 ·exact V ρ fp a w bV
 exact h2 ρ fp a w bV
theorem d9.st{i:Nat}{E:List Nat}(ho:ops[i]? = some o)(hs:St P o N τ H E τ' H')(hF:F.contains i=true\/E=[])(hg:gv τ ops o=some true)
 (h:AF P L O w0 N ops F n (av.setIfInBounds i true) τ' H' Q):d9 P L O w0 N ops F n av i τ H Q:=fun ρ fp a w bV=>
 wpOp_step ho fun K hK=>by
  rw[bV.wanted hg,if_pos rfl];exact hs.run bV (fun a' w' ci bH gU lI=>hK _ _ ⟨Ef hF lI,h ci bH a' w' gU⟩)
theorem AF.bool{b:Bool}{t:Nat}(ht:τ t=.p (.v (.bool b)))(V:b=true->AF P L O w0 N ops F n av (aH τ t (.p (.v (.bool true)))) H Q)(h2:b=false->AF P L O w0 N ops F n av (aH τ t (.p (.v (.bool false)))) H Q):AF P L O w0 N ops F n av τ H Q:=by
 cases b
 ·have:=h2 rfl;grind[sr]
 have:=V rfl;grind[sr]
theorem DR(t:Nat)(x:AV)(ht:τ t=x)(h:AF P L O w0 N ops F n av (aH τ t x) H Q):AF P L O w0 N ops F n av τ H Q:=by rwa [sr ht]at h
theorem AF.obj(i:Nat)(x:AO)(ht:H i=x)(h:AF P L O w0 N ops F n av τ (aH H i x) Q):AF P L O w0 N ops F n av τ H Q:=by rwa [sr ht]at h
theorem AF.freeze(id:Nat){e:ga}{sz:Nat}{rows:List (List PV)}(hH:H id=.ai e sz rows)(h:AF P L O w0 N ops F n av (fun t=>cO id (.ab e.ty sz rows) (τ t)) (so id (.ab e.ty sz rows) H) Q):AF P L O w0 N ops F n av τ H Q:=
 fun ρ fp a w hr=>h ρ _ a w (hr.freeze id hH)
theorem AF.tZ(id:Nat){T:TypeId}{cells:List AV}{p:Option Value}(hH:H id=.box T p cells)(h:∀g,AF P L O w0 N ops F n av τ (aH H id (.box T (some g) cells)) Q):AF P L O w0 N ops F n av τ H Q:=fun ρ fp a w hr=>h (ρ id) ρ fp a w (hr.tZ hH)
theorem AF.mU(id:Nat){e:ga}{sz:Nat}{rows:List (List PV)}(hH:H id=.ai e sz rows)(h:∀g,AF P L O w0 N ops F n av τ (aH H id (.ai ⟨e.ty,some g⟩ sz rows)) Q):AF P L O w0 N ops F n av τ H Q:=fun ρ fp a w hr=>h (ρ id) ρ fp a w (hr.mU hH _ (fun u hu=>by grind))
end
end Go.Proofs.YtflhgkmhmcfimaaGreat

