/- FnCheapest is proved: the given statement holds with no condition. Texts joined: E27, GrE, ER1, Fil, ER2, LFnCheapest, CFnCheapest. -/
import Derived.Test.YtlgamhhfgaeaoaaJRing4
import Derived.Test.YtlgamhhfgaeaoaaKCheap
import Derived.Test.YtlgamhhfgaeaoaaKRingC
import Derived.Test.YtlgamhhfgaeaoaaKCost1
import Derived.Test.YtlgamhhfgaeaoaaJRing3
import Derived.Test.YtlgamhhfgaeaoaaRows
import Derived.Test.YtlgamhhfgaeaoaaKOpn
namespace Go.Proofs.Ytlgamhhfgaeaoaa
open Go.RowKit
set_option linter.unusedSimpArgs false
set_option linter.unusedVariables false
section
variable {P:Program}
variable {o:Oper}{τ:Nat→AV}{H:Nat→AO}{X:Nat→Bool}
end
section
variable {P:Program}{L O:Nat→Prop}{w0:World}{N:Nat}{ops:Array Oper}{F:List Nat}{n:Nat}{listed:Array Bool}{o:Oper}{τ:Nat→AV}{H:Nat→AO}{Q:AQ}
theorem AF1.stx{i:Nat}{E:List Nat}{Z:(Nat→AV)→(Nat→AO)→Prop}(ho:ops[i]? = some o)(hs:StX P o N τ H E Z)(hF:F.contains i=true∨E=[])(hg:gv τ ops o=some true)
 (h:∀τ' H',Z τ' H'→AF P L O w0 N ops F n (listed.setIfInBounds i true) τ' H' Q):AF1 P L O w0 N ops F n listed i τ H Q:=fun ρ fp a w hrr=>
 wpOp_step ho fun K hK=>by
  rw[hrr.wanted hg,if_pos rfl]
  exact hs.run hrr (fun τ' H' a' w' ρ' fp' hz hr' hmv=>hK _ _ ⟨keepA_of hF hmv,h τ' H' hz ρ' fp' a' w' hr'⟩)
end

abbrev graphV(x:Graph):AV:=.agg [int x.n,.p (.lst 53 4 (rowsOf encEdge x.edges))]
abbrev intsV(l:List Int):AV:=.p (.lst 3 1 (rowsOf encInt l))
def GraphWf(x:Graph):Prop:=∀e∈x.edges,wfEdge e
def IntsWf(l:List Int):Prop:=∀n∈l,i64 n
theorem slice_form{α:Type}{sz:Nat}{rep:World→Nat→Nat→List Value→α→Prop}{w:World}{lo hi:Nat}{v:Value}{xs:List α}(h:SlR sz rep w lo hi v xs):∃a c,v=.slice a xs.length c:=by
 obtain⟨a,c,rfl,_⟩:=h
 exact⟨a,c,rfl⟩
theorem graphArg{L:Nat→Prop}{ρ:Nat→Value}{H:Nat→AO}{x:Graph}{w:World}{c:Value}(h:RV L ρ H w (graphV x) c)(hw:GraphWf x) :
 ∃a0 c0,c=.agg #[.int .i64 x.n,.slice a0 x.edges.length c0]∧SlR 4 repEdge w 0 w.heap.size (.slice a0 x.edges.length c0) x.edges:=by
 unfold graphV at h
 rw[RV]at h
 obtain⟨cs,rfl,h⟩:=h
 simp only[RVL]at h
 obtain⟨v0,r0,rfl,h0,v3,r3,rfl,h3,rfl⟩:=h
 have s3:=h3.slr (rep:=repEdge) (fun x=>rfl) (fun c hc=>⟨rfl,hw c hc⟩)
 obtain⟨a0,c0,rfl⟩:=slice_form s3
 exact⟨a0,c0,by rw[h0.v_eq],s3⟩
theorem intsArg{L:Nat→Prop}{ρ:Nat→Value}{H:Nat→AO}{l:List Int}{w:World}{c:Value}(h:RV L ρ H w (intsV l) c)(hw:IntsWf l) :
 ∃a0 c0,c=.slice a0 l.length c0∧SlR 1 repInt w 0 w.heap.size (.slice a0 l.length c0) l:=by
 have s3:=h.slr (rep:=repInt) (fun x=>rfl) (fun c hc=>⟨rfl,hw c hc⟩)
 obtain⟨a0,c0,rfl⟩:=slice_form s3
 exact⟨a0,c0,rfl,s3⟩
theorem args1{L:Nat→Prop}{ρ:Nat→Value}{H:Nat→AO}{w:World}{x:AV}{cs:List Value}(h:RVL L ρ H w [x] cs):∃c,cs=[c]∧RV L ρ H w x c:=by
 simp only[RVL]at h
 obtain⟨c,r,rfl,h1,rfl⟩:=h
 exact⟨c,rfl,h1⟩
theorem args2{L:Nat→Prop}{ρ:Nat→Value}{H:Nat→AO}{w:World}{x y:AV}{cs:List Value}(h:RVL L ρ H w [x,y] cs):∃c d,cs=[c,d]∧RV L ρ H w x c∧RV L ρ H w y d:=by
 simp only[RVL]at h
 obtain⟨c,r,rfl,h1,d,r',rfl,h2,rfl⟩:=h
 exact⟨c,d,rfl,h1,h2⟩
theorem GC.told{P:Program}{f:FuncId}{args:List AV}{x:AV}{r:Value}(hx:valA x=some r)(ho:∀ {L:Nat→Prop} {ρ:Nat→Value} {w:World},RV L ρ (ofO []) w x r)
 (h:∀(L:Nat→Prop) (ρ:Nat→Value) (w:World) (cs:List Value),RVL L ρ (ofO []) w args cs→Calls P f cs.toArray w fun e w'=>e=.returned r∧Grow w w'):GC P f args [] x []:=GC.of_calls hx ho h
theorem GC.of_slbL{α:Type}{P:Program}{f:FuncId}{args args':List AV}{ob0:List (Nat×AO)}{enc:α→List Value}{e:TypeId}{sz:Nat}{rep:World→Nat→Nat→List Value→α→Prop}{xs:List α}{b:Bool}(hrep:∀w lo hi cs x,rep w lo hi cs x→cs=enc x)(hs:∀x,(enc x).length=sz)(h1:∀x,∀u∈enc x,u.oneCell'=true)
 (hl:lendL (ofO ob0) args'=args) (h0:∀p∈ob0,arrO p.2=true)
 (h:∀(L:Nat→Prop) (ρ:Nat→Value) (w:World) (cs:List Value),RVL L ρ (ofO []) w args cs→Calls P f cs.toArray w fun en w'=>∃v,en=.returned (.tuple #[v,.bool b])∧Grow w w'∧RowN sz rep xs w' w.heap.size v):GC P f args' ob0 (.tup [.p (.lst e sz (rowsOf enc xs)),boo b]) ob0:=by
 intro L w cs ρ fp hL hargs hob hdj hLf
 have hv:=RVL.lend (fun id=>⟨_,hob id⟩) args' hargs
 rw[hl]at hv
 refine Calls.mono (h L0 ρ0 w cs hv) ?_
 rintro en w' ⟨v,rfl,g,r⟩
 have hsame:∀b,b<w.heap.size→w'.heap[b]? = w.heap[b]?:=fun b hb=>g.below.block b hb
 have hlv:∀b,live L ρ (ofO ob0) b→b<w.heap.size:=by
  rintro b (q|⟨i,q1,q2⟩)
  ·exact hL b q
  ·exact(hob i).lt b ((hob i).top q1 q2)
 have E:Env L ρ ρ (ofO ob0) (ofO ob0) w w' noK:=⟨g.size,fun b hb hn=>⟨hsame b hb,hn⟩,fun i _ hi=>⟨hi,rfl,rfl,rfl⟩⟩
 refine⟨_,ob0,⟨rfl,rfl⟩,_,ρ,fp,rfl,⟨g.below.os,g.below.tape,g.below.output,g.size,fun b hb _=>hsame b hb,fun b o hb hlt=>?_⟩,?_,fun i=>?_,hdj,fun i b hb=>⟨.inl ⟨i,hb⟩,hLf i b hb⟩⟩
 ·rcases Nat.lt_or_ge b w.heap.size with hb2|hb2
  ·rcases hb with⟨i,hi⟩|hb
   ·rw[World.frozen?_of_block (w:=w) (hsame b hb2)]
    exact(hob i).frozen b hi o
   ·omega
  ·exact g.nf b o hb2 hlt
 ·rw[RV]
  refine⟨[v,.bool b],rfl,?_⟩
  simp only[RVL]
  exact⟨_,_,rfl,RV.of_slr r (fun cs x hr=>hrep _ _ _ cs x hr) hs h1 (Nat.le_refl _) (fun b q1 q2 q3=>by have:=hlv b q3;omega),_,_,rfl,RV.v_mk rfl,rfl⟩
 ·have q:=(hob i).env E (fun b hb=>hsame b ((hob i).lt b hb))
  rwa [AO.kil_no]at q
section
variable (x:Graph)(f r:List Int)(hw:GraphWf x)(hf:IntsWf f)
theorem sgraphOk_e(hw:GraphWf x):GC Try.prog 25 [graphV x] [] (boo (graphOk x)) []:=GC.told rfl (RV.v_mk rfl) fun L ρ w cs h=>by
 obtain⟨c,rfl,hc⟩:=args1 h
 obtain⟨a0,c0,rfl,s0⟩:=graphArg hc hw
 exact spec_GraphOk_c x _ _ w s0
theorem flowOk_e(hw:GraphWf x)(hf:IntsWf f):GC Try.prog 9 [graphV x,intsV f] [] (boo (flowOk x f)) []:=GC.told rfl (RV.v_mk rfl) fun L ρ w cs h=>by
 obtain⟨c,d,rfl,hc,hd⟩:=args2 h
 obtain⟨a0,c0,rfl,s0⟩:=graphArg hc hw
 obtain⟨a1,c1,rfl,s1⟩:=intsArg hd hf
 exact impl_FlowOk_c x _ _ f _ _ w s0 s1
theorem sflowOk_e(hw:GraphWf x)(hf:IntsWf f):GC Try.prog 15 [graphV x,intsV f] [] (boo (flowOk x f)) []:=GC.told rfl (RV.v_mk rfl) fun L ρ w cs h=>by
 obtain⟨c,d,rfl,hc,hd⟩:=args2 h
 obtain⟨a0,c0,rfl,s0⟩:=graphArg hc hw
 obtain⟨a1,c1,rfl,s1⟩:=intsArg hd hf
 exact spec_FlowOk_c x _ _ f _ _ w s0 s1
theorem cost_e(hw:GraphWf x)(hf:IntsWf f):GC Try.prog 10 [graphV x,intsV f] [] (int (cost x f)) []:=GC.told rfl (RV.v_mk rfl) fun L ρ w cs h=>by
 obtain⟨c,d,rfl,hc,hd⟩:=args2 h
 obtain⟨a0,c0,rfl,s0⟩:=graphArg hc hw
 obtain⟨a1,c1,rfl,s1⟩:=intsArg hd hf
 exact impl_Cost_c x _ _ f _ _ w s0 s1
theorem repInt_enc:∀w lo hi cs x,repInt w lo hi cs x→cs=encInt x:=fun _ _ _ _ _ h=>h.1
theorem encInt_one:∀x,∀u∈encInt x,u.oneCell'=true:=fun x u hu=>by simp[encInt]at hu;subst hu;rfl
theorem ring_e(hw:GraphWf x)(hf:IntsWf f):GC Try.prog 6 [graphV x,intsV f] [] (.tup [intsV (ringL x f),boo (ringOk x f)]) []:=GC.of_slb repInt_enc (fun _=>rfl) encInt_one fun L ρ w cs h=>by
 obtain⟨c,d,rfl,hc,hd⟩:=args2 h
 obtain⟨a0,c0,rfl,s0⟩:=graphArg hc hw
 obtain⟨a1,c1,rfl,s1⟩:=intsArg hd hf
 exact(impl_Ring_c x _ _ f _ _ w s0 s1).mono fun e w' ⟨a,c,e1,g,s⟩=>⟨_,e1,g,s⟩
abbrev obF(u:Value)(f:List Int):List (Nat×AO):=[(7,.arr ⟨3,some u⟩ 1 (rowsOf encInt f))]
theorem sring_l(u:Value)(hw:GraphWf x)(hf:IntsWf f):GC Try.prog 7 [graphV x,.own 7] (obF u f) (.tup [intsV (ringL x f),boo (ringOk x f)]) (obF u f):=GC.of_slbL (args:=[graphV x,intsV f]) repInt_enc (fun _=>rfl) encInt_one rfl (by intro p hp;simp[obF]at hp;subst hp;rfl) fun L ρ w cs h=>by
 obtain⟨c,d,rfl,hc,hd⟩:=args2 h
 obtain⟨a0,c0,rfl,s0⟩:=graphArg hc hw
 obtain⟨a1,c1,rfl,s1⟩:=intsArg hd hf
 exact(spec_Ring_c x _ _ f _ _ w s0 s1).mono fun e w' ⟨a,c,e1,g,s⟩=>⟨_,e1,g,s⟩
theorem cheap_e(hw:GraphWf x):GC Try.prog 12 [graphV x] [] (.tup [intsV (cheapL x),boo (cheapOk x)]) []:=GC.of_slb repInt_enc (fun _=>rfl) encInt_one fun L ρ w cs h=>by
 obtain⟨c,rfl,hc⟩:=args1 h
 obtain⟨a0,c0,rfl,s0⟩:=graphArg hc hw
 exact(impl_Cheapest_c x _ _ w s0).mono fun e w' ⟨a,c,e1,g,s⟩=>⟨_,e1,g,s⟩
theorem scheap_e(hw:GraphWf x):GC Try.prog 13 [graphV x] [] (.tup [intsV (cheapL x),boo (cheapOk x)]) []:=GC.of_slb repInt_enc (fun _=>rfl) encInt_one fun L ρ w cs h=>by
 obtain⟨c,rfl,hc⟩:=args1 h
 obtain⟨a0,c0,rfl,s0⟩:=graphArg hc hw
 exact(spec_Cheapest_c x _ _ w s0).mono fun e w' ⟨a,c,e1,g,s⟩=>⟨_,e1,g,s⟩
abbrev arcsV(l:List Arc):AV:=.p (.lst 48 5 (rowsOf encArc l))
theorem sarcs_e(hw:GraphWf x)(hf:IntsWf f)(hok:flowOk x f=true):GC Try.prog 19 [graphV x,intsV f] [] (arcsV (arcsOf x f)) []:=GC.of_sl (enc:=encArc) (rep:=repArc) (fun _ _ _ _ _ h=>h.1) (fun _=>rfl) (fun x u hu=>by simp[encArc]at hu;rcases hu with rfl|rfl|rfl|rfl|rfl<;>rfl) fun L ρ w cs h=>by
 obtain⟨c,d,rfl,hc,hd⟩:=args2 h
 obtain⟨a0,c0,rfl,s0⟩:=graphArg hc hw
 obtain⟨a1,c1,rfl,s1⟩:=intsArg hd hf
 exact(spec_arcs_c x _ _ f _ _ w s0 s1 hok).mono fun e w' ⟨a,c,e1,g,s⟩=>⟨_,e1,g,s⟩
end

set_option maxHeartbeats 16000000
set_option maxRecDepth 100000
theorem gset{α:Type}{enc:α→List Value}{l:List α}{i:Nat}{c:α}:(rowsOf enc l).set i ((enc c).map PV.v)=rowsOf enc (l.set i c):=by unfold rowsOf;rw[List.map_set]
theorem gapp{α:Type}(enc:α→List Value)(xs ys:List α):rowsOf enc (xs++ys)=rowsOf enc xs++rowsOf enc ys:=List.map_append
theorem gmem{α:Type}{l:List α}{k:Nat}{x:α}{p:α→Prop}(h:∀y∈l,p y)(hx:p x):∀y∈l.set k x,p y:=fun y hy=>by
 rcases List.mem_or_eq_of_mem_set hy with q|rfl
 ·exact h y q
 ·exact hx
theorem gsnoc{α:Type}{l:List α}{x:α}{p:α→Prop}(h:∀y∈l,p y)(hx:p x):∀y∈l++[x],p y:=fun y hy=>by
 rcases List.mem_append.1 hy with q|q
 ·exact h y q
 ·rw[List.mem_singleton.1 q];exact hx
theorem wrap_in(n:Int):i64 (IntKind.i64.wrap n):=by rw[IntKind.wrap_i64];unfold i64;omega
theorem IntsWf.rep(n:Nat):IntsWf (List.replicate n 0):=fun x hx=>by
 rw[(List.mem_replicate.1 hx).2];unfold i64;omega
theorem flow_wf{x:Graph}{f:List Int}(h:flowOk x f=true):IntsWf f:=by
 obtain⟨_,h2,h3⟩:=flowOk_parts h
 intro n hn
 obtain⟨i,hi,rfl⟩:=List.getElem_of_mem hn
 have hz:i<(x.edges.zip f).length:=by simp;omega
 have:=h3 _ (List.getElem_mem hz)
 rw[List.getElem_zip]at this
 dsimp only at this
 unfold i64;omega
theorem ring_wf{x:Graph}{f:List Int}:IntsWf (ringL x f):=by
 intro n hn
 by_cases h:ringOk x f=true
 ·have hp:=push_ring h
  unfold pushOk at hp
  simp only[Bool.and_eq_true]at hp
  obtain⟨⟨⟨hf,_⟩,hr⟩,_⟩:=hp
  obtain⟨i,hi,rfl⟩:=List.getElem_of_mem hn
  have:=List.all_eq_true.1 hr i (List.mem_range.2 hi)
  unfold ringAt at this
  rw[List.getElem?_eq_getElem hi]at this
  simp only[Bool.and_eq_true]at this
  obtain⟨a,ha,he⟩:=List.any_eq_true.1 this.1
  have hfn:=arcs_fine hf a ha
  have e:a.id=(ringL x f)[i]:=by simpa using he
  unfold arcFine at hfn
  unfold i64;omega
 ·have e:ringL x f=[]:=if_neg h
  rw[e]at hn;cases hn
def PushR(gr:Graph):AV→List (Nat×AO)→Prop:=fun x ob=>∃b l,x=.tup [.own 5,boo b]∧ob=[(5,.arr 3 1 (rowsOf encInt l))]∧IntsWf l∧(b=true→flowOk gr l=true)
theorem idx_of{gr:Graph}{f:List Int}(h:flowOk gr f=true){id:Int}(ha:∃a∈arcsOf gr f,a.id=id):∃i:Nat,i<f.length∧id.tdiv 2=(i:Int):=by
 obtain⟨a,ha,rfl⟩:=ha
 obtain⟨i,h1,h2,hc⟩:=arc_at h ha
 refine⟨i,h2,?_⟩
 have h0:0≤a.id:=by omega
 rw[Int.tdiv_eq_ediv_of_nonneg h0]
 omega
def DrY(g:Value)(code:List Int)(R:AV→List (Nat×AO)→Prop):AV→List (Nat×AO)→Prop:=fun x ob=>∃i h ob2,CurOk code i∧R x ob2∧ob=(0,curO g code i h)::ob2
theorem pins_curY{g:Value}{code:List Int}{i:Nat}{h:Int}{R:AV→List (Nat×AO)→Prop}:∀x ob1,DrY g code R x ob1→pins [(0,curO g code i h)] ob1 [0]:=fun x ob1 ⟨_,_,_,_,_,e⟩=>by
 subst e
 exact⟨stays.box (Eq.refl 3),trivial⟩
def DrG:AV→List (Nat×AO)→Prop:=fun x ob2=>∃n l,i64 n∧GraphWf ⟨n,l⟩∧l.length≤11∧x=.agg [int n,.own 1]∧ob2=[(1,.arr 53 4 (rowsOf encEdge l))]
theorem spush_e(gr:Graph)(f r:List Int)(hw:GraphWf gr)(hf:IntsWf f)(hr:IntsWf r)(hn:r.length≤1048576):GX Try.prog 26 [graphV gr,intsV f,intsV r] [] (PushR gr):=by
 refine GX.intro (rs:=[.tmp 6,.tmp 7]) Try.func26 rfl Try.ntmps26 (Nat.le_of_ble_eq_true rfl) ⟨rfl,rfl,trivial⟩ ?_
 intro L O w0
 refine sL<|lst (zX 2003 Z) Z<|laV Z<|laZ Z<|nG<|aS<|sL<|loX (.agg [vI _ _,vL _ _ _]) ty.kd25 Z<|lmL Z<|lst (zC [] [] [] Try.func15 (sflowOk_e gr f hw hf) (trivial) Z Z) Z<|luB Z<|lmB Z ?_
 refine AL.bool (t:=23) rfl ?_ ?_
 ·intro h1
  refine lno Z<|lno Z<|lno Z<|lkT Z<|nG<|aY Z<|sL<|laV Z<|laZ Z<|nG ?_
  refine AW.adoptT 5 6 3 1 rfl ?_
  refine aR<|rT ?_
  refine end_xret ((.tup [.own 5,boo false])) [(5,.arr 3 1 (rowsOf encInt []))] ?_ rfl ⟨rfl,trivial⟩
  exact⟨false,[],rfl,rfl,(by intro x hx;cases hx),fun h=>by cases h⟩
 ·intro h1
  refine lmL Z<|lnI ty.sl26 Z<|lbB Z<|lkB Z<|nG ?_
  refine AW.cond rfl ?_ ?_
  ·intro h2
   refine sL<|laV Z<|laZ Z<|nG ?_
   refine AW.adoptT 5 6 3 1 rfl ?_
   refine aR<|rT ?_
   refine end_xret ((.tup [.own 5,boo false])) [(5,.arr 3 1 (rowsOf encInt []))] ?_ rfl ⟨rfl,trivial⟩
   exact⟨false,[],rfl,rfl,(by intro x hx;cases hx),fun h=>by cases h⟩
  ·intro h2
   refine aK<|gT<|aS ?_
   have hok:flowOk gr f=true:=by simpa using h1
   refine aL<|loX (.agg [vI _ _,vL _ _ _]) ty.kd25 Z<|lmL Z<|lst (zC [] [] [] Try.func19 (sarcs_e gr f hw hf hok) (trivial) Z Z) Z<|lT [1,2,3,6,7,30] [2003] ?_
   refine laL Z<|nA<|laI Z<|nG<|aS<|sL<|lmL Z<|lnI ty.sl26 Z<|lmI Z<|nG<|aB ?_
   refine aW [1,2,3,6,7,8,31,32] [2003] (D:=Nat×Int) (fun d=>[(33,int (d.1:Int)),(9,int d.2)]) (fun d=>[]) (fun d=>d.1≤r.length∧∀j (h:j<r.length),j<d.1→∃a∈arcsOf gr f,a.id=r[j]) (fun d=>r.length-d.1) ((0,_)) (⟨Nat.zero_le _,fun j h h2=>absurd h2 (by simp)⟩) ⟨rfl,rfl,trivial⟩ trivial ?_
   intro ⟨k,le⟩ hI
   obtain⟨hkr,hring⟩:=hI
   dsimp only at hkr hring
   refine sL<|lbB Z<|nG<|aS ?_
   refine AW.cond rfl ?_ ?_
   ·intro h3
    refine aK<|gT<|aS<|aB<|aS ?_
    have hk:k<r.length:=by have h:=h3;rw[length_rowsOf]at h;simp only[decide_eq_true_eq]at h;omega
    refine aL<|lmI Z<|li k ty.el26 Z (row_map hk)<|lrI ty.kd3 Z<|laI Z<|laI Z<|nA<|laZ Z<|nG<|aS<|sL<|lmL Z<|lnI ty.sl45 Z<|lmI Z<|nG<|aB ?_
    refine aW [1,2,3,6,7,8,10,11,31,32,33,38,39] [2003] (D:=Nat×Bool×Int) (fun d=>[(40,int (d.1:Int)),(12,boo d.2.1),(9,int d.2.2)]) (fun d=>[]) (fun d=>d.1≤(arcsOf gr f).length∧(d.2.1=true→∃a∈arcsOf gr f,a.id=r[k])) (fun d=>(arcsOf gr f).length-d.1) ((0,false,_)) (⟨Nat.zero_le _,fun h=>by cases h⟩) ⟨rfl,rfl,rfl,trivial⟩ trivial ?_
    intro ⟨j,fd,le1⟩ hI
    obtain⟨hjl,hfd⟩:=hI
    dsimp only at hjl hfd
    refine sL<|lbB Z<|nG<|aS ?_
    refine AW.cond rfl ?_ ?_
    ·intro h4
     refine aK<|gT<|aS<|aB<|aS ?_
     have hj:j<(arcsOf gr f).length:=by have h:=h4;rw[length_rowsOf]at h;simp only[decide_eq_true_eq]at h;omega
     refine aL<|li j ty.el45 Z (row_map hj)<|lrX (.agg [vI _ _,vI _ _,vI _ _,vI _ _,vI _ _]) ty.kd48 Z<|lst (zA 2014 ty.ze48 Z) Z<|lT [1,2,3,6,7,8,9,10,11,12,14,31,32,33,38,39,40,43] [2003,2014] ?_
     refine lst (zB 2014 ty.co48 ty.inf48 Z) Z<|nA<|lf 0 ty.F48_0 Z<|loI ty.kd3 Z<|lmI Z<|lbB Z<|nG ?_
     refine AW.cond rfl ?_ ?_
     ·intro h5
      refine sL<|laT Z<|nA<|lf 3 ty.F48_3 Z<|loI ty.kd3 Z<|lmI Z<|lbB Z<|nG ?_
      refine AW.cond rfl ?_ ?_
      ·intro h6
       refine aL<|lf 3 ty.F48_3 Z<|loI ty.kd3 Z<|laI Z<|lN<|gB<|gT<|aL ?_
       refine lhI rfl ⟨rfl,fits_i64 (by have:=arcsOf_len hok;unfold i64;omega)⟩<|lmI Z<|nG ?_
       refine⟨(j+1,true,_),⟨hj,fun _=>⟨_,List.getElem_mem hj,by simpa using h5⟩⟩,by show (arcsOf gr f).length-(j+1)<(arcsOf gr f).length-j;omega,⟨(iq rfl),rfl,rfl,trivial⟩,trivial,rfl,rfl⟩
      ·intro h6
       refine aK<|gB<|gT<|aL ?_
       refine lhI rfl ⟨rfl,fits_i64 (by have:=arcsOf_len hok;unfold i64;omega)⟩<|lmI Z<|nG ?_
       refine⟨(j+1,true,_),⟨hj,fun _=>⟨_,List.getElem_mem hj,by simpa using h5⟩⟩,by show (arcsOf gr f).length-(j+1)<(arcsOf gr f).length-j;omega,⟨(iq rfl),rfl,rfl,trivial⟩,trivial,rfl,rfl⟩
     ·intro h5
      refine aK<|gB<|gT<|aL ?_
      refine lhI rfl ⟨rfl,fits_i64 (by have:=arcsOf_len hok;unfold i64;omega)⟩<|lmI Z<|nG ?_
      refine⟨(j+1,fd,_),⟨hj,hfd⟩,by show (arcsOf gr f).length-(j+1)<(arcsOf gr f).length-j;omega,⟨(iq rfl),rfl,rfl,trivial⟩,trivial,rfl,rfl⟩
    ·intro h4
     refine aE<|eT<|eT<|eB<|gT<|aS<|sL<|laI Z<|nG<|aB ?_
     refine aW [1,2,3,6,7,8,9,10,11,31,32,33] [2003] (D:=Nat×Bool) (fun d=>[(15,int (d.1:Int)),(12,boo d.2)]) (fun d=>[]) (fun d=>d.1≤k∧(d.2=true→∃a∈arcsOf gr f,a.id=r[k])) (fun d=>k-d.1) ((0,fd)) (⟨Nat.zero_le _,hfd⟩) ⟨rfl,rfl,trivial⟩ trivial ?_
     intro ⟨m,fd2⟩ hI
     obtain⟨hmk0,hfd2⟩:=hI
     dsimp only at hmk0 hfd2
     refine aS<|sL<|lmI Z<|lmI Z<|lbB Z<|nG ?_
     refine AW.cond rfl ?_ ?_
     ·intro h7
      refine aK<|gT<|aS<|aB<|aS ?_
      have hm:m<r.length:=by have h:=h7;simp only[decide_eq_true_eq]at h;omega
      have hmk:m<k:=by have h:=h7;simp only[decide_eq_true_eq]at h;omega
      refine aL<|lmL Z<|lmI Z<|li m ty.el26 Z (row_map hm)<|lrI ty.kd3 Z<|lmI Z<|lbB Z<|nG ?_
      refine AW.cond rfl ?_ ?_
      ·intro h8
       refine aL<|laZ Z<|lT [1,2,3,6,7,8,9,10,11,12,15,31,32,33] [2003] ?_
       refine lN<|gB<|gT<|aL<|lmI Z ?_
       refine lhI rfl ⟨rfl,fits_i64 (by have:=arcsOf_len hok;unfold i64;omega)⟩<|laI Z<|nG ?_
       refine⟨(m+1,false),⟨hmk,fun h=>by cases h⟩,by show k-(m+1)<k-m;omega,⟨(iq rfl),rfl,trivial⟩,trivial,rfl,rfl⟩
      ·intro h8
       refine aK<|gB<|gT<|aL<|lmI Z ?_
       refine lhI rfl ⟨rfl,fits_i64 (by have:=arcsOf_len hok;unfold i64;omega)⟩<|laI Z<|nG ?_
       refine⟨(m+1,fd2),⟨hmk,hfd2⟩,by show k-(m+1)<k-m;omega,⟨(iq rfl),rfl,trivial⟩,trivial,rfl,rfl⟩
     ·intro h7
      refine aE<|eT<|eT<|eB<|gA<|lmB Z<|luB Z<|nG ?_
      refine AW.cond rfl ?_ ?_
      ·intro h9
       refine sL<|laV Z<|laZ Z<|nG ?_
       refine AW.adoptT 5 6 3 1 rfl ?_
       refine aR<|rB<|rT<|rT<|rB<|rT ?_
       refine end_xret ((.tup [.own 5,boo false])) [(5,.arr 3 1 (rowsOf encInt []))] ?_ rfl ⟨rfl,trivial⟩
       exact⟨false,[],rfl,rfl,(by intro x hx;cases hx),fun h=>by cases h⟩
      ·intro h9
       refine aK<|gB<|gT<|aL ?_
       refine lhI rfl ⟨rfl,fits_i64 (by have:=arcsOf_len hok;unfold i64;omega)⟩<|lmI Z<|nG ?_
       have htt:fd2=true:=by simpa using h9
       refine⟨(k+1,_),⟨hk,fun j h h2=>by
        by_cases e:j=k
        ·subst e;exact hfd2 htt
        ·exact hring j h (by dsimp only at h2;omega)⟩,by show r.length-(k+1)<r.length-k;omega,⟨(iq rfl),rfl,trivial⟩,trivial,rfl,rfl⟩
   ·intro h3
    refine aE<|eT<|eT<|eB<|gA<|lst (zS 5 [] ty.el26 ty.ze3 rfl (by simp)) Z<|lmL Z<|lst (zP 5 ty.el26 ty.ze3 ty.by3 rfl (Src.p rfl) (by have:=flowOk_parts hok;simp[rowsOf];omega)) Z<|lT [2,3,6,7,9,71] [5,2003] ?_
    refine laO Z<|nG<|aS<|sL<|lmL Z<|lnI ty.sl26 Z<|lmI Z<|nG<|aB ?_
    replace hring:∀j (h:j<r.length),j<r.length→∃a∈arcsOf gr f,a.id=r[j]:=fun j h _=>hring j h (by have h:=h3;rw[length_rowsOf]at h;simp only[decide_eq_false_iff_not]at h;omega)
    refine aW [3,6,7,9,16,72,73] [2003] (D:=Nat×List Int) (fun d=>[(74,int (d.1:Int))]) (fun d=>[(5,.arr 3 1 (rowsOf encInt d.2))]) (fun d=>d.1≤r.length∧IntsWf d.2∧d.2.length=f.length) (fun d=>r.length-d.1) ((0,f)) (⟨Nat.zero_le _,hf,rfl⟩) ⟨rfl,trivial⟩ ⟨rfl,trivial⟩ ?_
    intro ⟨k,o⟩ hI
    obtain⟨hkr2,ho,hol⟩:=hI
    dsimp only at hkr2 ho hol
    replace hring:∀j (h:j<r.length),∃a∈arcsOf gr f,a.id=r[j]:=fun j h=>hring j h h
    refine sL<|lbB Z<|nG<|aS ?_
    refine AW.cond rfl ?_ ?_
    ·intro h10
     refine aK<|gT<|aS<|aB<|aS ?_
     have hk:k<r.length:=by have h:=h10;rw[length_rowsOf]at h;simp only[decide_eq_true_eq]at h;omega
     obtain⟨i,hi,hq⟩:=idx_of hok (hring k hk)
     have hqf:IntKind.i64.wrap ((r[k]).tdiv 2)=(r[k]).tdiv 2:=fits_i64 (by rw[hq];unfold i64;have:=flowOk_parts hok;omega)
     have hio:i<o.length:=by omega
     refine aL<|li k ty.el26 Z (row_map hk)<|lrI ty.kd3 Z<|laI Z<|nA<|lmI Z ?_
     refine lhI rfl ⟨rfl,by decide⟩<|lbB Z<|nG ?_
     refine AW.cond rfl ?_ ?_
     ·intro h11
      refine aL<|lmO Z<|lmI Z ?_
      refine lhI rfl ⟨rfl,by decide,hqf⟩<|lmO Z<|lmI rfl ?_
      refine lhI rfl ⟨rfl,by decide,hqf⟩<|lq (rd (x:=.ptr 5 _ 0) (rd_iaddr_own (i:=i) rfl ty.el26 rfl rfl rfl ?hn1 (by rw[length_rowsOf];exact hio)) rfl) ?_
      case hn1=>exact hq
      refine lq (rd (x:=vI _ _) (rd_load_arr rfl ty.kd3 rfl rfl rfl (row_map hio) rfl) rfl)<|lmI Z<|lq (rd (x:=vI _ _) (rd_val rfl rfl rfl (run_addw rfl) rfl) rfl)<|lq (rd (x:=.ptr 5 _ 0) (rd_iaddr_own (i:=i) rfl ty.el26 rfl rfl rfl ?hn2 (by rw[length_rowsOf];exact hio)) rfl) ?_
      case hn2=>exact hq
      refine lst (zQ 5 [.v (.int .i64 (IntKind.i64.wrap (o[i]+le)))] ty.co3 ty.inf3 Z (row_map hio)) Z<|lT [3,6,7,9,16,72,73,74] [5,2003] ?_
      refine lN<|gB<|gT ?_
      refine AW.obj 5 (.arr 3 1 (rowsOf encInt (o.set i (IntKind.i64.wrap (o[i]+le))))) (Eq.trans (b:=AO.arr 3 1 ((rowsOf encInt o).set i ((encInt (IntKind.i64.wrap (o[i]+le))).map PV.v))) rfl (congrArg (AO.arr 3 1) gset)) ?_
      refine aL<|lgI Z<|lmI Z<|nG ?_
      refine⟨(k+1,_),⟨hk,gmem ho (wrap_in _),by dsimp only;rw[List.length_set];exact hol⟩,by show r.length-(k+1)<r.length-k;omega,⟨(iq rfl),trivial⟩,⟨rfl,trivial⟩,rfl,rfl⟩
     ·intro h11
      refine aL<|lmO Z<|lmI Z ?_
      refine lhI rfl ⟨rfl,by decide,hqf⟩<|lmO Z<|lmI rfl ?_
      refine lhI rfl ⟨rfl,by decide,hqf⟩<|lq (rd (x:=.ptr 5 _ 0) (rd_iaddr_own (i:=i) rfl ty.el26 rfl rfl rfl ?hn3 (by rw[length_rowsOf];exact hio)) rfl) ?_
      case hn3=>exact hq
      refine lq (rd (x:=vI _ _) (rd_load_arr rfl ty.kd3 rfl rfl rfl (row_map hio) rfl) rfl)<|lmI Z<|lq (rd (x:=vI _ _) (rd_val rfl rfl rfl (run_subw rfl) rfl) rfl)<|lq (rd (x:=.ptr 5 _ 0) (rd_iaddr_own (i:=i) rfl ty.el26 rfl rfl rfl ?hn4 (by rw[length_rowsOf];exact hio)) rfl) ?_
      case hn4=>exact hq
      refine lst (zQ 5 [.v (.int .i64 (IntKind.i64.wrap (o[i]-le)))] ty.co3 ty.inf3 Z (row_map hio)) Z<|lT [3,6,7,9,16,72,73,74] [5,2003] ?_
      refine lN<|gB<|gT ?_
      refine AW.obj 5 (.arr 3 1 (rowsOf encInt (o.set i (IntKind.i64.wrap (o[i]-le))))) (Eq.trans (b:=AO.arr 3 1 ((rowsOf encInt o).set i ((encInt (IntKind.i64.wrap (o[i]-le))).map PV.v))) rfl (congrArg (AO.arr 3 1) gset)) ?_
      refine aL<|lgI Z<|lmI Z<|nG ?_
      refine⟨(k+1,_),⟨hk,gmem ho (wrap_in _),by dsimp only;rw[List.length_set];exact hol⟩,by show r.length-(k+1)<r.length-k;omega,⟨(iq rfl),trivial⟩,⟨rfl,trivial⟩,rfl,rfl⟩
    ·intro h10
     refine aE<|eT<|eT<|eB<|gT<|aS<|sL<|loX (.agg [vI _ _,vL _ _ _]) ty.kd25 Z<|lmO Z<|lst (zL Try.func15 (sflowOk_e gr o hw ho) Z) Z<|luB Z<|nG ?_
     refine AW.cond rfl ?_ ?_
     ·intro h12
      refine sL<|laV Z<|laZ Z<|nG ?_
      refine AW.adoptT 5 6 3 1 rfl ?_
      refine aR<|rT ?_
      refine end_xret ((.tup [.own 5,boo false])) [(5,.arr 3 1 (rowsOf encInt []))] ?_ rfl ⟨rfl,trivial⟩
      exact⟨false,[],rfl,rfl,(by intro x hx;cases hx),fun h=>by cases h⟩
     ·intro h12
      refine aK<|gA<|lmO Z<|laO Z<|laT Z<|nG<|aR ?_
      refine end_xret ((.tup [.own 5,boo true])) [(5,.arr 3 1 (rowsOf encInt o))] ?_ rfl ⟨rfl,trivial⟩
      exact⟨true,o,rfl,rfl,ho,fun _=>by simpa using h12⟩
theorem l08Graph_e(g:Value)(code:List Int)(i:Nat)(h:Int)(hc:CurOk code i):GX Try.prog 30 [.ptr 0 0 0] [(0,curO g code i h)] (DrY g code DrG):=by
 refine GX.intro (rs:=[.cell 2 25 (some 2)]) Try.func30 rfl Try.ntmps30 (Nat.le_of_ble_eq_true rfl) ⟨rfl,rfl,ty.kd25,trivial⟩ ?_
 intro L O w0
 refine sL<|lst (zA 2002 ty.ze25 Z) Z<|nA<|lmP Z ?_
 refine lX [(0,0)] [] [0] Try.func28 (l01Below_e g code _ _ _ hc) (⟨⟨0,rfl,rfl⟩,trivial⟩) (pins_cur) Z ?_
 intro xz1 oz1 hz1
 obtain⟨i1,q1,hc1,⟨n1,⟨na1,nb1⟩,rfl⟩,rfl⟩:=hz1
 refine lgI Z<|lq (rd (x:=.agg [vI _ _,vV _]) (rd_build Z ty.sa25 Z Z Z) Z)<|lst (zA 2003 ty.ze25 Z) Z<|lst (zB 2003 ty.co25 ty.inf25 Z) Z<|nG<|aS<|sL<|lmP Z ?_
 refine lX [(0,0)] [] [0] Try.func28 (l01Below_e g code _ _ _ hc1) (⟨⟨0,rfl,rfl⟩,trivial⟩) (pins_cur) Z ?_
 intro xz2 oz2 hz2
 obtain⟨i2,q2,hc2,⟨n2,⟨na2,nb2⟩,rfl⟩,rfl⟩:=hz2
 refine laI Z<|nG<|aB ?_
 obtain⟨kk,hkk⟩:=Int.eq_ofNat_of_zero_le na2
 refine AW.adoptB 1 2003 1 53 4 rfl (by decide) rfl ?_
 refine aW [0,2,3] [2002] (D:=Nat×Int×Nat×List Edge) (fun d=>[(4,int (d.2.2.1:Int))]) (fun d=>[(0,curO g code d.1 d.2.1),(2003,.box 25 none [int _,.own 1]),(1,.arr 53 4 (rowsOf encEdge d.2.2.2))]) (fun d=>CurOk code d.1∧GraphWf ⟨0,d.2.2.2⟩∧d.2.2.2.length+d.2.2.1≤11) (fun d=>d.2.2.1) ((_,_,kk,[])) (⟨by assumption,(by intro e he;cases he),by dsimp only;simp;omega⟩) ⟨(congrArg int hkk),trivial⟩ ⟨rfl,rfl,rfl,trivial⟩ ?_
 intro ⟨iL,qL,kL,es⟩ hI
 obtain⟨hcL,hwL,hkL⟩:=hI
 simp only at hcL hwL hkL
 dsimp only
 refine aS<|sL<|lmI Z<|lbB Z<|nG ?_
 refine AW.cond rfl ?_ ?_
 ·intro h1
  refine aK<|gT<|aS<|aB<|aS ?_
  have hk1:1≤kL:=by have h:=h1;simp only[decide_eq_true_eq]at h;omega
  refine aL<|lmP Z<|lf 0 ty.F25_0 Z<|loI ty.kd3 Z ?_
  refine lX [(0,0)] [] [0] Try.func28 (l01Below_e g code _ _ _ hcL) (⟨⟨0,rfl,rfl⟩,trivial⟩) (pins_cur) Z ?_
  intro xz3 oz3 hz3
  obtain⟨i3,q3,hc3,⟨n3,⟨na3,nb3⟩,rfl⟩,rfl⟩:=hz3
  refine lT [0,2,3,4,19] [0,1,2002,2003] ?_
  refine lmP rfl ?_
  refine lX [(0,0)] [] [0] Try.func28 (l01Below_e g code _ _ _ hc3) (⟨⟨0,rfl,rfl⟩,trivial⟩) (pins_cur) Z ?_
  intro xz4 oz4 hz4
  obtain⟨i4,q4,hc4,⟨n4,⟨na4,nb4⟩,rfl⟩,rfl⟩:=hz4
  refine lmP rfl ?_
  refine lX [(0,0)] [] [0] Try.func28 (l01Below_e g code _ _ _ hc4) (⟨⟨0,rfl,rfl⟩,trivial⟩) (pins_cur) Z ?_
  intro xz5 oz5 hz5
  obtain⟨i5,q5,hc5,⟨n5,⟨na5,nb5⟩,rfl⟩,rfl⟩:=hz5
  refine lgI Z<|lq (rd (x:=.agg [vI _ _,vI _ _,vI _ _,vI _ _]) (rd_build rfl ty.sa53 rfl rfl rfl) rfl)<|lst (zA 2005 ty.ze53 rfl) Z<|lst (zB 2005 ty.co53 ty.inf53 rfl) Z<|nG<|aS<|aG 13 [0]<|tq 0 (rf 0 ty.F53_0 rfl)<|tq 1 (roI ty.kd3 rfl)<|tq 2 (rgI rfl (by unfold i64;omega))<|tq 3 (rmP rfl)<|tq 4 (rf 0 ty.F25_0 rfl)<|tq 5 (roI ty.kd3 rfl)<|tq 6 (rgI rfl (by unfold i64;omega))<|tq 9 (rf 0 ty.F25_0 rfl)<|tq 10 (roI ty.kd3 rfl) ?_
  refine AG.stx (i:=7) rfl (by kernel_rfl) (St.callX [(0,0)] [] [0] rfl (by intro s hs;cases hs;decide) rfl Try.func28 rfl rfl (l01Below_e g code _ _ _ hc5) ⟨rfl,rfl,rfl⟩ (⟨⟨0,rfl,rfl⟩,trivial⟩) (pins_cur) rfl) (exK (l:=[0]) rfl rfl) rfl ?_
  rintro _ _ ⟨xz7,oz7,hz7,rfl,rfl⟩
  obtain⟨i7,q7,hc7,⟨n7,⟨na7,nb7⟩,rfl⟩,rfl⟩:=hz7
  refine gX [0,2,3,4,5,28,33,36] [0,1,2002,2003,2005] ?_
  refine yq 8 (rgI rfl (by unfold i64;omega)) ?_
  refine yq 11 (rhI rfl ⟨rfl,by have:=na1;omega⟩) ?_
  obtain⟨z1,z2⟩:=tmod_bd (n:=n3+1+n7) (m:=2+n1) (by omega) (by omega)
  refine yq 12 (rf 1 ty.F53_1 Z)<|yl Z (zB 2005 ty.co3 ty.inf3 Z)<|gT ?_
  refine aJ [0,2,3,4,5] [1,2002,2003] (D:=Nat×Int×Int×Int×Int×Int) (fun d=>[]) (fun d=>[(0,curO g code d.1 d.2.1),(2005,.box 53 none [int d.2.2.1,int d.2.2.2.1,int d.2.2.2.2.1,int d.2.2.2.2.2])]) (fun d=>CurOk code d.1∧wfEdge ⟨d.2.2.1,d.2.2.2.1,d.2.2.2.2.1,d.2.2.2.2.2⟩) ?_ ?_
  ·refine sL<|lmP Z ?_
   refine lX [(0,0)] [] [0] Try.func28 (l01Below_e g code _ _ _ hc7) (⟨⟨0,rfl,rfl⟩,trivial⟩) (pins_cur) Z ?_
   intro xz8 oz8 hz8
   obtain⟨i8,q8,hc8,⟨n8,⟨na8,nb8⟩,rfl⟩,rfl⟩:=hz8
   refine lbB Z<|nG ?_
   refine AW.cond rfl ?_ ?_
   ·intro h2
    refine aL<|lf 2 ty.F53_2 Z<|lst (zB 2005 ty.co3 ty.inf3 Z) Z<|nG ?_
    refine⟨(_,_,_,(n3+1+n7).tmod (2+n1),_,_),(by refine⟨by assumption,?_⟩;simp only[wfEdge,i64]at *;omega),trivial,⟨rfl,rfl,trivial⟩,rfl,rfl⟩
   ·intro h2
    refine aK<|gT ?_
    refine⟨(_,_,_,(n3+1+n7).tmod (2+n1),_,_),(by refine⟨by assumption,?_⟩;simp only[wfEdge,i64]at *;omega),trivial,⟨rfl,rfl,trivial⟩,rfl,rfl⟩
  ·intro ⟨iJ9,qJ9,ea9,eb9,ec9,ed9⟩ hJ9
   dsimp only
   obtain⟨hcJ9,hwJ9⟩:=hJ9
   replace hcJ9:CurOk code iJ9:=hcJ9
   unfold wfEdge i64 at hwJ9
   simp only at hwJ9
   refine aJ [0,2,3,4,5] [1,2002,2003] (D:=Nat×Int×Int×Int×Int×Int) (fun d=>[]) (fun d=>[(0,curO g code d.1 d.2.1),(2005,.box 53 none [int d.2.2.1,int d.2.2.2.1,int d.2.2.2.2.1,int d.2.2.2.2.2])]) (fun d=>CurOk code d.1∧wfEdge ⟨d.2.2.1,d.2.2.2.1,d.2.2.2.2.1,d.2.2.2.2.2⟩) ?_ ?_
   ·refine sL<|lmP Z ?_
    refine lX [(0,0)] [] [0] Try.func28 (l01Below_e g code _ _ _ hcJ9) (⟨⟨0,rfl,rfl⟩,trivial⟩) (pins_cur) Z ?_
    intro xz9 oz9 hz9
    obtain⟨i9,q9,hc9,⟨n9,⟨na9,nb9⟩,rfl⟩,rfl⟩:=hz9
    refine lbB Z<|nG ?_
    refine AW.cond rfl ?_ ?_
    ·intro h3
     refine aL<|lf 3 ty.F53_3 Z<|lst (zB 2005 ty.co3 ty.inf3 Z) Z<|nG ?_
     refine⟨(_,_,_,_,_,_),(by refine⟨by assumption,?_⟩;simp only[wfEdge,i64]at *;omega),trivial,⟨rfl,rfl,trivial⟩,rfl,rfl⟩
    ·intro h3
     refine aK<|gT ?_
     refine⟨(_,_,_,_,_,_),(by refine⟨by assumption,?_⟩;simp only[wfEdge,i64]at *;omega),trivial,⟨rfl,rfl,trivial⟩,rfl,rfl⟩
   ·intro ⟨iJ11,qJ11,ea11,eb11,ec11,ed11⟩ hJ11
    dsimp only
    obtain⟨hcJ11,hwJ11⟩:=hJ11
    replace hcJ11:CurOk code iJ11:=hcJ11
    unfold wfEdge i64 at hwJ11
    simp only at hwJ11
    refine aL<|lf 1 ty.F25_1 Z<|loO ty.kd23 Z<|loX (.agg [vI _ _,vI _ _,vI _ _,vI _ _]) ty.kd53 Z ?_
    refine lst (zS 2050 (rowsOf encEdge [⟨ea11,eb11,ec11,ed11⟩]) ty.el23 ty.ze53 rfl) Z<|lst (zP 1 ty.el23 ty.ze53 ty.by53 rfl (Src.own rfl rfl) (by simp[rowsOf];omega)) Z<|lf 1 ty.F25_1 Z<|lst (zB 2003 ty.co23 ty.inf23 rfl) Z<|lN<|gB<|gT<|aL<|lmI Z<|lgI Z<|laI Z<|nG ?_
    refine⟨(_,_,kL-1,es++[⟨ea11,eb11,ec11,ed11⟩]),⟨by assumption,gsnoc hwL (by unfold wfEdge i64;dsimp only;omega),by dsimp only;simp;omega⟩,by dsimp only;omega,⟨(Eq.trans (b:=int _) rfl (congrArg int (by dsimp only;omega))),trivial⟩,⟨rfl,rfl,(congrArg (AO.arr 53 4) (gapp encEdge _ [_]).symm),trivial⟩,rfl,rfl⟩
 ·intro h1
  refine aE<|eT<|eT<|eB<|gA<|loX (.agg [vI _ _,.own _]) ty.kd25 Z<|lst (zB 2002 ty.co25 ty.inf25 Z) Z<|nG<|aR ?_
  refine end_xret ((.agg [int _,.own 1])) [(0,curO g code _ _),(1,.arr 53 4 (rowsOf encEdge es))] ?_ rfl ⟨rfl,rfl,trivial⟩
  exact⟨_,_,_,hcL,⟨2+n1,es,by unfold i64;omega,hwL,by omega,rfl,rfl⟩,rfl⟩
theorem l08Any_e(g:Value)(code:List Int)(i:Nat)(h:Int)(hc:CurOk code i):GX Try.prog 24 [.ptr 0 0 0] [(0,curO g code i h)] (DrY g code DrG):=by
 refine GX.intro (rs:=[.cell 2 25 (some 2)]) Try.func24 rfl Try.ntmps24 (Nat.le_of_ble_eq_true rfl) ⟨rfl,rfl,ty.kd25,trivial⟩ ?_
 intro L O w0
 refine sL<|lst (zA 2002 ty.ze25 Z) Z<|nA<|lmP Z ?_
 refine lX [(0,0),(1,1)] [1] [0] Try.func30 (l08Graph_e g code _ _ hc) (⟨⟨0,rfl,rfl⟩,trivial⟩) (pins_curY) Z ?_
 intro xz1 oz1 hz1
 obtain⟨i1,q1,_,hc1,⟨nn1,es1,hn1,hw1,hl1,rfl,rfl⟩,rfl⟩:=hz1
 refine lst (zA 2003 ty.ze25 Z) Z<|lst (zB 2003 ty.co25 ty.inf25 Z) Z<|nA<|lmP Z ?_
 refine lX [(0,0)] [] [0] Try.func28 (l01Below_e g code _ _ _ hc1) (⟨⟨0,rfl,rfl⟩,trivial⟩) (pins_cur) Z ?_
 intro xz2 oz2 hz2
 obtain⟨i2,q2,hc2,⟨n2,⟨na2,nb2⟩,rfl⟩,rfl⟩:=hz2
 refine laI Z<|nA<|lf 1 ty.F25_1 Z<|loO ty.kd23 Z<|lnI ty.sl23 Z ?_
 refine AL.slot 12 (int (es1.length:Int)) (congrArg (fun n:Nat=>int (n:Int)) (length_rowsOf _ _)) ?_
 refine laI Z<|nG ?_
 refine aJ [0,2,3,4,5] [2002] (D:=Nat×Int×Int×List Edge) (fun d=>[]) (fun d=>[(0,curO g code d.1 d.2.1),(2003,.box 25 none [int d.2.2.1,.own 1]),(1,.arr 53 4 (rowsOf encEdge d.2.2.2))]) (fun d=>CurOk code d.1∧i64 d.2.2.1∧GraphWf ⟨0,d.2.2.2⟩∧d.2.2.2.length=es1.length) ?_ ?_
 ·refine sL<|lmI Z<|lbB Z<|nG ?_
  refine AW.cond rfl ?_ ?_
  ·intro h1
   refine aL<|lmP Z ?_
   refine lX [(0,0)] [] [0] Try.func29 (l01Raw_e g code _ _ hc2) (⟨⟨0,rfl,rfl⟩,trivial⟩) (pins_cur) Z ?_
   intro xz3 oz3 hz3
   obtain⟨i3,q3,hc3,⟨n3,hn3,rfl⟩,rfl⟩:=hz3
   refine lT [0,2,3,4,5,16] [0,1,2002,2003] ?_
   refine lf 0 ty.F25_0 Z<|lst (zB 2003 ty.co3 ty.inf3 Z) Z<|nG ?_
   refine⟨(_,_,_,_),⟨by assumption,by assumption,by assumption,by first|assumption|rfl⟩,trivial,⟨rfl,rfl,rfl,trivial⟩,rfl,rfl⟩
  ·intro h1
   refine aK<|gT ?_
   refine⟨(_,_,_,_),⟨by assumption,by assumption,by assumption,by first|assumption|rfl⟩,trivial,⟨rfl,rfl,rfl,trivial⟩,rfl,rfl⟩
 ·intro ⟨iJ6,qJ6,nJ6,lJ6⟩ hJ6
  dsimp only
  obtain⟨hcJ6,hnJ6,hwJ6,heJ6⟩:=hJ6
  simp only at hcJ6 hnJ6 hwJ6 heJ6
  refine aJ [0,2,3,4,5] [2002] (D:=Nat×Int×Int×List Edge) (fun d=>[]) (fun d=>[(0,curO g code d.1 d.2.1),(2003,.box 25 none [int d.2.2.1,.own 1]),(1,.arr 53 4 (rowsOf encEdge d.2.2.2))]) (fun d=>CurOk code d.1∧i64 d.2.2.1∧GraphWf ⟨0,d.2.2.2⟩∧d.2.2.2.length=es1.length) ?_ ?_
  ·refine sL<|lmI Z<|lbB Z<|lmB Z ?_
   refine AL.bool (t:=20) rfl ?_ ?_
   ·intro h2
    refine lmI Z<|lbB Z<|lkB Z<|nG ?_
    refine AW.cond rfl ?_ ?_
    ·intro h3
     have hl0:0<lJ6.length:=by have h:=h3;simp at h;omega
     refine aG 6 [0]<|tq 0 (rf 1 ty.F25_1 Z)<|tq 1 (roO ty.kd23 Z)<|yq 2 (rmP Z) ?_
     refine AG.stx (i:=3) rfl (by kernel_rfl) (St.callX [(0,0)] [] [0] rfl (by intro s hs;cases hs;decide) rfl Try.func29 rfl rfl (l01Raw_e g code _ _ hcJ6) ⟨rfl,rfl,rfl⟩ (⟨⟨0,rfl,rfl⟩,trivial⟩) (pins_cur) rfl) (exK (l:=[0]) rfl rfl) rfl ?_
     rintro _ _ ⟨xz5,oz5,hz5,rfl,rfl⟩
     obtain⟨i5,q5,hc5,⟨n5,hn5,rfl⟩,rfl⟩:=hz5
     refine yq 4 (rj 0 ty.el23 rfl (by rw[length_rowsOf];omega))<|yq 5 (rf 2 ty.F53_2 rfl)<|yl rfl (zQ 1 [.v (.int .i64 n5)] ty.co3 ty.inf3 rfl (row_map (by omega)))<|gT ?_
     refine⟨(_,_,_,_),⟨by assumption,by assumption,gmem (by assumption) (by have hz:=hwJ6 _ (List.getElem_mem (by omega:0<lJ6.length));unfold wfEdge at *;dsimp only at *;simp_all),by rw[List.length_set];assumption⟩,trivial,⟨rfl,rfl,(Eq.trans (b:=AO.arr 53 4 ((rowsOf encEdge lJ6).set 0 ((encEdge ({ lJ6[0]with cap:=n5 })).map PV.v))) rfl (congrArg (AO.arr 53 4) gset)),trivial⟩,rfl,rfl⟩
    ·intro h3
     refine aK<|gT ?_
     refine⟨(_,_,_,_),⟨by assumption,by assumption,by assumption,by first|assumption|rfl⟩,trivial,⟨rfl,rfl,rfl,trivial⟩,rfl,rfl⟩
   ·intro h2
    refine lno Z<|lno Z<|lkZ Z<|nG<|aN Z<|aK<|gT ?_
    refine⟨(_,_,_,_),⟨by assumption,by assumption,by assumption,by first|assumption|rfl⟩,trivial,⟨rfl,rfl,rfl,trivial⟩,rfl,rfl⟩
  ·intro ⟨iJ8,qJ8,nJ8,lJ8⟩ hJ8
   dsimp only
   obtain⟨hcJ8,hnJ8,hwJ8,heJ8⟩:=hJ8
   simp only at hcJ8 hnJ8 hwJ8 heJ8
   refine aJ [0,2,3,4,5] [2002] (D:=Nat×Int×Int×List Edge) (fun d=>[]) (fun d=>[(0,curO g code d.1 d.2.1),(2003,.box 25 none [int d.2.2.1,.own 1]),(1,.arr 53 4 (rowsOf encEdge d.2.2.2))]) (fun d=>CurOk code d.1∧i64 d.2.2.1∧GraphWf ⟨0,d.2.2.2⟩∧d.2.2.2.length=es1.length) ?_ ?_
   ·refine sL<|lmI Z<|lbB Z<|lmB Z ?_
    refine AL.bool (t:=32) rfl ?_ ?_
    ·intro h4
     refine lmI Z<|lbB Z<|lkB Z<|nG ?_
     refine AW.cond rfl ?_ ?_
     ·intro h5
      have hl0:0<lJ8.length:=by have h:=h5;simp at h;omega
      refine aG 6 [0]<|tq 0 (rf 1 ty.F25_1 Z)<|tq 1 (roO ty.kd23 Z)<|yq 2 (rmP Z) ?_
      refine AG.stx (i:=3) rfl (by kernel_rfl) (St.callX [(0,0)] [] [0] rfl (by intro s hs;cases hs;decide) rfl Try.func29 rfl rfl (l01Raw_e g code _ _ hcJ8) ⟨rfl,rfl,rfl⟩ (⟨⟨0,rfl,rfl⟩,trivial⟩) (pins_cur) rfl) (exK (l:=[0]) rfl rfl) rfl ?_
      rintro _ _ ⟨xz7,oz7,hz7,rfl,rfl⟩
      obtain⟨i7,q7,hc7,⟨n7,hn7,rfl⟩,rfl⟩:=hz7
      refine yq 4 (rj 0 ty.el23 rfl (by rw[length_rowsOf];omega))<|yq 5 (rf 3 ty.F53_3 rfl)<|yl rfl (zQ 1 [.v (.int .i64 n7)] ty.co3 ty.inf3 rfl (row_map (by omega)))<|gT ?_
      refine⟨(_,_,_,_),⟨by assumption,by assumption,gmem (by assumption) (by have hz:=hwJ8 _ (List.getElem_mem (by omega:0<lJ8.length));unfold wfEdge at *;dsimp only at *;simp_all),by rw[List.length_set];assumption⟩,trivial,⟨rfl,rfl,(Eq.trans (b:=AO.arr 53 4 ((rowsOf encEdge lJ8).set 0 ((encEdge ({ lJ8[0]with cost:=n7 })).map PV.v))) rfl (congrArg (AO.arr 53 4) gset)),trivial⟩,rfl,rfl⟩
     ·intro h5
      refine aK<|gT ?_
      refine⟨(_,_,_,_),⟨by assumption,by assumption,by assumption,by first|assumption|rfl⟩,trivial,⟨rfl,rfl,rfl,trivial⟩,rfl,rfl⟩
    ·intro h4
     refine lno Z<|lno Z<|lkZ Z<|nG<|aN Z<|aK<|gT ?_
     refine⟨(_,_,_,_),⟨by assumption,by assumption,by assumption,by first|assumption|rfl⟩,trivial,⟨rfl,rfl,rfl,trivial⟩,rfl,rfl⟩
   ·intro ⟨iJ10,qJ10,nJ10,lJ10⟩ hJ10
    dsimp only
    obtain⟨hcJ10,hnJ10,hwJ10,heJ10⟩:=hJ10
    simp only at hcJ10 hnJ10 hwJ10 heJ10
    refine aJ [0,2,3,4,5] [2002] (D:=Nat×Int×Int×List Edge) (fun d=>[]) (fun d=>[(0,curO g code d.1 d.2.1),(2003,.box 25 none [int d.2.2.1,.own 1]),(1,.arr 53 4 (rowsOf encEdge d.2.2.2))]) (fun d=>CurOk code d.1∧i64 d.2.2.1∧GraphWf ⟨0,d.2.2.2⟩∧d.2.2.2.length=es1.length) ?_ ?_
    ·refine sL<|lmI Z<|lbB Z<|lmB Z ?_
     refine AL.bool (t:=44) rfl ?_ ?_
     ·intro h6
      refine lmI Z<|lbB Z<|lkB Z<|nG ?_
      refine AW.cond rfl ?_ ?_
      ·intro h7
       have hl0:0<lJ10.length:=by have h:=h7;simp at h;omega
       refine aG 13 []<|tq 0 (rf 1 ty.F25_1 rfl)<|tq 1 (roO ty.kd23 rfl)<|tq 2 (rmI rfl)<|tq 3 (rgI rfl (by unfold i64;omega))<|tq 4 (rf 1 ty.F25_1 rfl)<|tq 5 (roO ty.kd23 rfl)<|yq 6 (rmI rfl)<|yq 7 (rgI rfl (by unfold i64;omega))<|yq 8 (rd (x:=.ptr 1 _ 0) (rd_iaddr_own (i:=lJ10.length-1) rfl ty.el23 rfl rfl rfl ?hn1 (by rw[length_rowsOf];omega)) rfl) ?_
       case hn1=>omega
       refine yq 9 (rf 0 ty.F53_0 rfl)<|yq 10 (rd (x:=vI _ _) (rd_load_arr rfl ty.kd3 rfl rfl rfl (row_map (by omega)) rfl) rfl)<|yq 11 (rd (x:=.ptr 1 _ 0) (rd_iaddr_own (i:=lJ10.length-1) rfl ty.el23 rfl rfl rfl ?hn2 (by rw[length_rowsOf];omega)) rfl) ?_
       case hn2=>omega
       refine yq 12 (rf 1 ty.F53_1 rfl)<|yl rfl (zQ 1 [.v (.int .i64 (lJ10[lJ10.length-1]).frm)] ty.co3 ty.inf3 rfl (row_map (by omega)))<|gT ?_
       refine⟨(_,_,_,_),⟨by assumption,by assumption,gmem (by assumption) (by have hz:=hwJ10 _ (List.getElem_mem (by omega:(lJ10.length-1)<lJ10.length));unfold wfEdge at *;dsimp only at *;simp_all),by rw[List.length_set];assumption⟩,trivial,⟨rfl,rfl,(Eq.trans (b:=AO.arr 53 4 ((rowsOf encEdge lJ10).set (lJ10.length-1) ((encEdge ({ lJ10[lJ10.length-1]with to:=lJ10[lJ10.length-1].frm })).map PV.v))) rfl (congrArg (AO.arr 53 4) gset)),trivial⟩,rfl,rfl⟩
      ·intro h7
       refine aK<|gT ?_
       refine⟨(_,_,_,_),⟨by assumption,by assumption,by assumption,by first|assumption|rfl⟩,trivial,⟨rfl,rfl,rfl,trivial⟩,rfl,rfl⟩
     ·intro h6
      refine lno Z<|lno Z<|lkZ Z<|nG<|aN Z<|aK<|gT ?_
      refine⟨(_,_,_,_),⟨by assumption,by assumption,by assumption,by first|assumption|rfl⟩,trivial,⟨rfl,rfl,rfl,trivial⟩,rfl,rfl⟩
    ·intro ⟨iJ12,qJ12,nJ12,lJ12⟩ hJ12
     dsimp only
     obtain⟨hcJ12,hnJ12,hwJ12,heJ12⟩:=hJ12
     simp only at hcJ12 hnJ12 hwJ12 heJ12
     refine aJ [2,3] [2002] (D:=Nat×Int×Int×List Edge) (fun d=>[]) (fun d=>[(0,curO g code d.1 d.2.1),(2003,.box 25 none [int d.2.2.1,.own 1]),(1,.arr 53 4 (rowsOf encEdge d.2.2.2))]) (fun d=>CurOk code d.1∧i64 d.2.2.1∧GraphWf ⟨0,d.2.2.2⟩∧d.2.2.2.length=es1.length) ?_ ?_
     ·refine sL<|lmI Z<|lbB Z<|lmB Z ?_
      refine AL.bool (t:=63) rfl ?_ ?_
      ·intro h8
       refine lmI Z<|lbB Z<|lkB Z<|nG ?_
       refine AW.cond rfl ?_ ?_
       ·intro h9
        have hl0:0<lJ12.length:=by have h:=h9;simp at h;omega
        refine aG 8 [0]<|tq 0 (rf 1 ty.F25_1 rfl)<|tq 1 (roO ty.kd23 rfl)<|tq 2 (rmI rfl)<|tq 3 (rgI rfl (by unfold i64;omega))<|yq 4 (rmP rfl) ?_
        refine AG.stx (i:=5) rfl (by kernel_rfl) (St.callX [(0,0)] [] [0] rfl (by intro s hs;cases hs;decide) rfl Try.func29 rfl rfl (l01Raw_e g code _ _ hcJ12) ⟨rfl,rfl,rfl⟩ (⟨⟨0,rfl,rfl⟩,trivial⟩) (pins_cur) rfl) (exK (l:=[0]) rfl rfl) rfl ?_
        rintro _ _ ⟨xz9,oz9,hz9,rfl,rfl⟩
        obtain⟨i9,q9,hc9,⟨n9,hn9,rfl⟩,rfl⟩:=hz9
        refine yq 6 (rd (x:=.ptr 1 _ 0) (rd_iaddr_own (i:=lJ12.length-1) rfl ty.el23 rfl rfl rfl ?hn3 (by rw[length_rowsOf];omega)) rfl) ?_
        case hn3=>omega
        refine yq 7 (rf 0 ty.F53_0 rfl)<|yl rfl (zQ 1 [.v (.int .i64 n9)] ty.co3 ty.inf3 rfl (row_map (by omega)))<|gT ?_
        refine⟨(_,_,_,_),⟨by assumption,by assumption,gmem (by assumption) (by have hz:=hwJ12 _ (List.getElem_mem (by omega:(lJ12.length-1)<lJ12.length));unfold wfEdge at *;dsimp only at *;simp_all),by rw[List.length_set];assumption⟩,trivial,⟨rfl,rfl,(Eq.trans (b:=AO.arr 53 4 ((rowsOf encEdge lJ12).set (lJ12.length-1) ((encEdge ({ lJ12[lJ12.length-1]with frm:=n9 })).map PV.v))) rfl (congrArg (AO.arr 53 4) gset)),trivial⟩,rfl,rfl⟩
       ·intro h9
        refine aK<|gT ?_
        refine⟨(_,_,_,_),⟨by assumption,by assumption,by assumption,by first|assumption|rfl⟩,trivial,⟨rfl,rfl,rfl,trivial⟩,rfl,rfl⟩
      ·intro h8
       refine lno Z<|lno Z<|lkZ Z<|nG<|aN Z<|aK<|gT ?_
       refine⟨(_,_,_,_),⟨by assumption,by assumption,by assumption,by first|assumption|rfl⟩,trivial,⟨rfl,rfl,rfl,trivial⟩,rfl,rfl⟩
     ·intro ⟨iJ14,qJ14,nJ14,lJ14⟩ hJ14
      dsimp only
      obtain⟨hcJ14,hnJ14,hwJ14,heJ14⟩:=hJ14
      simp only at hcJ14 hnJ14 hwJ14 heJ14
      refine sL<|loX (.agg [vI _ _,.own _]) ty.kd25 Z<|lst (zB 2002 ty.co25 ty.inf25 Z) Z<|nG<|aR ?_
      refine end_xret ((.agg [int _,.own 1])) [(0,curO g code _ _),(1,.arr 53 4 (rowsOf encEdge lJ14))] ?_ rfl ⟨rfl,rfl,trivial⟩
      exact⟨_,_,_,hcJ14,⟨_,lJ14,hnJ14,hwJ14,by omega,rfl,rfl⟩,rfl⟩
def PushL(gr:Graph)(u:Value)(f:List Int):AV→List (Nat×AO)→Prop:=fun x ob=>∃b l,x=.tup [.own 5,boo b]∧ob=[(5,.arr 3 1 (rowsOf encInt l)),(7,.arr ⟨3,some u⟩ 1 (rowsOf encInt f))]∧IntsWf l∧(b=true→flowOk gr l=true)
theorem spush_l(gr:Graph)(f r:List Int)(u:Value)(hw:GraphWf gr)(hf:IntsWf f)(hr:IntsWf r)(hn:r.length≤1048576):GX Try.prog 26 [graphV gr,.own 7,intsV r] (obF u f) (PushL gr u f):=
 (GX.lent (args':=[graphV gr,.own 7,intsV r]) (ob0:=obF u f) (spush_e gr f r hw hf hr hn) rfl (by intro p hp;simp[obF]at hp;subst hp;rfl) (by
   rintro x ob1 ⟨b,l,rfl,rfl,h1,h2⟩
   refine⟨rfl,by intro id hid;simp[ownN,ownNL]at hid;subst hid;rfl,by intro p hp;simp at hp;subst hp;exact flat_rowsOf,by intro p hp;simp[obF]at hp;subst hp;rfl⟩)).mono (by
   rintro x ob ⟨ob1,⟨b,l,rfl,rfl,h1,h2⟩,rfl⟩
   exact⟨b,l,rfl,rfl,h1,h2⟩)
theorem pins_pl{gr:Graph}{u:Value}{f:List Int}:∀x ob1,PushL gr u f x ob1→pins (obF u f) ob1 [7]:=fun x ob1 ⟨_,_,_,e,_⟩=>by
 subst e
 exact⟨stays.arr rfl,trivial⟩
def DrF:AV→List (Nat×AO)→Prop:=fun x ob2=>∃l,IntsWf l∧l.length≤60∧x=.own 5∧ob2=[(5,.arr 3 1 (rowsOf encInt l))]
theorem l08Flow_e(g:Value)(code:List Int)(i:Nat)(h:Int)(hc:CurOk code i)(x:Graph)(hw:GraphWf x)(hx:x.edges.length≤60):GX Try.prog 27 [.ptr 0 0 0,graphV x] [(0,curO g code i h)] (DrY g code DrF):=by
 refine GX.intro (rs:=[.tmp 4]) Try.func27 rfl Try.ntmps27 (Nat.le_of_ble_eq_true rfl) ⟨rfl,trivial⟩ ?_
 intro L O w0
 refine sL<|lst (zX 2003 rfl) Z<|laV Z<|nA<|lf 1 ty.F25_1 Z<|loL ty.kd23 Z<|lnI ty.sl23 Z<|lst (St.make 5 (m:=x.edges.length) rfl rfl (by decide) ty.el26 ty.ze3 rfl rfl rfl ?hn1 ?hn2 (Nat.le_trans (Nat.mul_le_mul_right _ ty.by3) (by omega)) (by simp[maxLen];omega)) rfl ?_
 case hn1=>simp[length_rowsOf]
 case hn2=>simp[length_rowsOf]
 refine laO Z<|nA<|lf 0 ty.F25_0 Z<|loI ty.kd3 Z<|lq (rd (x:=.agg [vI _ _,vV _]) (rd_build Z ty.sa25 Z Z Z) Z)<|lst (zA 2006 ty.ze25 Z) Z<|lst (zB 2006 ty.co25 ty.inf25 Z) Z<|nG<|aS<|sL<|lf 1 ty.F25_1 Z<|loL ty.kd23 Z<|lnI ty.sl23 Z<|lmI Z<|nG<|aB ?_
 refine AW.adoptB 6 2006 1 53 4 rfl (by decide) rfl ?_
 refine aW [0,4,5,6,22,23] [5,2003] (D:=Nat×Int×Nat×List Edge) (fun d=>[(24,int (d.2.2.1:Int))]) (fun d=>[(0,curO g code d.1 d.2.1),(2006,.box 25 none [int x.n,.own 6]),(6,.arr 53 4 (rowsOf encEdge d.2.2.2))]) (fun d=>CurOk code d.1∧GraphWf ⟨0,d.2.2.2⟩∧d.2.2.2.length=d.2.2.1∧d.2.2.1≤x.edges.length) (fun d=>x.edges.length-d.2.2.1) ((_,_,0,[])) (⟨hc,(by intro e he;cases he),rfl,Nat.zero_le _⟩) ⟨rfl,trivial⟩ ⟨rfl,rfl,rfl,trivial⟩ ?_
 intro ⟨iL,qL,k,es⟩ hI
 obtain⟨hcL,hwL,hkL,hkx⟩:=hI
 simp only at hcL hwL hkL hkx
 dsimp only
 refine sL<|lbB Z<|nG<|aS ?_
 refine AW.cond rfl ?_ ?_
 ·intro h1
  refine aK<|gT<|aS<|aB<|aS ?_
  have hk:k<x.edges.length:=by have h:=h1;rw[length_rowsOf]at h;simp only[decide_eq_true_eq]at h;omega
  refine aL<|li k ty.el23 Z (row_map hk)<|lrX (.agg [vI _ _,vI _ _,vI _ _,vI _ _]) ty.kd53 Z<|lst (zA 2008 ty.ze53 Z) Z<|lT [0,4,5,6,8,22,23,24,27] [0,5,6,2003,2006,2008] ?_
  refine lst (zB 2008 ty.co53 ty.inf53 Z) Z<|nA<|lmP Z ?_
  refine lX [(0,0)] [] [0] Try.func28 (l01Below_e g code _ _ _ hcL) (⟨⟨0,rfl,rfl⟩,trivial⟩) (pins_cur) Z ?_
  intro xz1 oz1 hz1
  obtain⟨i1,q1,hc1,⟨n1,⟨na1,nb1⟩,rfl⟩,rfl⟩:=hz1
  refine lgI Z<|lf 3 ty.F53_3 Z<|lst (zB 2008 ty.co3 ty.inf3 rfl) Z<|nG<|aL<|lf 1 ty.F25_1 Z<|loO ty.kd23 Z<|loX (.agg [vI _ _,vI _ _,vI _ _,vI _ _]) ty.kd53 Z<|lst (zS 2035 (rowsOf encEdge [{ x.edges[k]with cost:=n1-10 }]) ty.el23 ty.ze53 rfl) Z<|lst (zP 6 ty.el23 ty.ze53 ty.by53 rfl (Src.own rfl rfl) (by simp[rowsOf];omega)) Z<|lf 1 ty.F25_1 Z<|lst (zB 2006 ty.co23 ty.inf23 rfl) Z<|lN<|gB<|gT<|aL<|lgI Z<|lmI Z<|nG ?_
  refine⟨(_,_,k+1,es++[{ x.edges[k]with cost:=n1-10 }]),⟨by assumption,gsnoc hwL (by have hz:=hw _ (List.getElem_mem hk);unfold wfEdge at *;dsimp only at *;refine⟨hz.1,hz.2.1,hz.2.2.1,?_⟩;unfold i64;omega),by dsimp only;simp;omega,hk⟩,by show x.edges.length-(k+1)<x.edges.length-k;omega,⟨(Eq.trans (b:=int _) rfl (congrArg int (by dsimp only;omega))),trivial⟩,⟨rfl,rfl,(congrArg (AO.arr 53 4) (gapp encEdge _ [_]).symm),trivial⟩,rfl,rfl⟩
 ·intro h1
  refine aE<|eT<|eT<|eB<|gT<|aS<|sL ?_
  refine AL.freeze 6 rfl ?_
  refine lmP rfl ?_
  refine lX [(0,0)] [] [0] Try.func28 (l01Below_e g code _ _ _ hcL) (⟨⟨0,rfl,rfl⟩,trivial⟩) (pins_cur) Z ?_
  intro xz2 oz2 hz2
  obtain⟨i2,q2,hc2,⟨n2,⟨na2,nb2⟩,rfl⟩,rfl⟩:=hz2
  refine lT [4,5,6,40] [0,5,2003,2006] ?_
  refine laI Z<|nG<|aB ?_
  obtain⟨kk,hkk⟩:=Int.eq_ofNat_of_zero_le na2
  refine aW [4,6] [2003,2006] (D:=Nat×Int×Nat×List Int) (fun d=>[(9,int (d.2.2.1:Int)),(5,.own 5)]) (fun d=>[(0,curO g code d.1 d.2.1),(5,.arr 3 1 (rowsOf encInt d.2.2.2))]) (fun d=>CurOk code d.1∧IntsWf d.2.2.2∧d.2.2.2.length≤60∧(d.2.2.1:Int)≤4) (fun d=>d.2.2.1) ((_,_,kk,List.replicate x.edges.length 0)) (⟨by assumption,IntsWf.rep _,by rw[List.length_replicate];omega,by dsimp only;omega⟩) ⟨(congrArg int hkk),rfl,trivial⟩ ⟨rfl,(congrArg (AO.arr 3 1) (by unfold rowsOf;rw[List.map_replicate];rfl)),trivial⟩ ?_
  intro ⟨iM,qM,m,f⟩ hI
  obtain⟨hcM,hwM,hlM,hmM⟩:=hI
  simp only at hcM hwM hlM hmM
  dsimp only
  refine aS<|sL<|lmI Z<|lbB Z<|nG ?_
  refine AW.cond rfl ?_ ?_
  ·intro h2
   refine aK<|gT<|aS<|aB<|aS ?_
   have hm1:1≤m:=by have h:=h2;simp only[decide_eq_true_eq]at h;omega
   refine AW.pinA 5 rfl ?_
   intro u
   refine aL<|loX (.agg [vI _ _,vL _ _ _]) ty.kd25 Z<|lmO Z ?_
   refine lst (zC [(7,5)] [] [7] Try.func7 (sring_l ⟨x.n,es⟩ f u (show GraphWf ⟨x.n,es⟩from hwL) hwM) (⟨stays.arr rfl,trivial⟩) rfl rfl) Z<|lmX (.tup [vL _ _ _,vB _]) Z<|lxL Z<|lxB Z<|laL Z<|laB Z<|nG<|aS<|sL<|lmB Z<|luB Z<|nG ?_
   refine AW.cond rfl ?_ ?_
   ·intro h3
    refine aE<|eT<|eO<|eT<|eT<|eB<|gT<|aS ?_
    refine AW.unpin 5 rfl ?_
    refine aL<|lmO Z<|laO Z<|nG<|aR ?_
    refine end_xret ((.own 5)) [(0,curO g code _ _),(5,.arr 3 1 (rowsOf encInt f))] ?_ rfl ⟨rfl,rfl,trivial⟩
    exact⟨_,_,_,hcM,⟨f,hwM,hlM,rfl,rfl⟩,rfl⟩
   ·intro h3
    refine aK<|gA<|loX (.agg [vI _ _,vL _ _ _]) ty.kd25 Z<|lmO Z<|lmL Z ?_
    refine lX [(5,60),(7,5)] [60] [7] Try.func26 (spush_l ⟨x.n,es⟩ f _ u (show GraphWf ⟨x.n,es⟩from hwL) hwM ring_wf (by have:=ringL_len ⟨x.n,es⟩ f;omega)) (⟨⟨5,rfl,rfl⟩,trivial⟩) (pins_pl) Z ?_
    intro xz3 oz3 hz3
    obtain⟨b3,l3,rfl,rfl,hwl3,hbl3⟩:=hz3
    refine lT [4,5,6,9,57] [0,5,60,2003,2006] ?_
    refine lmX (.tup [.own _,vB _]) Z<|lxO Z<|lxB Z<|laO Z<|laB Z<|nA<|lmB Z<|nG ?_
    refine AW.cond rfl ?_ ?_
    ·intro h4
     refine aL<|lmO Z<|laO Z<|lN<|gB<|gT ?_
     refine AW.swap 60 5 ?_
     refine aL<|lmI Z<|lgI Z<|laI Z<|nG ?_
     refine⟨(_,_,m-1,l3),⟨hcM,hwl3,by have:=flowOk_parts (hbl3 (by assumption));dsimp only at *;omega,by dsimp only;omega⟩,by dsimp only;omega,⟨(Eq.trans (b:=int _) rfl (congrArg int (by dsimp only;omega))),rfl,trivial⟩,⟨rfl,rfl,trivial⟩,rfl,rfl⟩
    ·intro h4
     refine aK<|gB<|gT ?_
     refine AW.unpin 5 rfl ?_
     refine aL<|lmI Z<|lgI Z<|laI Z<|nG ?_
     refine⟨(_,_,m-1,f),⟨hcM,hwM,hlM,by dsimp only;omega⟩,by dsimp only;omega,⟨(Eq.trans (b:=int _) rfl (congrArg int (by dsimp only;omega))),rfl,trivial⟩,⟨rfl,rfl,trivial⟩,rfl,rfl⟩
  ·intro h2
   refine aE<|eT<|eT<|eB<|gT<|aS ?_
   refine AW.unpin 5 rfl ?_
   refine aL<|lmO Z<|laO Z<|nG<|aR ?_
   refine end_xret ((.own 5)) [(0,curO g code _ _),(5,.arr 3 1 (rowsOf encInt f))] ?_ rfl ⟨rfl,rfl,trivial⟩
   exact⟨_,_,_,hcM,⟨f,hwM,hlM,rfl,rfl⟩,rfl⟩
theorem drawCheapest_e(code:List Int)(hm:code.length≤1048576):GX Try.prog 11 [.p (.lst 5 1 (rowsOf encU8 code))] [] (DrG):=by
 refine GX.intro (rs:=[.cell 2 25 (some 2)]) Try.func11 rfl Try.ntmps11 (Nat.le_of_ble_eq_true rfl) ⟨rfl,rfl,ty.kd25,trivial⟩ ?_
 intro L O w0
 refine sL<|lst (zA 2002 ty.ze25 Z) Z<|nA<|lmL Z ?_
 refine lX [(31,0)] [0] [] Try.func16 (l01New_e code hm) (trivial) (fun _ _ _=>trivial) Z ?_
 intro xz1 oz1 hz1
 obtain⟨q1,rfl,rfl⟩:=hz1
 refine laP Z<|nA ?_
 refine AL.pinB 0 rfl ?_
 intro g
 have hc:CurOk code 0:=⟨Nat.zero_le _,hm⟩
 refine lmP rfl ?_
 refine lX [(0,0),(1,1)] [1] [0] Try.func24 (l08Any_e g code _ _ hc) (⟨⟨0,rfl,rfl⟩,trivial⟩) (pins_curY) Z ?_
 intro xz2 oz2 hz2
 obtain⟨i2,q2,_,hc2,⟨nn1,es1,hn1,hw1,hl1,rfl,rfl⟩,rfl⟩:=hz2
 refine lst (zA 2004 ty.ze25 Z) Z<|lst (zB 2004 ty.co25 ty.inf25 Z) Z<|nA<|loX (.agg [vI _ _,.own _]) ty.kd25 Z<|lst (zB 2002 ty.co25 ty.inf25 Z) Z<|nG<|aR ?_
 refine end_xret ((.agg [int nn1,.own 1])) [(1,.arr 53 4 (rowsOf encEdge es1))] ?_ rfl ⟨rfl,trivial⟩
 exact⟨nn1,es1,hn1,hw1,hl1,rfl,rfl⟩
theorem makeFlow_e(code:List Int)(hm:code.length≤1048576):GX Try.prog 14 [.p (.lst 5 1 (rowsOf encU8 code))] [] (DrF):=by
 refine GX.intro (rs:=[.tmp 2]) Try.func14 rfl Try.ntmps14 (Nat.le_of_ble_eq_true rfl) ⟨rfl,trivial⟩ ?_
 intro L O w0
 refine sL<|laV Z<|nA<|lmL Z ?_
 refine lX [(31,0)] [0] [] Try.func16 (l01New_e code hm) (trivial) (fun _ _ _=>trivial) Z ?_
 intro xz1 oz1 hz1
 obtain⟨q1,rfl,rfl⟩:=hz1
 refine laP Z<|nA ?_
 refine AL.pinB 0 rfl ?_
 intro g
 have hc:CurOk code 0:=⟨Nat.zero_le _,hm⟩
 refine lmP rfl ?_
 refine lX [(0,0),(1,1)] [1] [0] Try.func24 (l08Any_e g code _ _ hc) (⟨⟨0,rfl,rfl⟩,trivial⟩) (pins_curY) Z ?_
 intro xz2 oz2 hz2
 obtain⟨i2,q2,_,hc2,⟨nn1,es1,hn1,hw1,hl1,rfl,rfl⟩,rfl⟩:=hz2
 refine lst (zA 2004 ty.ze25 Z) Z<|lst (zB 2004 ty.co25 ty.inf25 Z) Z<|nG<|aS<|sL ?_
 refine AL.freeze 1 rfl ?_
 refine loX (.agg [vI _ _,vL _ _ _]) ty.kd25 rfl ?_
 refine lst (zC [] [] [] Try.func25 (sgraphOk_e ⟨nn1,es1⟩ hw1) (trivial) rfl rfl) Z<|luB Z<|nG ?_
 refine AW.cond rfl ?_ ?_
 ·intro h1
  refine sL<|laV Z<|nG ?_
  refine AW.adoptT 5 2 3 1 rfl ?_
  refine aR<|rT ?_
  refine end_xret ((.own 5)) [(5,.arr 3 1 (rowsOf encInt []))] ?_ rfl ⟨rfl,trivial⟩
  exact⟨[],(by intro x hx;cases hx),by simp,rfl,rfl⟩
 ·intro h1
  refine aK<|gA<|lmP Z<|loX (.agg [vI _ _,vL _ _ _]) ty.kd25 Z ?_
  refine lX [(0,0),(5,5)] [5] [0] Try.func27 (l08Flow_e g code _ _ hc2 ⟨nn1,es1⟩ hw1 (by dsimp only;omega)) (⟨⟨0,rfl,rfl⟩,trivial⟩) (pins_curY) Z ?_
  intro xz3 oz3 hz3
  obtain⟨i3,q3,_,hc3,⟨fl1,hwf1,hlf1,rfl,rfl⟩,rfl⟩:=hz3
  refine lT [2,14] [0,5,2004] ?_
  refine laO Z<|nG<|aR ?_
  refine end_xret ((.own 5)) [(5,.arr 3 1 (rowsOf encInt fl1))] ?_ rfl ⟨rfl,trivial⟩
  exact⟨fl1,hwf1,hlf1,rfl,rfl⟩

def fill{α:Type}(rows:List α)(z:α)(k:Nat):List α:=rows.take k++List.replicate (rows.length-k) z
section
variable {P:Program}{o:Oper}{τ:Nat→AV}{H:Nat→AO}{X:Nat→Bool}
theorem rd_neB{T yT:TypeId}{x y:Operand}{a b:Bool}(ho:o.op=.binOp .neq T x y yT)(hx:ev τ x=boo a)(hy:ev τ y=boo b)(ht:P.underlying T=some .bool):Rd P o τ H X (boo (!(a==b))):=by
 have he:∀W,(Op.equal T (.bool a) (.bool b)).run P W=.ok (a==b) W:=fun W=>run_equalIn_bool' W (Op.maxDepth-1) T a b ht
 apply rd_eqv ho (by rw[hx];rfl) (by rw[hy];rfl)
 intro W
 simp[eqGuard,binOp,he]
end

theorem cost_flow{x:Graph}{f:List Int}(h:flowOk x f=true):cost x f=costSum (x.edges.zip f):=if_pos h
theorem flow_y{x:Graph}{f:List Int}(hw:GraphWf x)(h:flowOk x f=true):GC Try.prog 9 [graphV x,intsV f] [] (boo true) []:=by
 have q:=flowOk_e x f hw (flow_wf h)
 rwa [h]at q
theorem stepSum_zero{n:Nat}:∀(l:List (Edge×Int)),(∀p∈l,p.2=0)→l.foldl stepSum (List.replicate n 0)=List.replicate n 0
 |[],_=>rfl
 |p::l,h=>by
  have h0:p.2=0:=h p (by simp)
  have e:stepSum (List.replicate n 0) p=List.replicate n 0:=by
   unfold stepSum
   have hg:∀j,(List.replicate n (0:Int)).getD j 0=0:=fun j=>by
    rw[List.getD_eq_getElem?_getD,List.getElem?_replicate];split<;>rfl
   have hs:∀j,(List.replicate n (0:Int)).set j 0=List.replicate n 0:=fun j=>by
    apply List.ext_getElem
    ·simp
    ·intro i h1 h2
     rw[List.getElem_set];split<;>simp
   dsimp only
   rw[hg,h0,Int.sub_zero,hs,hg,Int.zero_add,hs]
  rw[List.foldl_cons,e]
  exact stepSum_zero l (fun q hq=>h q (by simp[hq]))
theorem zero_flow{x:Graph}(h:graphOk x=true):flowOk x (List.replicate x.edges.length 0)=true:=by
 have hz:∀p∈x.edges.zip (List.replicate x.edges.length (0:Int)),p.1∈x.edges∧p.2=0:=fun p hp=>by
  have:=List.of_mem_zip hp
  exact⟨this.1,(List.mem_replicate.1 this.2).2⟩
 unfold flowOk
 simp only[Bool.and_eq_true,decide_eq_true_eq]
 refine⟨⟨⟨h,by simp⟩,?_⟩,?_⟩
 ·rw[List.all_eq_true]
  intro p hp
  obtain⟨h1,h2⟩:=hz p hp
  unfold graphOk at h
  simp only[Bool.and_eq_true,decide_eq_true_eq]at h
  have:=edgeOk_iff.1 (List.all_eq_true.1 h.2 _ h1)
  unfold flowIn
  rw[h2]
  exact inB_true.2 ⟨by omega,by omega⟩
 ·rw[List.all_eq_true]
  intro v hv
  unfold sumsOf at hv
  rw[stepSum_zero _ (fun p hp=>(hz p hp).2)]at hv
  rw[(List.mem_replicate.1 hv).2];rfl
theorem cheap_all{x:Graph}(h:cheapOk x=true):flowOk x (cheapL x)=true∧ringOk x (cheapL x)=false∧cost x (cheapL x)≤0∧∀o,flowOk x o=true→cost x (cheapL x)≤cost x o:=by
 have hg:graphOk x=true:=by unfold cheapOk at h;simp only[Bool.and_eq_true]at h;exact h.1
 obtain⟨h1,h2,h3⟩:=cheapL_best h (zero_flow hg)
 refine⟨h1,h2,by rw[cost_flow h1];exact h3,fun o ho=>?_⟩
 rw[cost_flow h1,cost_flow ho]
 exact least_cost h1 ho h2
theorem ring_n{x:Graph}{f:List Int}(hw:GraphWf x)(hf:IntsWf f)(h:ringOk x f=false):GC Try.prog 6 [graphV x,intsV f] [] (.tup [intsV (ringL x f),boo false]) []:=by
 have q:=ring_e x f hw hf
 rwa [h]at q
theorem fnCheapest_e(code:List Int):GC Try.prog 4 [.p (.lst 5 1 (rowsOf encU8 code))] [] (boo true) []:=by
 refine gi 2 Try.func4 rfl Try.ntmps4 rfl ?_
 intro L O w0
 refine sL<|laZ Z<|nG<|aS<|sL<|lmL Z<|lnI ty.sl22 Z<|lbB Z<|nG ?_
 refine AW.cond rfl ?_ ?_
 ·intro h1
  refine sL<|laT Z<|nG<|aR<|rT ?_
  refine eBo trivial ?_
  rfl
 ·intro h1
  refine aK<|gA ?_
  have hm:code.length≤1048576:=by have h:=h1;simp[length_rowsOf]at h;omega
  refine lmL rfl ?_
  refine lX [(1,1)] [1] [] Try.func11 (drawCheapest_e code hm) (trivial) (fun _ _ _=>trivial) Z ?_
  intro xz1 oz1 hz1
  obtain⟨nn1,es1,hn1,hw1,hl1,rfl,rfl⟩:=hz1
  refine lst (zA 2003 ty.ze25 Z) Z<|lst (zB 2003 ty.co25 ty.inf25 Z) Z<|nA ?_
  refine AL.freeze 1 rfl ?_
  refine loX (.agg [vI _ _,vL _ _ _]) ty.kd25 rfl ?_
  refine lst (zC [] [] [] Try.func12 (cheap_e ⟨nn1,es1⟩ hw1) (trivial) rfl rfl) Z<|lmX (.tup [vL _ _ _,vB _]) Z<|lxL Z<|lxB Z<|laL Z<|laB Z<|nA<|loX (.agg [vI _ _,vL _ _ _]) ty.kd25 rfl ?_
  refine lst (zC [] [] [] Try.func13 (scheap_e ⟨nn1,es1⟩ hw1) (trivial) rfl rfl) Z<|lT [0,2,3,4,5,23] [2003] ?_
  refine lmX (.tup [vL _ _ _,vB _]) Z<|lxL Z<|lxB Z<|laL Z<|laB Z<|nG<|aS<|sL<|lmB Z<|lmB Z<|lq (rd (x:=vB _) (rd_neB Z Z Z Try.underlying4) Z)<|nG ?_
  refine AW.cond rfl ?_ ?_
  ·intro h2
   refine sL<|laZ Z<|nG<|aR<|rT ?_
   refine eBo trivial ?_
   exfalso
   simp at h2
  ·intro h2
   refine aK<|gT<|aS<|sL<|lmB Z<|luB Z<|nG ?_
   refine AW.cond rfl ?_ ?_
   ·intro h3
    refine sL<|lmL Z<|lnI ty.sl26 Z<|lbB Z<|laB Z<|nG<|aR<|rT ?_
    refine eBo trivial ?_
    have hz:cheapL ⟨nn1,es1⟩=[]:=if_neg (by simpa using h3)
    rw[hz];rfl
   ·intro h3
    refine aK<|gA ?_
    have hok:cheapOk ⟨nn1,es1⟩=true:=by simpa using h3
    obtain⟨hf1,hf2,hf3,hf4⟩:=cheap_all hok
    refine loX (.agg [vI _ _,vL _ _ _]) ty.kd25 Z<|lmL Z ?_
    refine lst (zC [] [] [] Try.func6 (ring_n (x:=⟨nn1,es1⟩) hw1 (flow_wf hf1) hf2) (trivial) rfl rfl) Z<|lT [0,2,3,4,37] [2003] ?_
    refine lmX (.tup [vL _ _ _,vB false]) Z<|lxL Z<|lxX (vB false) Z<|laL Z<|laZ Z<|nA<|lmL Z ?_
    refine lX [(5,5)] [5] [] Try.func14 (makeFlow_e code hm) (trivial) (fun _ _ _=>trivial) Z ?_
    intro xz2 oz2 hz2
    obtain⟨fo,hwo,hlo,rfl,rfl⟩:=hz2
    refine laO Z<|nG<|aS<|aF [] ?_
    refine AF.freeze 5 rfl ?_
    refine sq 0 (roX (.agg [vI _ _,vL _ _ _]) ty.kd25 Z)<|vq 1 (rmL Z) ?_
    refine vst 2 rfl (zC [] [] [] Try.func9 (flow_y (x:=⟨nn1,es1⟩) hw1 hf1) (trivial) rfl rfl) (.inr rfl)<|vq 3 (rmT rfl)<|vq 4 (rmZ rfl)<|vq 5 (ruT rfl)<|vq 6 (rkT rfl)<|vq 7 (rmT rfl)<|sq 8 (roX (.agg [vI _ _,vL _ _ _]) ty.kd25 rfl)<|vq 9 (rmL rfl) ?_
    refine vst 10 rfl (zC [] [] [] Try.func10 (cost_e ⟨nn1,es1⟩ (cheapL ⟨nn1,es1⟩) hw1 (flow_wf hf1)) (trivial) rfl rfl) (.inr rfl)<|fT [2,3,4,10,49,52] [2003] ?_
    refine vq 11 (rbB Z)<|fsB 53 true Z (decide_eq_true hf3)<|vq 12 (rkT Z)<|vq 13 (rmT Z)<|sq 14 (roX (.agg [vI _ _,vL _ _ _]) ty.kd25 Z)<|vq 15 (rmL Z) ?_
    refine vst 16 rfl (zC [] [] [] Try.func15 (sflowOk_e ⟨nn1,es1⟩ fo hw1 hwo) (trivial) rfl rfl) (.inr rfl)<|vq 17 (ruB rfl)<|vq 18 (rmB rfl) ?_
    refine AF.bool (t:=60) rfl ?_ ?_
    ·intro h4
     refine pno 19 Z<|pno 20 Z<|pno 21 Z<|pno 22 Z<|vno 23 Z<|vno 24 Z<|vno 25 Z<|vq 26 (rkT Z)<|vq 27 (rkT Z)<|vq 28 (raT Z)<|fD<|gT<|aR ?_
     refine eBo trivial ?_
     rfl
    ·intro h4
     refine sq 19 (roX (.agg [vI _ _,vL _ _ _]) ty.kd25 Z)<|pq 20 (qmL Z)<|sq 22 (roX (.agg [vI _ _,vL _ _ _]) ty.kd25 Z)<|pq 23 (qmL Z) ?_
     refine vst 21 rfl (zC [] [] [] Try.func10 (cost_e ⟨nn1,es1⟩ (cheapL ⟨nn1,es1⟩) hw1 (flow_wf hf1)) (trivial) rfl rfl) (.inr rfl)<|fT [2,55,60,63,64,65] [2003] ?_
     refine vst 24 rfl (zC [] [] [] Try.func10 (cost_e ⟨nn1,es1⟩ fo hw1 hwo) (trivial) rfl rfl) (.inr rfl)<|vq 25 (rbB rfl)<|vq 26 (rkB rfl)<|vq 27 (rkB rfl)<|vq 28 (raB rfl)<|fD<|gT<|aR ?_
     refine eBo trivial ?_
     exact decide_eq_true (hf4 fo (by simpa using h4))

theorem FnCheapest_walk(l:List Int)(a:Option Addr)(c:Nat)(w:World)(h0:SlR 1 repByte w 0 w.heap.size (.slice a l.length c) l) :
 Calls Try.prog 4 #[.slice a l.length c] w fun r w'=>r=.returned (.bool true)∧Grow w w':=
 GC.calls (cs:=[_]) rfl (fnCheapest_e l) (by
  simp only[RVL]
  exact⟨_,_,rfl,RV.of_slr (enc:=encU8) h0 (fun _ _ h=>h.1) (fun _=>rfl) (by intro c u hu;simp[encU8]at hu;subst hu;rfl) (Nat.le_refl _) (fun _ _ _=>no_live),rfl⟩)
end Go.Proofs.Ytlgamhhfgaeaoaa

namespace Go.Proofs.Ytlgamhhfgaeaoaa.fnCheapest
open Go.ChangeShapes Go.WideShapes Go.ChangeAt Go.RowKit Go.Proofs.Ytlgamhhfgaeaoaa
set_option maxHeartbeats 16000000
set_option maxRecDepth 100000
set_option linter.unusedVariables false
theorem own:ownKnob Try.prog.godebug=none:=by kernel_rfl
theorem laid:laidOutB Try.prog=true:=by kernel_rfl
theorem readable:∀t∈[22],Try.prog.readableRec t=true∧t<Try.prog.types.size:=by
 intro t ht
 simp only[List.mem_cons,List.not_mem_nil,or_false]at ht
 rcases ht with rfl
 all_goals exact⟨by kernel_rfl,of_decide_eq_true (by kernel_rfl)⟩
theorem lifted(os:Os)(started:os.Started)(H:Type)(enc:TypeId×Value→H) :
 ReturnsInHanded {} Try.checked os 4 .any (Rows.fnCheapestSpec.pre6 enc Try.prog Try.f4 Rows.fnCheapestRow.domain false) (Rows.fnCheapestSpec.post enc Try.prog Try.f4 false true false false):=by
 refine returnsInHanded_of_change (C:=Try.checked) own started (by kernel_rfl) Try.func4
  (ChangeSpec.witness6 (enc:=enc) (C:=Try.checked) false ⟨#[],#[.slice none 0 0],[]⟩ 8 (by kernel_rfl) (by kernel_rfl) (by kernel_rfl) (by kernel_rfl)) ?_
 intro W base args ds gs before hval0 hW hcnd _
 have hval:∀(j:Nat) t v,Try.f4.params[j]? = some t→args[j]? = some v→Value.okWide Try.prog W .any base t v:=hval0
 have hW':=hW
 obtain⟨p,q,hA0,hV,rfl,hfz,hnd⟩:=hW
 have hA:DataW.TrodAll enc Try.prog W 0 (fun _=>true) true Try.f4.params.toList args.toList ds p:=hA0
 rw[Try.params4]at hA hval
 have hB:=hA
 obtain⟨v0,vs0,d0,ds0,p0,q0,hargs,rfl,rfl,h0,r0⟩:=trodAll_cons hA
 obtain⟨rfl,rfl,rfl⟩:=trodAll_nil r0
 obtain rfl:args=#[v0]:=by cases args;simp_all
 obtain⟨rfl,rfl⟩:=trodVars_none hV
 obtain⟨a0,l0,c0,rfl⟩:=okWide_slice Try.underlying22 (hval 0 22 v0 rfl rfl)
 obtain⟨fu0,t0⟩:=h0
 obtain⟨x0,s0⟩:=SlR.of_trod (rep:=repByte) Try.underlying22 cellsByte (by decide) (fun _ _ _ h=>trodByte h) t0
 obtain rfl:l0=x0.length:=by obtain⟨_,_,he,_⟩:=s0;injection he
 clear hA0 hval0
 simp only[List.append_nil]at hW'
 refine(FnCheapest_walk x0 a0 c0 W s0).mono fun e W' ⟨he,hg⟩=>?_
 subst he
 exact⟨_,rfl,_,_,_,_,_,[],hW',trodAll_mk1 (shut_bool Try.underlying4 true),
  trodAll_below laid hg.below (readable) hB,rfl,hg.below.frame _,fun h=>by cases h⟩
theorem over:Rows.fnCheapestRow.holds Try.pinned (OpenSpec.ofChange Rows.fnCheapestSpec):=
 OpenClaim.holds_of_wide 4 Try.f4 rfl rfl rfl rfl rfl rfl rfl ⟨rfl,rfl,rfl,rfl,rfl⟩ rfl rfl rfl rfl rfl (by kernel_rfl) Try.func4 (by kernel_rfl)
  (of_decide_eq_true (by kernel_rfl)) (by unfold Func.isWrapper;first|(rw[if_pos (by decide +kernel)];kernel_rfl)|(rw[if_neg (by decide +kernel)];exact⟨rfl,rfl⟩))
  (fun os started H enc _=>lifted os started H enc)
theorem proved:Rows.FnCheapestSaid:=
 over
#print axioms proved
end Go.Proofs.Ytlgamhhfgaeaoaa.fnCheapest

