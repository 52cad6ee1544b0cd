/- Texts of the proof of FnFnOpen, joined: E5, E6, E7, E8, E9. -/
import Derived.Test.YteblcdnhnckkaaaJFnOpen1
import Derived.Laws.Tables
import Derived.Laws.CopyRow
import Derived.Maps.AppendAt
namespace Go.Proofs.Yteblcdnhnckkaaa
open Go.RowKit
set_option linter.unusedSimpArgs false
set_option linter.unusedVariables false
def elA(P:Program)(t:TypeId):Option (TypeId×Nat):=
 match P.underlying t with
 |some (.slice e)=>if (P.underlying e).isSome=true then some (e,P.cellsOf e)else none
 |_=>none
theorem elA_spec{P:Program}{t e:TypeId}{sz:Nat}(h:elA P t=some (e,sz)):P.underlying t=some (.slice e)∧(∃d,P.underlying e=some d)∧P.cellsOf e=sz:=by
 unfold elA at h
 split at h
 ·rename_i e' q
  split at h
  ·rename_i q2
   simp only[Option.some.injEq,Prod.mk.injEq]at h
   obtain⟨rfl,rfl⟩:=h
   exact⟨q,Option.isSome_iff_exists.1 q2,rfl⟩
  ·cases h
 ·cases h
theorem RW.at{w:World}{e:TypeId}{sz i:Nat}{rows:List (List PV)}{row:List PV}{c:Value}{fp:List Nat}(h:RW w false (.lst e sz rows) c fp)(hr:rows[i]? = some row) :
 ∃b off cap cs fr,c=.slice (some ⟨b,off,none⟩) rows.length cap∧RWL w false row cs fr∧CellsAt w b (off+i*sz) cs∧b<w.heap.size∧b∈fp∧fr ⊆ fp:=by
 rw[RW]at h
 obtain⟨xs,f1,f2,h1,h2,rfl⟩:=h
 unfold SlAt at h2
 simp only[Bool.false_eq_true,if_false]at h2
 obtain⟨a,cap,rfl,_,_,h2⟩:=h2
 have hil:i<rows.length:=(List.getElem?_eq_some_iff.1 hr).1
 rcases h2 with⟨q,_⟩|⟨b,off,rfl,hc,hb,rfl⟩
 ·omega
 ·obtain⟨c1,cr,c2,g1,gr,g2,rfl,rfl,k1,k2,k3,_⟩:=RWR.row h1 hr
  exact⟨b,off,cap,cr,gr,rfl,k3,hc.mid k1,hb,by simp,fun x hx=>by simp[hx]⟩
section
variable {P:Program}{o:Oper}{τ:Nat→AV}{H:Nat→AO}{X:Nat→Bool}
theorem rd_iaddr_p{t e e':TypeId}{x y:Operand}{k:IntKind}{sz i:Nat}{n:Int}{rows:List (List PV)}{row:List PV}(ho:o.op=.indexAddr t x y)(ht:elA P t=some (e,sz))(hx:ev τ x=.p (.lst e' sz rows))(hy:ev τ y=.p (.v (.int k n)))(hn:n=(i:Int))(hrow:rows[i]? = some row):Rd P o τ H X (.rp row):=by
 subst hn
 obtain⟨q1,⟨d,q2⟩,q3⟩:=elA_spec ht
 apply Rd.pure;intro L ρ a w he _
 have h:=he x
 rw[hx,RV]at h
 obtain⟨fp,h1,h2⟩:=h
 have h3:=he y
 rw[hy]at h3
 obtain⟨b,off,cap,cs,fr,e1,k1,k2,k3,k4,k5⟩:=h1.at hrow
 have hil:i<rows.length:=(List.getElem?_eq_some_iff.1 hrow).1
 exact⟨_,by rw[RV];exact⟨b,_,cs,fr,rfl,k1,k2,k3,h2 b k4,fun b hb=>h2 b (k5 hb)⟩,iaddr_run ho q1 q2 q3 e1 h3.v_eq hil⟩
theorem rd_iaddr_own{t e:TypeId}{e':Pin}{x y:Operand}{k:IntKind}{sz i id:Nat}{n:Int}{rows:List (List PV)}(ho:o.op=.indexAddr t x y)(ht:elA P t=some (e,sz))(hx:ev τ x=.own id)(hH:H id=.arr e' sz rows)(hy:ev τ y=.p (.v (.int k n)))(hn:n=(i:Int))(hi:i<rows.length):Rd P o τ H X (.ptr id i 0):=by
 subst hn
 obtain⟨q1,⟨d,q2⟩,q3⟩:=elA_spec ht
 apply Rd.pure;intro L ρ a w he hob
 have h:=he x
 rw[hx,RV]at h
 have h0:=h.2 (by rw[hH];rfl)
 have h3:=he y
 rw[hy]at h3
 obtain⟨fp,hO⟩:=hob id
 rw[hH]at hO
 obtain⟨xs,fr,_,_,hown,_⟩:=hO
 rcases hown.2 with⟨q,q'⟩|⟨g,cap,cur,q,_⟩
 ·omega
 ·have e1:a.eval x=.slice (some ⟨g,0,none⟩) rows.length cap:=h0.trans q
  refine⟨_,?_,iaddr_run ho q1 q2 q3 e1 h3.v_eq hi⟩
  rw[RV,hH]
  exact⟨rfl,fun _=>⟨hi,g,_,cap,q,by simp[AO.sz]⟩⟩
def bnd(τ:Nat→AV)(d:Nat):Option Operand→Nat→Prop
 |none,n=>n=d
 |some y,n=>∃k,ev τ y=.p (.v (.int k (n:Int)))
theorem slc_run{t e:TypeId}{x:Operand}{lo hi:Option Operand}{sz l h n cap:Nat}{b:Option Addr}{L:Nat→Prop}{ρ:Nat→Value}{a:Act}{w:World}(he:∀y,RV L ρ H w (ev τ y) (a.eval y))(ho:o.op=.slice t x lo hi none)(ht:elA P t=some (e,sz))(hlo:bnd τ 0 lo l)(hhi:bnd τ n hi h)(hlh:l≤h)(hn:h≤n)(hc:n≤cap)
 (e1:a.eval x=.slice b n cap) (W:World):(execOp a.eval o).run P W=.ok (.value (.slice (if cap=l then b else b.map (·.add (l*sz))) (h-l) (cap-l))) W:=by
 obtain⟨q1,⟨d,q2⟩,q3⟩:=elA_spec ht
 have bh:∀(code:BoundsCode) (y:Operand) (m:Nat),bnd τ n (some y) h→h≤m→(Instr.sliceBound (a.eval y) m code).run P W=.ok h W:=fun code y m hb hm=>by
  obtain⟨k,hb⟩:=hb
  have:=he y
  rw[hb]at this
  rw[this.v_eq]
  have q:(0:Int)≤(h:Int)∧(h:Int)≤(m:Int):=⟨by omega,by omega⟩
  simp[Instr.sliceBound,asIntOf,q,hm]
 have bl:∀(code:BoundsCode) (y:Operand) (m:Nat),bnd τ 0 (some y) l→l≤m→(Instr.sliceBound (a.eval y) m code).run P W=.ok l W:=fun code y m hb hm=>by
  obtain⟨k,hb⟩:=hb
  have:=he y
  rw[hb]at this
  rw[this.v_eq]
  have q:(0:Int)≤(l:Int)∧(l:Int)≤(m:Int):=⟨by omega,by omega⟩
  simp[Instr.sliceBound,asIntOf,q,hm]
 have key:(Instr.sliceBounds true n cap (lo.map a.eval) (hi.map a.eval) none).run P W=.ok (l,h,cap) W:=by
  unfold Instr.sliceBounds
  cases hi with
  |none=>
   have hh:h=n:=hhi
   subst hh
   cases lo with
   |none=>have hl:l=0:=hlo;subst hl;simp
   |some y=>simp[bl _ y h hlo hlh]
  |some z=>
   cases lo with
   |none=>have hl:l=0:=hlo;subst hl;simp[bh _ z cap hhi (by omega)]
   |some y=>simp[bh _ z cap hhi (by omega),bl _ y h hlo hlh]
 simp[execOp,ho,Instr.sliceAt,Instr.slice,run_underlying q1,e1,key,sizeOf_run q2,q3]
theorem rd_slc_p{t e e':TypeId}{x:Operand}{lo hi:Option Operand}{sz l h:Nat}{rows:List (List PV)}(ho:o.op=.slice t x lo hi none)(ht:elA P t=some (e,sz))(hx:ev τ x=.p (.lst e' sz rows))(hlo:bnd τ 0 lo l)(hhi:bnd τ rows.length hi h)(hlh:l≤h)(hn:h≤rows.length) :
 Rd P o τ H X (.p (.lst e' sz ((rows.take h).drop l))):=by
 apply Rd.pure;intro L ρ a w he hob
 have hv:=he x
 rw[hx,RV]at hv
 obtain⟨fp,h1,h2⟩:=hv
 rw[RW]at h1
 obtain⟨xs,f1,f2,k1,k2,rfl⟩:=h1
 unfold SlAt at k2
 simp only[Bool.false_eq_true,if_false]at k2
 obtain⟨b,cap,e1,c1,c2,k2⟩:=k2
 refine⟨_,?_,slc_run he ho ht hlo hhi hlh hn c1 e1⟩
 obtain⟨g1,t1,t2⟩:=k1.take h
 obtain⟨g2,t3,t4⟩:=t1.drop l
 have hlen:((rows.take h).drop l).length=h-l:=by rw[List.length_drop,List.length_take];omega
 rw[RV]
 rcases k2 with⟨q,rfl⟩|⟨blk,off,rfl,hc,hb,rfl⟩
 ·refine⟨[]++g2,?_,fun b hb=>h2 b ?_⟩
  ·rw[RW]
   refine⟨_,[],g2,t3,?_,rfl⟩
   unfold SlAt
   simp only[Bool.false_eq_true,if_false]
   exact⟨_,_,by rw[hlen],by rw[hlen];omega,by omega,.inl ⟨by rw[hlen];omega,trivial⟩⟩
  ·simp only[List.nil_append]at hb ⊢
   exact t2 (t4 hb)
 ·by_cases hz:h-l=0
  ·refine⟨[]++g2,?_,fun b hb=>h2 b ?_⟩
   ·rw[RW]
    refine⟨_,[],g2,t3,?_,rfl⟩
    unfold SlAt
    simp only[Bool.false_eq_true,if_false]
    exact⟨_,_,by rw[hlen],by rw[hlen];omega,by omega,.inl ⟨by rw[hlen];omega,trivial⟩⟩
   ·simp only[List.nil_append]at hb
    exact List.mem_append_right _ (t2 (t4 hb))
  ·refine⟨[blk]++g2,?_,fun b hb=>h2 b ?_⟩
   ·rw[RW]
    refine⟨_,[blk],g2,t3,?_,rfl⟩
    unfold SlAt
    simp only[Bool.false_eq_true,if_false]
    refine⟨_,_,by rw[hlen],by rw[hlen];omega,by omega,.inr ⟨blk,off+l*sz,?_,?_,hb,rfl⟩⟩
    ·rw[if_neg (by omega)]
     show some ((⟨blk,off,none⟩:Addr).add (l*sz))=_
     unfold Addr.add;split<;>simp_all
    ·refine CellsAt.drop ?_ _
     intro j v hj
     rw[List.getElem?_take]at hj
     split at hj
     ·exact hc j v hj
     ·cases hj
   ·rcases List.mem_append.1 hb with q|q
    ·exact List.mem_append_left _ q
    ·exact List.mem_append_right _ (t2 (t4 q))
theorem RVL.map{L:Nat→Prop}{ρ:Nat→Value}{w:World}{a:Act}(he:∀y,RV L ρ H w (ev τ y) (a.eval y)):∀l:List Operand,RVL L ρ H w (l.map (ev τ)) (l.map a.eval)
 |[]=>by simp[RVL]
 |x::l=>by
  rw[List.map_cons,List.map_cons,RVL]
  exact⟨_,_,rfl,he x,RVL.map he l⟩
theorem rd_mkf{fn:Fn}{f cs:List Operand}(ho:o.op=.makeFunc fn f.toArray cs.toArray):Rd P o τ H X (.clo fn (f.map (ev τ)) (cs.map (ev τ))):=by
 apply Rd.pure;intro L ρ a w he _
 refine⟨.func fn (f.map a.eval).toArray (cs.map a.eval).toArray,by rw[RV];exact⟨_,_,rfl,RVL.map he f,RVL.map he cs⟩,fun W=>?_⟩
 simp[execOp,ho,Instr.makeFunc]
theorem cellsA_spec{L:Nat→Prop}{ρ:Nat→Value}{w:World}{x:AV}{c:Value}{l:List AV}(h:RV L ρ H w x c)(hl:cellsA x=some l):RVL L ρ H w l c.cells.toList∧(∀y∈l,y.cell=true):=by
 have key:x.cell=true→l=[x]→RVL L ρ H w l c.cells.toList∧(∀y∈l,y.cell=true):=fun h1 h2=>by
  subst h2
  have:=h.one h1
  have hc:c.cells=#[c]:=by cases c<;>first|rfl|cases this
  rw[hc]
  refine⟨by simp only[RVL];exact⟨c,[],rfl,h,rfl⟩,by simpa using h1⟩
 cases x with
 |agg l'=>
  simp only[cellsA]at hl
  split at hl
  ·rename_i ha
   injection hl with hl
   subst hl
   rw[RV]at h
   obtain⟨cs,rfl,h⟩:=h
   exact⟨by simpa[Value.cells]using h,by simpa using ha⟩
  ·cases hl
 |tup _=>cases hl
 |bad=>cases hl
 |p x=>exact key rfl (by unfold cellsA at hl;injection hl with hl;exact hl.symm)
 |own _=>exact key rfl (by unfold cellsA at hl;injection hl with hl;exact hl.symm)
 |sub _ _ _=>exact key rfl (by unfold cellsA at hl;injection hl with hl;exact hl.symm)
 |ptr _ _ _=>exact key rfl (by unfold cellsA at hl;injection hl with hl;exact hl.symm)
 |rp _=>exact key rfl (by unfold cellsA at hl;injection hl with hl;exact hl.symm)
 |clo _ _ _=>exact key rfl (by unfold cellsA at hl;injection hl with hl;exact hl.symm)
 |dead=>exact key rfl (by unfold cellsA at hl;injection hl with hl;exact hl.symm)
def structA(P:Program)(t:TypeId):Option (List Value×List (Nat×Nat)):=
 match P.info? t,P.underlying t with
 |some it,some (.struct fields)=>
  match it.zero,fields.toList.mapM (fun f=>(P.info? f.type).map fun i=>(f.offset,i.size))with
  |some z,some places=>some (z.cells.toList,places)
  |_,_=>none
 |_,_=>none
def bparts(place:Nat→Option (Nat×Nat))(τ:Nat→AV):List (Nat×Operand)→Option (List (Nat×Nat×AV))
 |[]=>some []
 |(i,x)::r=>match place i,bparts place τ r with
  |some (off,n),some l=>some ((off,n,ev τ x)::l)
  |_,_=>none
theorem foldl_set:∀(vs:List Value) (j off:Nat) (cells:Array Value),off+j+vs.length≤cells.size→
 ((vs.zipIdx j).foldl (fun(cs:Array Value) (p:Value×Nat)=>cs.setIfInBounds (off+p.2) p.1) cells).toList=cells.toList.take (off+j)++vs++cells.toList.drop (off+j+vs.length)
 |[],j,off,cells,h=>by simp
 |v::vs,j,off,cells,h=>by
  rw[List.zipIdx_cons,List.foldl_cons,foldl_set vs (j+1) off _ (by simp at h ⊢;omega)]
  simp only[Array.toList_setIfInBounds,List.length_cons]
  have h1:off+j<cells.toList.length:=by simp at h ⊢;omega
  rw[show off+(j+1)=off+j+1 by omega,List.take_set,List.drop_set_of_lt (by omega)]
  rw[List.take_succ_eq_append_getElem h1,List.set_append_right _ _ (by simp;omega)]
  simp only[List.length_take,Nat.min_eq_left (Nat.le_of_lt h1),Nat.sub_self,List.set_cons_zero,List.append_assoc,List.cons_append,List.nil_append]
  rw[show off+j+1+vs.length=off+j+(vs.length+1) by omega]
theorem fill_rel{L:Nat→Prop}{ρ:Nat→Value}{w:World}{a:Act}(he:∀y,RV L ρ H w (ev τ y) (a.eval y))(place:Nat→Option (Nat×Nat)):∀(parts:List (Nat×Operand)) (bp:List (Nat×Nat×AV)) (l l':List AV) (cs:Array Value),bparts place τ parts=some bp→buildv l bp=some l'→RVL L ρ H w l cs.toList→
 ∃cs',Instr.fill place cs (parts.map fun p=>(p.1,a.eval p.2))=some cs'∧RVL L ρ H w l' cs'.toList
 |[],bp,l,l',cs,h1,h2,h3=>by
  injection h1 with h1
  subst h1
  injection h2 with h2
  subst h2
  exact⟨cs,rfl,h3⟩
 |(i,x)::parts,bp,l,l',cs,h1,h2,h3=>by
  unfold bparts at h1
  split at h1
  ·rename_i off n bp' hp hr
   injection h1 with h1
   subst h1
   unfold buildv at h2
   split at h2
   ·rename_i lx hl
    split at h2
    ·rename_i hc
     obtain⟨k1,_⟩:=cellsA_spec (he x) hl
     have hlc:=k1.length
     have hls:=h3.length
     simp only[Array.length_toList]at hlc hls
     obtain⟨cs',r1,r2⟩:=fill_rel he place parts bp' _ l' ((a.eval x).cells.zipIdx.foldl (fun cs (p:Value×Nat)=>cs.setIfInBounds (off+p.2) p.1) cs) hr h2 (by
      have:=foldl_set (a.eval x).cells.toList 0 off cs (by simp;omega)
      rw[←Array.foldl_toList,Array.toList_zipIdx,this]
      rw[Nat.add_zero,Array.length_toList]
      rw[hlc,hc.1]
      exact((h3.take off).append k1).append (h3.drop (off+n)))
     refine⟨cs',?_,r2⟩
     rw[List.map_cons]
     unfold Instr.fill
     dsimp only
     rw[hp]
     dsimp only
     split
     ·rename_i q'
      simp only[Bool.or_eq_true,decide_eq_true_eq]at q'
      omega
     ·exact r1
    ·cases h2
   ·cases h2
  ·cases h1
theorem rd_build{t:TypeId}{parts:List (Nat×Operand)}{zs:List Value}{places:List (Nat×Nat)}{bp:List (Nat×Nat×AV)}{l:List AV}(ho:o.op=.build t parts.toArray)(hs:structA P t=some (zs,places))(hz:zs.all (·.oneCell')=true)(h1:bparts (fun i=>places[i]?) τ parts=some bp)(h2:buildv (zs.map fun c=>.p (.v c)) bp=some l):Rd P o τ H X (.agg l):=by
 apply Rd.pure;intro L ρ a w he _
 obtain⟨cs',r1,r2⟩:=fill_rel he _ parts bp _ l zs.toArray h1 h2 (by simpa using RVL.pv zs hz)
 refine⟨.agg cs',by rw[RV];exact⟨cs'.toList,by simp,r2⟩,fun W=>?_⟩
 have hb:P.built t (parts.map fun p=>(p.1,a.eval p.2))=some cs':=by
  unfold structA at hs
  unfold Program.built
  split at hs
  ·rename_i it fields q1 q2
   split at hs
   ·rename_i z pl q3 q4
    simp only[Option.some.injEq,Prod.mk.injEq]at hs
    obtain⟨rfl,rfl⟩:=hs
    rw[q1,q2]
    dsimp only
    rw[q3,q4]
    dsimp only
    have e:(fun(i:Nat)=>pl.toArray[i]?)=(fun(i:Nat)=>pl[i]?):=funext fun i=>by first|rfl|simp
    simpa[e]using r1
   ·cases hs
  ·cases hs
 have:=run_build (P:=P) W t ((parts.map fun p=>(p.1,a.eval p.2)).toArray) cs' (by simpa using hb)
 simp[execOp,ho,this]
end

theorem St.turn{P:Program}{o:Oper}{N:Nat}{τ:Nat→AV}{H:Nat→AO}(id:Nat)(k:Nat→Bool)(x:AV)(o':AO)(E:List Nat)(ht:∀s,o.dst=some s→s<N)
 (h:∀ {L O:Nat→Prop} {w0:World} {ρ:Nat→Value} {fp:Nat→List Nat} {a:Act} {w:World},RR L O w0 N τ H ρ fp a w→∃w' v' row c nx,(execOp a.eval o).run P w=.ok nx w'∧(nx=.value c∨(nx=.skip∧c=undef))∧
   w.grownBy w' row∧(∀b,row=some b→id∈E∧(H id).here=true∧(ρ id).ownBlock=some b)∧
   (∀b off,(row=some b∨w.heap.size≤b)→b<w'.heap.size→w'.frozen? ⟨b,off,none⟩=false)∧
   (k id=false→o'.here=true→(H id).here=true∧v'=ρ id∧o'.len=(H id).len∧o'.sz=(H id).sz)∧
   (∀b,v'.ownBlock=some b→w.heap.size≤b∨((H id).here=true∧(ρ id).ownBlock=some b))∧
   (Env L ρ (upd ρ id v') H (upd (fun j=>(H j).kil k) id o') w w' k→OB L (upd ρ id v') (upd (fun j=>(H j).kil k) id o') w' v' v'.ownBlock.toList o'∧RV L (upd ρ id v') (upd (fun j=>(H j).kil k) id o') w' x c)) :
 St P o N τ H E (updo (fun t=>kil k (τ t)) o.dst x) (upd (fun j=>(H j).kil k) id o'):=by
 refine⟨?_⟩
 intro L O w0 ρ fp a w K Q hr hk
 obtain⟨w',v',row,c,nx,h1,h2,h3,h4,h5,h6,h7,h8⟩:=h hr
 have hX:∀b,row=some b→(O b∨w0.heap.size≤b)∧¬L b:=fun b hb=>hr.own id b ((hr.ob id).top (h4 b hb).2.1 (h4 b hb).2.2)
 have hc:Chg O w0 w':=hr.chg.step (X:=fun b=>row=some b) h3.os h3.tape h3.output h3.size (fun b hb hn=>h3.block b hb (fun e=>hn e.symm)) (fun b hb=>(hX b hb).1) h5
 have hw:∀b,b<w.heap.size→¬((H id).here=true∧(ρ id).ownBlock=some b)→w'.heap[b]? = w.heap[b]?:=fun b hb hn=>h3.block b hb (fun e=>hn (h4 b e.symm).2)
 have hE:∃E:Env L ρ (upd ρ id v') H (upd (fun j=>(H j).kil k) id o') w w' k,True:=by
  refine⟨⟨h3.size,fun b hb hn=>⟨hw b hb (fun q=>hn (.inr ⟨id,q⟩)),?_⟩,fun j hkj hj=>?_⟩,trivial⟩
  ·rintro(hL|⟨j,k2,k3⟩)
   ·exact hn (.inl hL)
   by_cases e:j=id
   ·subst e
    rw[upd_same]at k2 k3
    rcases h7 b k3 with q|q
    ·omega
    ·exact hn (.inr ⟨j,q⟩)
   ·rw[upd_ne _ _ e]at k2 k3
    rw[AO.kil_here]at k2
    exact hn (.inr ⟨j,k2,k3⟩)
  ·by_cases e:j=id
   ·subst e
    rw[upd_same]at hj ⊢
    rw[upd_same]
    exact h6 hkj hj
   ·rw[upd_ne _ _ e]at hj ⊢
    rw[upd_ne _ _ e]
    rw[AO.kil_here]at hj
    exact⟨hj,rfl,AO.kil_len _ _,AO.kil_sz _ _⟩
 obtain⟨hE,_⟩:=hE
 obtain⟨q1,q2⟩:=h8 hE
 have hr':=hr.turnK k (id:=id) (o':=o') (v':=v') (f':=v'.ownBlock.toList) hc h3.size hw h6 (fun _=>h7) (fun _=>q1) (fun b hb=>by
  have hb':v'.ownBlock=some b:=by simpa[Option.mem_toList]using hb
  rcases h7 b hb' with q|q
  ·exact⟨.inr (Nat.le_trans hr.chg.size q),fun hL=>by have:=hr.lo b hL;have:=hr.chg.size;omega⟩
  ·exact hr.own id b ((hr.ob id).top q.1 q.2)) (fun j hj b hb=>by
  have hb':v'.ownBlock=some b:=by simpa[Option.mem_toList]using hb
  rcases h7 b hb' with q|q
  ·intro hbj
   have:=(hr.ob j).lt b hbj
   omega
  ·exact hr.dj id j (Ne.symm hj) b ((hr.ob id).top q.1 q.2))
 have hmv:∀X:Nat→Bool,(∀i∈E,X i=true)→Mv X ρ H w (upd ρ id v') (upd (fun j=>(H j).kil k) id o') w':=fun X hX=>by
  refine⟨⟨h3.size,fun b hb hn=>h3.block b hb (fun e=>?_)⟩,fun j hj hh b hb=>?_⟩
  ·obtain⟨q1,q2,q3⟩:=h4 b e.symm
   exact hn id (hX id q1) q2 q3
  ·by_cases e:j=id
   ·subst e
    rw[upd_same]at hb
    rcases h7 b hb with q|q
    ·exact .inl q
    ·exact .inr ⟨j,hj,q⟩
   ·rw[upd_ne _ _ e]at hb hh
    rw[AO.kil_here]at hh
    exact .inr ⟨j,hj,hh,hb⟩
 unfold Oper.wp
 rw[h1]
 rcases h2 with rfl|⟨rfl,rfl⟩
 ·exact hk _ _ _ _ (hr'.puto o.dst q2 ht) hmv
 ·exact hk _ _ _ _ (hr'.puto o.dst q2 ht) hmv
theorem St.turn0{P:Program}{o:Oper}{N:Nat}{τ:Nat→AV}{H:Nat→AO}(id:Nat)(x:AV)(o':AO)(E:List Nat)(ht:∀s,o.dst=some s→s<N)
 (h:∀ {L O:Nat→Prop} {w0:World} {ρ:Nat→Value} {fp:Nat→List Nat} {a:Act} {w:World},RR L O w0 N τ H ρ fp a w→∃w' row c nx,(execOp a.eval o).run P w=.ok nx w'∧(nx=.value c∨(nx=.skip∧c=undef))∧
   w.grownBy w' row∧(∀b,row=some b→id∈E∧(H id).here=true∧(ρ id).ownBlock=some b)∧
   (∀b off,(row=some b∨w.heap.size≤b)→b<w'.heap.size→w'.frozen? ⟨b,off,none⟩=false)∧
   ((H id).here=true∧o'.len=(H id).len∧o'.sz=(H id).sz)∧
   (Env L ρ ρ H (upd H id o') w w' noK→OB L ρ (upd H id o') w' (ρ id) (ρ id).ownBlock.toList o'∧RV L ρ (upd H id o') w' x c)) :
 St P o N τ H E (updo τ o.dst x) (upd H id o'):=by
 have e1:(fun t=>kil noK (τ t))=τ:=funext fun t=>kil_no _
 have e2:(fun j=>(H j).kil noK)=H:=funext fun j=>AO.kil_no _
 have this:St P o N τ H E (updo (fun t=>kil noK (τ t)) o.dst x) (upd (fun j=>(H j).kil noK) id o'):=St.turn (P:=P) (o:=o) (N:=N) (τ:=τ) (H:=H) id noK x o' E ht (fun{L O w0 ρ fp a w} hr=>by
  obtain⟨w',row,c,nx,h1,h2,h3,h4,h5,h6,h7⟩:=h hr
  have e3:upd ρ id (ρ id)=ρ:=funext fun j=>by unfold upd;split<;>simp_all
  refine⟨w',ρ id,row,c,nx,h1,h2,h3,h4,h5,fun _ _=>⟨h6.1,rfl,h6.2⟩,fun b hb=>.inr ⟨h6.1,hb⟩,?_⟩
  rw[e2,e3]
  exact h7)
 rw[e1,e2]at this
 exact this
def zeroA(P:Program)(t:TypeId):Option (List Value):=
 match P.info? t with
 |some i=>match i.zero with
  |some z=>if z.cells.all (·.oneCell')=true then some z.cells.toList else none
  |none=>none
 |none=>none
theorem zeroA_spec{P:Program}{t:TypeId}{zs:List Value}(h:zeroA P t=some zs):∃i z,P.info? t=some i∧i.zero=some z∧z.cells=zs.toArray∧zs.all (·.oneCell')=true∧∀u∈zs,u.oneCell'=true:=by
 unfold zeroA at h
 split at h
 ·rename_i i hi
  split at h
  ·rename_i z hz
   split at h
   ·rename_i ha
    injection h with h
    subst h
    refine⟨i,z,hi,hz,by simp,by simpa using ha,fun u hu=>?_⟩
    have:=Array.all_eq_true'.1 ha u (by simpa using hu)
    exact this
   ·cases h
  ·cases h
 ·cases h
theorem frozen_new{w:World}{cs:Array Value}{T:TypeId}:∀b off,(none=some b∨w.heap.size≤b)→b<(w.alloc (.cells cs T)).heap.size→(w.alloc (.cells cs T)).frozen? ⟨b,off,none⟩=false:=fun b off h1 h2=>by
 have hb:b=w.heap.size:=by
  rcases h1 with h1|h1
  ·cases h1
  ·have:(w.alloc (.cells cs T)).heap.size=w.heap.size+1:=by simp
   omega
 subst hb
 unfold World.frozen?
 dsimp only
 rw[heap_alloc_new]
 simp
theorem ownsRow_new{w:World}{cs:List Value}{T:TypeId}{sz n:Nat}(hl:cs.length=n*sz)(hn:n≤maxLen):(w.alloc (.cells cs.toArray T)).ownsRow 0 T sz (.slice (some ⟨w.heap.size,0,none⟩) n n) n cs:=
 ⟨hl,.inr ⟨w.heap.size,n,cs.toArray,rfl,Nat.zero_le _,heap_alloc_new w _,Nat.le_refl _,hn,by simpa using hl,by simp[←hl]⟩⟩
section
variable {P:Program}{o:Oper}{N:Nat}{τ:Nat→AV}{H:Nat→AO}
def one?(id:Nat):Nat→Bool:=fun j=>j==id
theorem St.alloc(id:Nat){T:TypeId}{t:Nat}{zs:List Value}(ho:o.op=.alloc T)(hd:o.dst=some t)(ht:t<N)(hz:zeroA P T=some zs) :
 St P o N τ H [] (upd (fun s=>kil (one? id) (τ s)) t (.ptr id 0 0)) (upd (fun j=>(H j).kil (one? id)) id (.box T none (zs.map fun c=>.p (.v c)))):=by
 obtain⟨i,z,h1,h2,h3,h4,h5⟩:=zeroA_spec hz
 have this:St P o N τ H [] (updo (fun s=>kil (one? id) (τ s)) o.dst (.ptr id 0 0)) (upd (fun j=>(H j).kil (one? id)) id (.box T none (zs.map fun c=>.p (.v c)))):=St.turn (P:=P) (o:=o) (N:=N) (τ:=τ) (H:=H) id (one? id) (.ptr id 0 0) (.box T none (zs.map fun c=>.p (.v c))) [] (fun s hs=>by rw[hd]at hs;cases hs;exact ht) (fun{L O w0 ρ fp a w} hr=>by
  refine⟨w.alloc (.cells zs.toArray T),.slice (some ⟨w.heap.size,0,none⟩) 1 1,none,.pointer (some ⟨w.heap.size,0,none⟩),_,?_,.inl rfl,World.grownBy_alloc w _ none,fun b hb=>(by cases hb),frozen_new,fun hk=>(by simp[one?]at hk),fun b hb=>(by injection hb with hb;exact .inl (Nat.le_of_eq hb)),fun E=>⟨?_,?_⟩⟩
  ·simp[execOp,ho,Instr.alloc,zeroValue,typeInfo,h1,h2,newVar,newRow,h3]
  ·exact⟨zs,RVL.pv zs h4,fun y hy=>by obtain⟨c,_,rfl⟩:=List.mem_map.1 hy;rfl,by rw[List.length_map];exact ownsRow_new (by simp) (by simp[maxLen]),rfl,fun g hg=>by cases hg⟩
  ·rw[RV,upd_same,upd_same]
   exact⟨rfl,fun _=>⟨by simp[AO.len],w.heap.size,1,1,rfl,by simp⟩⟩)
 rw[hd]at this
 exact this
theorem St.box(id:Nat){T:TypeId}{t:Nat}{x:Operand}{l:List AV}(ho:o.op=.box T x)(hd:o.dst=some t)(ht:t<N)(hl:cellsA (ev τ x)=some l) :
 St P o N τ H [] (upd (fun s=>kil (one? id) (τ s)) t (.ptr id 0 0)) (upd (fun j=>(H j).kil (one? id)) id (.box T none (kilL (one? id) l))):=by
 have this:St P o N τ H [] (updo (fun s=>kil (one? id) (τ s)) o.dst (.ptr id 0 0)) (upd (fun j=>(H j).kil (one? id)) id (.box T none (kilL (one? id) l))):=St.turn (P:=P) (o:=o) (N:=N) (τ:=τ) (H:=H) id (one? id) (.ptr id 0 0) (.box T none (kilL (one? id) l)) [] (fun s hs=>by rw[hd]at hs;cases hs;exact ht) (fun{L O w0 ρ fp a w} hr=>by
  obtain⟨k1,k2⟩:=cellsA_spec (hr.ev x) hl
  refine⟨w.alloc (.cells (a.eval x).cells.toList.toArray T),.slice (some ⟨w.heap.size,0,none⟩) 1 1,none,.pointer (some ⟨w.heap.size,0,none⟩),_,?_,.inl rfl,World.grownBy_alloc w _ none,fun b hb=>(by cases hb),frozen_new,fun hk=>(by simp[one?]at hk),fun b hb=>(by injection hb with hb;exact .inl (Nat.le_of_eq hb)),fun E=>⟨?_,?_⟩⟩
  ·simp[execOp,ho,Instr.box,newVar,newRow]
  ·exact⟨_,RVL.env E l k1,kilL_cell _ _ k2,by rw[kilL_length];exact ownsRow_new (by rw[k1.length];simp) (by simp[maxLen]),rfl,fun g hg=>by cases hg⟩
  ·rw[RV,upd_same,upd_same]
   exact⟨rfl,fun _=>⟨by simp[AO.len],w.heap.size,1,1,rfl,by simp⟩⟩)
 rw[hd]at this
 exact this
theorem store_run{w:World}{e:TypeId}{sz n g m cap off:Nat}{v:Value}{xs vs:List Value}{t:TypeId}{x y:Operand}{a:Act}(ho:o.op=.store t x y)(hown:w.ownsRow 0 e sz v n xs)(hv:v=.slice (some ⟨g,0,none⟩) m cap)(hx:a.eval x=.pointer (some ⟨g,off,none⟩))(hy:(a.eval y).cells.toList=vs)
 (h1:∀u∈vs,u.oneCell'=true) (hsz:P.cellsOf t=vs.length) (hi:(P.info? t).isSome=true) (hfit:off+vs.length≤xs.length) :
 ∃w',(execOp a.eval o).run P w=.ok .skip w'∧w.grownBy w' (some g)∧(∀b o',(some g=some b∨w.heap.size≤b)→b<w'.heap.size→w'.frozen? ⟨b,o',none⟩=false)∧w'.ownsRow 0 e sz v n (xs.take off++vs++xs.drop (off+vs.length)):=by
 subst hv
 rcases hown.2 with⟨q,_⟩|⟨g',cap',cur,q,_,hg,hnc,hcm,hcs,htk⟩
 ·cases q
 ·injection q with q1 q2 q3
  injection q1 with q1
  injection q1 with q1
  subst q1 q2 q3
  have hxl:xs.length≤cur.size:=by rw[hown.1,hcs];exact Nat.mul_le_mul_right _ hnc
  have hst:=run_storeCells_at P g off e vs 0 cur w hg (by omega) h1
  simp only[Nat.add_zero]at hst
  obtain⟨i,hi⟩:=Option.isSome_iff_exists.1 hi
  have hs:(sizeOf t).run P w=.ok vs.length w:=by
   rw[←hsz];simp[sizeOf,typeInfo,hi,Program.cellsOf]
  have hcz:(a.eval y).cells.size=vs.length:=by rw[←hy];simp
  have hgl:g<w.heap.size:=(Array.getElem?_eq_some_iff.1 hg).1
  refine⟨w.setRow g (cur.toList.take off++vs++cur.toList.drop (off+vs.length)).toArray,?_,⟨rfl,rfl,rfl,by simp,fun b hb hne=>setRow_other w g b _ (fun e=>hne (by rw[e]))⟩,fun b o' hb hlt=>?_,?_⟩
  ·simp[execOp,ho,hx,Instr.storeAt,Instr.sureAddr,storeVar,hs,hcz,hy,hst]
  ·have hbg:b=g:=by
    rcases hb with hb|hb
    ·injection hb with hb;exact hb.symm
    ·rw[setRow_size]at hlt;omega
   subst hbg
   simp[World.frozen?,setRow_heap w b cur _ e _ hg]
  ·have hxe:xs=cur.toList.take (m*sz):=htk.symm
   have hms:xs.length=m*sz:=hown.1
   refine⟨?_,.inr ⟨g,cap,_,rfl,Nat.zero_le _,setRow_heap w g cur _ e _ hg,hnc,hcm,?_,?_⟩⟩
   ·simp only[List.length_append,List.length_take,List.length_drop];omega
   ·rw[←hcs];simp only[List.size_toArray,List.length_append,List.length_take,List.length_drop,Array.length_toList];omega
   ·rw[hxe]
    apply List.ext_getElem?
    intro j
    simp only[List.getElem?_take,List.getElem?_append,List.length_append,List.length_take,List.getElem?_drop,Array.length_toList]
    have:(m*sz)≤cur.size:=by omega
    split<;>split<;>(try split)<;>(try split)<;>(try split)<;>first|rfl|omega|(congr 1;omega)|skip
    all_goals (try (split<;>first|rfl|omega|(congr 1;omega)))
theorem St.storeBox(id:Nat){t T:TypeId}{x y:Operand}{k:Nat}{p:Option Value}{cells l:List AV}(ho:o.op=.store t x y)(hd:o.dst=none)(hx:ev τ x=.ptr id 0 k)(hH:H id=.box T p cells)(hl:cellsA (ev τ y)=some l)(hsz:P.cellsOf t=l.length)(hi:(P.info? t).isSome=true)(hfit:k+l.length≤cells.length) :
 St P o N τ H [id] τ (upd H id (.box T p (cells.take k++l++cells.drop (k+l.length)))):=by
 have hlen:(cells.take k++l++cells.drop (k+l.length)).length=cells.length:=by simp only[List.length_append,List.length_take,List.length_drop];omega
 have this:St P o N τ H [id] (updo τ o.dst .bad) (upd H id (.box T p (cells.take k++l++cells.drop (k+l.length)))):=St.turn0 (P:=P) (o:=o) (N:=N) (τ:=τ) (H:=H) id .bad (.box T p (cells.take k++l++cells.drop (k+l.length))) [id] (fun s hs=>by rw[hd]at hs;cases hs) (fun{L O w0 ρ fp a w} hr=>by
  obtain⟨k1,k2⟩:=cellsA_spec (hr.ev y) hl
  have hv:=hr.ev x
  rw[hx,RV,hH]at hv
  obtain⟨_,g,m,cap,hg,he⟩:=hv.2 rfl
  have hob:=hr.ob id
  rw[hH]at hob
  obtain⟨xs,b1,b2,b3,b4,b5⟩:=hob
  have hxl:=b1.length
  have hll:=k1.length
  obtain⟨w',r1,r2,r3,r4⟩:=store_run (P:=P) (vs:=(a.eval y).cells.toList) (off:=k) ho b3 hg (by rw[he];simp) rfl (k1.ones k2) (by rw[hsz,hll]) hi (by rw[hxl,hll];omega)
  refine⟨w',some g,undef,_,r1,.inr ⟨rfl,rfl⟩,r2,fun b hb=>⟨by simp,by rw[hH];rfl,by rw[hg,←hb];rfl⟩,r3,⟨by rw[hH];rfl,by rw[hH];rfl,by rw[hH];exact hlen⟩,fun E=>⟨?_,by simp[RV]⟩⟩
  have e1:=RVL.env E _ b1
  have e2:=RVL.env E _ k1
  rw[kilL_no]at e1 e2
  refine⟨_,((e1.take k).append e2).append (e1.drop (k+l.length)),fun z hz=>?_,?_,rfl,b5⟩
  ·rcases List.mem_append.1 hz with hz|hz
   ·rcases List.mem_append.1 hz with hz|hz
    ·exact b2 z (List.mem_of_mem_take hz)
    ·exact k2 z hz
   ·exact b2 z (List.mem_of_mem_drop hz)
  ·rw[hlen]
   rw[hll]at r4
   exact r4)
 rw[hd]at this
 exact this
theorem RWL.of_rvl{L:Nat→Prop}{ρ:Nat→Value}{w:World}:∀ {l:List PV} {cs:List Value},RVL L ρ H w (l.map AV.p) cs→∃fp,RWL w false l cs fp∧∀b∈fp,¬live L ρ H b
 |[],cs,h=>by rw[List.map_nil,RVL]at h;exact⟨[],by simp[RWL,h],by simp⟩
 |x::l,cs,h=>by
  rw[List.map_cons,RVL]at h
  obtain⟨c,r,rfl,h1,h2⟩:=h
  rw[RV]at h1
  obtain⟨f1,h1,q1⟩:=h1
  obtain⟨f2,h2,q2⟩:=RWL.of_rvl h2
  refine⟨f1++f2,by rw[RWL];exact⟨c,r,f1,f2,rfl,rfl,h1,h2⟩,fun b hb=>?_⟩
  rcases List.mem_append.1 hb with hb|hb
  ·exact q1 b hb
  ·exact q2 b hb
theorem RWL.append'{w:World}{st:Bool}:∀ {x y:List PV} {c d:List Value} {f g:List Nat},RWL w st x c f→RWL w st y d g→RWL w st (x++y) (c++d) (f++g)
 |[],y,c,d,f,g,h,k=>by rw[RWL]at h;obtain⟨rfl,rfl⟩:=h;simpa using k
 |x::xs,y,c,d,f,g,h,k=>by
  rw[RWL]at h
  obtain⟨c,r,f1,f2,rfl,rfl,h1,h2⟩:=h
  rw[List.cons_append,RWL]
  exact⟨c,r++d,f1,f2++g,by simp,by simp,h1,RWL.append' h2 k⟩
theorem St.storeArr(id:Nat){t:TypeId}{e:Pin}{x y:Operand}{i k sz:Nat}{rows:List (List PV)}{row pl:List PV}(ho:o.op=.store t x y)(hd:o.dst=none)(hx:ev τ x=.ptr id i k)(hH:H id=.arr e sz rows)(hrow:rows[i]? = some row)(hl:cellsA (ev τ y)=some (pl.map AV.p))(hsz:P.cellsOf t=pl.length)(hi:(P.info? t).isSome=true)(hfit:k+pl.length≤sz) :
 St P o N τ H [id] τ (upd H id (.arr e sz (rows.set i (row.take k++pl++row.drop (k+pl.length))))):=by
 have this:St P o N τ H [id] (updo τ o.dst .bad) (upd H id (.arr e sz (rows.set i (row.take k++pl++row.drop (k+pl.length))))):=St.turn0 (P:=P) (o:=o) (N:=N) (τ:=τ) (H:=H) id .bad (.arr e sz (rows.set i (row.take k++pl++row.drop (k+pl.length)))) [id] (fun s hs=>by rw[hd]at hs;cases hs) (fun{L O w0 ρ fp a w} hr=>by
  obtain⟨k1,k2⟩:=cellsA_spec (hr.ev y) hl
  have hv:=hr.ev x
  rw[hx,RV,hH]at hv
  obtain⟨hil,g,m,cap,hg,he⟩:=hv.2 rfl
  have hob:=hr.ob id
  rw[hH]at hob
  obtain⟨xs,fr,b1,b2,b3,b4,b5⟩:=hob
  have hll:=k1.length
  rw[List.length_map]at hll
  obtain⟨c1,cr,c2,f1,f2,f3,rfl,rfl,l1,l2,l3,l4⟩:=RWR.row b1 hrow
  have hxl:=b3.1
  have hpos:i*sz+sz≤rows.length*sz:=by
   have h1:(i+1)*sz≤rows.length*sz:=Nat.mul_le_mul_right _ hil
   rw[Nat.add_mul]at h1;omega
  simp only[List.length_append]at hxl
  obtain⟨w',r1,r2,r3,r4⟩:=store_run (P:=P) (vs:=(a.eval y).cells.toList) (off:=i*sz+k) ho b3 hg (by rw[he];simp[AO.sz]) rfl (k1.ones k2) (by rw[hsz,hll]) hi (by simp only[List.length_append];rw[hll];omega)
  refine⟨w',some g,undef,_,r1,.inr ⟨rfl,rfl⟩,r2,fun b hb=>⟨by simp,by rw[hH];rfl,by rw[hg,←hb];rfl⟩,r3,⟨by rw[hH];rfl,by rw[hH];simp[AO.len],by rw[hH];rfl⟩,fun E=>⟨?_,by simp[RV]⟩⟩
  obtain⟨fv,v1,v2⟩:=RWL.of_rvl k1
  have hrl:row.length=sz:=by rw[←l3.length,l2]
  obtain⟨g1,t1,t2⟩:=l3.take k
  obtain⟨g2,t3,t4⟩:=l3.drop (k+pl.length)
  have hnew:=l4 (row.take k++pl++row.drop (k+pl.length)) _ _ (by simp only[List.length_append,List.length_take,List.length_drop];omega) ((t1.append' v1).append' t3)
  have hnl:∀b∈f1++(g1++fv++g2)++f3,¬live L ρ H b:=fun b hb=>by
   simp only[List.mem_append]at hb
   rcases hb with(hb|(hb|hb)|hb)|hb
   ·exact b2 b (by simp[hb])
   ·exact b2 b (by simp[t2 hb])
   ·exact v2 b hb
   ·exact b2 b (by simp[t4 hb])
   ·exact b2 b (by simp[hb])
  refine⟨_,_,RWR.same _ hnew (fun b hb hlt=>(E.block b hlt (hnl b hb)).1),fun b hb=>(E.block b (RWR.lt _ hnew b hb) (hnl b hb)).2,?_,rfl,b5⟩
  rw[List.length_set]
  rw[hll]at r4
  have e:(c1++cr++c2).take (i*sz+k)++(a.eval y).cells.toList++(c1++cr++c2).drop (i*sz+k+pl.length)=c1++(cr.take k++(a.eval y).cells.toList++cr.drop (k+pl.length))++c2:=by
   have d1:(c1++cr++c2).take (i*sz+k)=c1++cr.take k:=by
    rw[List.append_assoc,List.take_append,List.take_of_length_le (by omega),l1,Nat.add_sub_cancel_left,List.take_append_of_le_length (by omega)]
   have d2:(c1++cr++c2).drop (i*sz+k+pl.length)=cr.drop (k+pl.length)++c2:=by
    rw[List.append_assoc,List.drop_append,List.drop_eq_nil_of_le (by omega),l1,show i*sz+k+pl.length-i*sz=k+pl.length by omega,List.nil_append,List.drop_append_of_le_length (by omega)]
   rw[d1,d2]
   simp[List.append_assoc]
  rw[e]at r4
  exact r4)
 rw[hd]at this
 exact this
end

theorem RWL.split{w:World}{st:Bool}:∀ {x y:List PV} {cs:List Value} {fp:List Nat},RWL w st (x++y) cs fp→∃c d f g,cs=c++d∧fp=f++g∧RWL w st x c f∧RWL w st y d g
 |[],y,cs,fp,h=>⟨[],cs,[],fp,rfl,rfl,by simp[RWL],h⟩
 |x::xs,y,cs,fp,h=>by
  rw[List.cons_append,RWL]at h
  obtain⟨c,r,f1,f2,rfl,rfl,h1,h2⟩:=h
  obtain⟨c',d',f',g',rfl,rfl,h3,h4⟩:=RWL.split h2
  exact⟨c::c',d',f1++f',g',by simp,by simp,by rw[RWL];exact⟨c,c',f1,f',rfl,rfl,h1,h3⟩,h4⟩
theorem RWR.of_flat{w:World}{st:Bool}{sz:Nat}:∀ {rows:List (List PV)} {cs:List Value} {fp:List Nat},RWL w st rows.flatten cs fp→(∀r∈rows,r.length=sz)→RWR w st sz rows cs fp
 |[],cs,fp,h,_=>by rw[List.flatten_nil,RWL]at h;rw[RWR];exact h
 |r::rows,cs,fp,h,hr=>by
  rw[List.flatten_cons]at h
  obtain⟨c,d,f,g,rfl,rfl,h1,h2⟩:=h.split
  rw[RWR]
  exact⟨hr r (by simp),c,d,f,g,rfl,rfl,h1,RWR.of_flat h2 (fun q hq=>hr q (by simp[hq]))⟩
theorem RWL.pv{w:World}{st:Bool}:∀(cs:List Value),(∀u∈cs,u.oneCell'=true)→RWL w st (cs.map PV.v) cs []
 |[],_=>by simp[RWL]
 |c::r,h=>by
  rw[List.map_cons,RWL]
  exact⟨c,r,[],[],rfl,rfl,by rw[RW];exact⟨rfl,rfl,h c (by simp)⟩,RWL.pv r (fun u hu=>h u (by simp[hu]))⟩
theorem madeCells_flat(zs:List Value)(n:Nat):(madeCells zs.toArray (n*zs.length)).toList=(List.replicate n zs).flatten:=by
 induction n with
 |zero=>simp[madeCells]
 |succ n ih=>
  have e:(List.range ((n+1)*zs.length)).map (fun i=>zs.toArray[i%zs.toArray.size]!)=(List.range (n*zs.length)).map (fun i=>zs.toArray[i%zs.toArray.size]!)++zs:=by
   rw[Nat.add_mul,Nat.one_mul,List.range_add,List.map_append,List.map_map]
   congr 1
   apply List.ext_getElem
   ·simp
   ·intro i h1 h2
    simp only[List.length_map,List.length_range]at h1
    simp only[List.getElem_map,List.getElem_range,Function.comp,List.size_toArray]
    rw[Nat.mul_comm,Nat.mul_add_mod,Nat.mod_eq_of_lt h1]
    simp[h1]
  have e2:(madeCells zs.toArray ((n+1)*zs.length)).toList=(List.range ((n+1)*zs.length)).map (fun i=>zs.toArray[i%zs.toArray.size]!):=by simp[madeCells]
  have e3:(madeCells zs.toArray (n*zs.length)).toList=(List.range (n*zs.length)).map (fun i=>zs.toArray[i%zs.toArray.size]!):=by simp[madeCells]
  rw[e2,e,←e3,ih,List.replicate_succ',List.flatten_append]
  simp
theorem RWR.rep{w:World}{st:Bool}{zs:List Value}(h1:∀u∈zs,u.oneCell'=true):∀n,RWR w st zs.length (List.replicate n (zs.map PV.v)) (List.replicate n zs).flatten []
 |0=>by simp[RWR]
 |n+1=>by
  rw[List.replicate_succ,List.replicate_succ,RWR,List.flatten_cons]
  exact⟨by simp,zs,_,[],[],rfl,rfl,RWL.pv zs h1,RWR.rep h1 n⟩
section
variable {P:Program}{o:Oper}{N:Nat}{τ:Nat→AV}{H:Nat→AO}
theorem info_of{e:TypeId}{zs:List Value}(h:zeroA P e=some zs):∃i z,P.info? e=some i∧i.zero=some z∧z.cells=zs.toArray∧i.size=P.cellsOf e∧i.bytes=P.bytesOf e:=by
 obtain⟨i,z,h1,h2,h3,_⟩:=zeroA_spec h
 exact⟨i,z,h1,h2,h3,by simp[Program.cellsOf,h1],by simp[Program.bytesOf,h1]⟩
theorem St.make(id:Nat){t e:TypeId}{x y:Operand}{d sz m:Nat}{k k':IntKind}{n n':Int}{zs:List Value}(ho:o.op=.makeSlice t x y)(hd:o.dst=some d)(ht:d<N)(he:elA P t=some (e,sz))(hz:zeroA P e=some zs)(hzl:zs.length=sz)(hx:ev τ x=.p (.v (.int k n)))(hy:ev τ y=.p (.v (.int k' n')))(hn:n=(m:Int))(hn':n'=(m:Int))
 (hb:P.bytesOf e*m≤281474976710656) (hm:m≤maxLen) :
 St P o N τ H [] (upd (fun s=>kil (one? id) (τ s)) d (.own id)) (upd (fun j=>(H j).kil (one? id)) id (.arr e sz (List.replicate m (zs.map PV.v)))):=by
 subst hn hn' hzl
 obtain⟨i,z,i1,i2,i3,i4,i5⟩:=info_of hz
 obtain⟨_,_,_,_,_,_,h1⟩:=zeroA_spec hz
 obtain⟨q1,_,q3⟩:=elA_spec he
 have this:St P o N τ H [] (updo (fun s=>kil (one? id) (τ s)) o.dst (.own id)) (upd (fun j=>(H j).kil (one? id)) id (.arr e zs.length (List.replicate m (zs.map PV.v)))):=St.turn id (one? id) (.own id) _ [] (fun s hs=>by rw[hd]at hs;cases hs;exact ht) (fun{L O w0 ρ fp a w} hr=>by
  have ex:=hr.ev x
  have ey:=hr.ev y
  rw[hx]at ex
  rw[hy]at ey
  have hm':(m:Int)≤9223372036854775807:=by simp only[maxLen]at hm;omega
  have hb':(i.bytes:Int)*(m:Int)≤281474976710656:=by
   rw[i5]
   have h:((P.bytesOf e*m:Nat):Int)≤281474976710656:=by omega
   rwa [Int.natCast_mul]at h
  have hr2:=run_make (P:=P) w t e i z q1 i1 i2 k k' (m:Int) (m:Int) (by omega) (Int.le_refl _) hb' hm'
  have hmk:madeCells zs.toArray (m*zs.length)=(List.replicate m zs).flatten.toArray:=by rw[←madeCells_flat]
  rw[Int.toNat_natCast,i3,i4,q3,hmk]at hr2
  refine⟨w.alloc (.cells (List.replicate m zs).flatten.toArray e),.slice (some ⟨w.heap.size,0,none⟩) m m,none,.slice (some ⟨w.heap.size,0,none⟩) m m,_,?_,.inl rfl,World.grownBy_alloc w _ none,fun b hb=>(by cases hb),frozen_new,fun hk=>(by simp[one?]at hk),fun b hb=>(by injection hb with hb;exact .inl (Nat.le_of_eq hb)),fun E=>⟨?_,?_⟩⟩
  ·simp[execOp,ho,ex.v_eq,ey.v_eq,hr2]
  ·refine⟨_,[],RWR.rep h1 m,by simp,?_,rfl,fun u hu=>by cases hu⟩
   rw[List.length_replicate]
   exact ownsRow_new (by simp[List.length_flatten]) hm
  ·rw[RV,upd_same,upd_same]
   exact⟨rfl,fun _=>rfl⟩)
 rw[hd]at this
 exact this
theorem St.bslice(id:Nat){t e:TypeId}{len d sz:Nat}{parts:List (Nat×Operand)}{zs:List Value}{bp:List (Nat×Nat×AV)}{l:List AV}{rows:List (List PV)}(ho:o.op=.buildSlice t len parts.toArray)(hd:o.dst=some d)(ht:d<N)(he:elA P t=some (e,sz))(hz:zeroA P e=some zs)(hzl:zs.length=sz)
 (h1:bparts (fun i=>some (i*sz,sz)) τ parts=some bp) (h2:buildv ((List.replicate len zs).flatten.map fun c=>.p (.v c)) bp=some l) (hl:l=rows.flatten.map AV.p) (hrs:∀r∈rows,r.length=sz) (hlen:rows.length=len) (hsm:len*sz≤16777216) (hsz:0<sz) :
 St P o N τ H [] (upd (fun s=>kil (one? id) (τ s)) d (.own id)) (upd (fun j=>(H j).kil (one? id)) id (.arr e sz rows)):=by
 subst hzl hl
 obtain⟨i,z,i1,i2,i3,i4,i5⟩:=info_of hz
 obtain⟨_,_,_,_,_,o1,o2⟩:=zeroA_spec hz
 obtain⟨q1,_,q3⟩:=elA_spec he
 have this:St P o N τ H [] (updo (fun s=>kil (one? id) (τ s)) o.dst (.own id)) (upd (fun j=>(H j).kil (one? id)) id (.arr e zs.length rows)):=St.turn id (one? id) (.own id) _ [] (fun s hs=>by rw[hd]at hs;cases hs;exact ht) (fun{L O w0 ρ fp a w} hr=>by
  have hz0:RVL L ρ H w ((List.replicate len zs).flatten.map fun c=>.p (.v c)) (madeCells zs.toArray (len*zs.length)).toList:=by
   rw[madeCells_flat]
   refine RVL.pv _ ?_
   rw[List.all_eq_true]
   intro u hu
   obtain⟨l',hl',hu⟩:=List.mem_flatten.1 hu
   rw[(List.mem_replicate.1 hl').2]at hu
   exact o2 u hu
  obtain⟨cs',f1,f2⟩:=fill_rel (fun y=>hr.ev y) _ parts bp _ _ _ h1 h2 hz0
  obtain⟨fr,g1,g2⟩:=RWL.of_rvl f2
  have g3:=RWR.of_flat g1 hrs
  have hcl:cs'.toList.length=len*zs.length:=by rw[g3.length,hlen]
  have hrun:(Instr.buildSlice t len (parts.map fun p=>(p.1,a.eval p.2)).toArray).run P w=.ok (.slice (some ⟨w.heap.size,0,none⟩) len len) (w.alloc (.cells cs'.toList.toArray e)):=by
   have f1':=f1
   unfold madeCells at f1'
   rw[Array.toArray_toList]
   have hsm':¬(16777216<len*i.size):=by rw[i4,q3];omega
   by_cases hz0:len*i.size=0
   ·have hz1:len*zs.length=0:=by rw[←q3,←i4];exact hz0
    have:(Array.range (len*zs.length)).map (zs.toArray[·%zs.toArray.size]!)=#[]:=by rw[hz1];simp[Array.range_zero']
    rw[this]at f1'
    simp[Instr.buildSlice,run_underlying q1,sizeOf,typeInfo,i1,hsm',hz0,newRow,Array.range_zero']
    rw[i4,q3,f1']
    simp
   ·refine run_buildSlice (P:=P) w t e len _ cs' i z q1 i1 i2 (by omega) hz0 ?_
    rw[i3,i4,q3]
    simpa using f1'
  refine⟨w.alloc (.cells cs'.toList.toArray e),.slice (some ⟨w.heap.size,0,none⟩) len len,none,.slice (some ⟨w.heap.size,0,none⟩) len len,_,?_,.inl rfl,World.grownBy_alloc w _ none,fun b hb=>(by cases hb),frozen_new,fun hk=>(by simp[one?]at hk),fun b hb=>(by injection hb with hb;exact .inl (Nat.le_of_eq hb)),fun E=>⟨?_,?_⟩⟩
  ·simp only[execOp,ho,List.map_toArray]
   rw[Sem.run_bind,hrun]
   rfl
  ·refine⟨cs'.toList,fr,RWR.same _ g3 (fun b hb hlt=>(E.block b hlt (g2 b hb)).1),fun b hb=>(E.block b (RWR.lt _ g3 b hb) (g2 b hb)).2,?_,rfl,fun u hu=>by cases hu⟩
   rw[hlen]
   exact ownsRow_new hcl (by simp only[maxLen];have:=Nat.le_mul_of_pos_right len hsz;omega)
  ·rw[RV,upd_same,upd_same]
   exact⟨rfl,fun _=>rfl⟩)
 rw[hd]at this
 exact this
structure Src(τ:Nat→AV)(H:Nat→AO)(x:Operand)(sz:Nat)(rows:List (List PV)):Prop where
 run:∀ {L O:Nat→Prop} {w0:World} {N:Nat} {ρ:Nat→Value} {fp:Nat→List Nat} {a:Act} {w:World},RR L O w0 N τ H ρ fp a w→∃a2 cap news fr,a.eval x=.slice a2 rows.length cap∧(rows.length=0∨∃b off,a2=some ⟨b,off,none⟩∧CellsAt w b off news)∧RWR w false sz rows news fr∧∀b∈fr,¬live L ρ H b
theorem Src.own{x:Operand}{sz j:Nat}{e:Pin}{rows:List (List PV)}(hx:ev τ x=.own j)(hH:H j=.arr e sz rows):Src τ H x sz rows:=⟨fun{L O w0 N ρ fp a w} hr=>by
 have h:=hr.ev x
 rw[hx,RV]at h
 have h0:=h.2 (by rw[hH];rfl)
 have hob:=hr.ob j
 rw[hH]at hob
 obtain⟨xs,fr,k1,k2,k3,_⟩:=hob
 rcases k3.2 with⟨q,q2⟩|⟨g,cap,cur,q,_⟩
 ·exact⟨none,0,xs,fr,by rw[h0,q,q2],.inl q2,k1,k2⟩
 ·have k3':=k3
  rw[q]at k3'
  exact⟨_,cap,xs,fr,h0.trans q,.inr ⟨g,0,rfl,cellsAt_of_own k3'⟩,k1,k2⟩⟩
theorem Src.p{x:Operand}{sz:Nat}{e:TypeId}{rows:List (List PV)}(hx:ev τ x=.p (.lst e sz rows)):Src τ H x sz rows:=⟨fun{L O w0 N ρ fp a w} hr=>by
 have h:=hr.ev x
 rw[hx,RV]at h
 obtain⟨fp,h1,h2⟩:=h
 rw[RW]at h1
 obtain⟨xs,f1,f2,k1,k2,rfl⟩:=h1
 unfold SlAt at k2
 simp only[Bool.false_eq_true,if_false]at k2
 obtain⟨b,cap,e1,c1,c2,k2⟩:=k2
 refine⟨b,cap,xs,f2,e1,?_,k1,fun b hb=>h2 b (by simp[hb])⟩
 rcases k2 with⟨q,_⟩|⟨blk,off,rfl,hc,_⟩
 ·exact .inl q
 ·exact .inr ⟨blk,off,rfl,hc⟩⟩
theorem Src.nil{x:Operand}{sz:Nat}(hx:ev τ x=.p (.v (.slice none 0 0))):Src τ H x sz []:=⟨fun{L O w0 N ρ fp a w} hr=>by
 have h:=hr.ev x
 rw[hx]at h
 exact⟨none,0,[],[],h.v_eq,.inl rfl,by simp[RWR],by simp⟩⟩
theorem Src.sub{x:Operand}{sz j off len:Nat}{e:Pin}{rows:List (List PV)}(hx:ev τ x=.sub j off len)(hH:H j=.arr e sz rows):Src τ H x sz ((rows.drop off).take len):=⟨fun{L O w0 N ρ fp a w} hr=>by
 have h:=hr.ev x
 rw[hx,RV,hH]at h
 obtain⟨h1,b,cap,e1,_,_,h2⟩:=h.2 rfl
 simp only[AO.len]at h1
 have hob:=hr.ob j
 rw[hH]at hob
 obtain⟨xs,fr,k1,k2,k3,_⟩:=hob
 obtain⟨g1,t1,t2⟩:=k1.drop off
 obtain⟨g2,t3,t4⟩:=t1.take len
 have hl:((rows.drop off).take len).length=len:=by rw[List.length_take,List.length_drop];omega
 refine⟨b,cap,_,g2,by rw[hl];exact e1,?_,t3,fun b hb=>k2 b (t2 (t4 hb))⟩
 rw[hl]
 by_cases hz:len=0
 ·exact .inl hz
 ·obtain⟨g,m,cap',e2,e3⟩:=h2 (by omega)
  rw[e2]at k3
  have hm:m=rows.length:=by
   rcases k3.2 with⟨q,_⟩|⟨g',cap',cur,q,_⟩
   ·cases q
   ·injection q
  subst hm
  refine .inr ⟨g,off*sz,by rw[e3];rfl,?_⟩
  have:=(cellsAt_of_own k3).drop (off*sz)
  rw[Nat.zero_add]at this
  intro i v hi
  rw[List.getElem?_take]at hi
  split at hi
  ·exact this i v hi
  ·cases hi⟩
theorem append_run{w:World}{t ty e:TypeId}{i:TypeInfo}{z:Value}(ht:P.underlying t=some (.slice e))(hi:P.info? e=some i)(hz:i.zero=some z)(hzs:z.cells.size=i.size)(hsz:0<i.size)
 {v:Value} {n:Nat} {xs:List Value} (hown:w.ownsRow 0 e i.size v n xs) {a2:Option Addr} {m c:Nat} {news:List Value} (hl:news.length=m*i.size) (hsrc:m=0∨∃b off,a2=some ⟨b,off,none⟩∧CellsAt w b off news) (h1:∀u∈news,u.oneCell'=true)
 (h63:n+m≤maxLen) (hbytes:(n+m)*i.bytes≤140737488355328) :
 ∃v' w',(Builtin.append_ #[t,t] ty #[v,.slice a2 m c]).run P w=.ok v' w'∧w'.ownsRow 0 e i.size v' (n+m) (xs++news)∧w.grownBy w' v.ownBlock∧(v'.ownBlock=v.ownBlock∨v'.ownBlock=some w.heap.size)∧
  (∀b off,(v.ownBlock=some b∨w.heap.size≤b)→b<w'.heap.size→w'.frozen? ⟨b,off,none⟩=false):=by
 have hfv:∀b off,(v.ownBlock=some b∨w.heap.size≤b)→b<w.heap.size→w.frozen? ⟨b,off,none⟩=false:=fun b off hb hlt=>by
  rcases hb with hb|hb
  ·rcases hown.2 with⟨q,_⟩|⟨g,cap,cur,q,_,hg,_⟩
   ·rw[q]at hb;cases hb
   ·rw[q]at hb
    injection hb with hb
    have hb':g=b:=hb
    subst hb'
    simp[World.frozen?,hg]
  ·omega
 by_cases hm0:m=0∧a2=none
 ·obtain⟨rfl,rfl⟩:=hm0
  have hn:news=[]:=List.eq_nil_of_length_eq_zero (by simpa using hl)
  subst hn
  refine⟨v,w,?_,by simpa using hown,⟨rfl,rfl,rfl,Nat.le_refl _,fun _ _ _=>rfl⟩,.inl rfl,hfv⟩
  rcases hown.2 with⟨rfl,rfl⟩|⟨g,cap,cur,rfl,_,hg,hnc,_⟩
  ·simp[Builtin.append_,run_underlying ht,sizeOf,typeInfo,hi,Builtin.lenOf,Builtin.firstCells]
  ·simp[Builtin.append_,run_underlying ht,sizeOf,typeInfo,hi,Builtin.lenOf,Builtin.firstCells,hnc,storeCells]
 ·obtain⟨ad,had,hnews⟩:∃ad,a2=some ad∧∀j u,news[j]? = some u→w.cell? (ad.add j)=some u:=by
   rcases hsrc with hm|⟨b,off,rfl,hc⟩
   ·cases a2 with
    |none=>exact absurd ⟨hm,rfl⟩ hm0
    |some ad=>
     have hn:news=[]:=List.eq_nil_of_length_eq_zero (by rw[hl,hm];simp)
     exact⟨ad,rfl,fun j u hj=>by rw[hn]at hj;simp at hj⟩
   ·exact⟨_,rfl,fun j u hj=>by
     have e:(⟨b,off,none⟩:Addr).add j=⟨b,off+j,none⟩:=by unfold Addr.add;split<;>simp_all
     rw[e];exact hc j u hj⟩
  subst had
  obtain⟨v',w',r1,r2,r3,_,r5⟩:=run_append_own_at (P:=P) w 0 t ty e i z i.size i.bytes ht hi hz rfl rfl hzs hsz v n xs hown ad m c news hl hnews h1 h63 hbytes (Nat.zero_le _)
  refine⟨v',w',r1,r2,r3,r5,?_⟩
  have hsmall:n+m≤9223372036854775807:=by simp only[maxLen]at h63;omega
  rcases hown.2 with⟨rfl,rfl⟩|⟨g,cap,cur,rfl,hbg,hgg,hnc,hcm,hcs,htake⟩
  ·by_cases hm:m=0
   ·subst hm
    have hn:news=[]:=List.eq_nil_of_length_eq_zero (by simpa using hl)
    subst hn
    have:(Builtin.append_ #[t,t] ty #[.slice none 0 0,.slice (some ad) 0 c]).run P w=.ok (.slice none 0 0) w:=by
     simp[Builtin.append_,run_underlying ht,sizeOf,typeInfo,hi,Builtin.lenOf,Builtin.firstCells,loadCells,loadCellsFrom]
    rw[this]at r1
    injection r1 with _ hw
    subst hw
    exact hfv
   ·rw[run_append_nil (P:=P) w t ty e i z ht hi hz ad m c news hl hnews (by omega) (by omega) (by have hb:=hbytes;simp only[Nat.zero_add]at hb;omega)]at r1
    injection r1 with _ hw
    subst hw
    intro b off hb hlt
    refine frozen_new (w:=w.drew) b off (.inr ?_) hlt
    rcases hb with hb|hb
    ·cases hb
    ·exact hb
  ·by_cases hroom:n+m≤cap
   ·have hfit:n*i.size+news.length≤cur.size:=by rw[hl,hcs,←Nat.add_mul];exact Nat.mul_le_mul_right _ hroom
    rw[run_append_room (P:=P) w t ty e i ht hi g n cap cur hgg ad m c news hl hnews h1 hroom hfit]at r1
    injection r1 with _ hw
    subst hw
    intro b off hb hlt
    rw[setRow_size]at hlt
    have hbg:g=b:=by
     rcases hb with hb|hb
     ·injection hb
     ·omega
    subst hbg
    simp[World.frozen?,setRow_heap w g cur _ e _ hgg]
   ·have holds:∀j u,xs[j]? = some u→w.cell? ((⟨g,0,none⟩:Addr).add j)=some u:=hown.cells (g:=g) rfl
    rw[run_append_grow (P:=P) w t ty e i z ht hi hz ⟨g,0,none⟩ n cap xs hown.1 holds ad m c news hl hnews (by omega) (by omega) (growslice_fits (by omega) hbytes)]at r1
    injection r1 with _ hw
    subst hw
    intro b off hb hlt
    rcases hb with hb|hb
    ·injection hb with hb
     have hb':g=b:=hb
     subst hb'
     have hgl:g<w.drew.heap.size:=(Array.getElem?_eq_some_iff.1 hgg).1
     rw[World.frozen?_of_block (w:=w.drew) (heap_alloc_old w.drew _ hgl)]
     have:w.drew.heap[g]? = some (.cells cur e (0,0)):=hgg
     simp[World.frozen?,this]
    ·exact frozen_new (w:=w.drew) b off (.inr hb) hlt
theorem RWR.keep{L:Nat→Prop}{ρ ρ':Nat→Value}{H':Nat→AO}{w w':World}{k:Nat→Bool}(E:Env L ρ ρ' H H' w w' k){sz:Nat}{rows:List (List PV)}{xs:List Value}{fr:List Nat}(h:RWR w false sz rows xs fr)(hl:∀b∈fr,¬live L ρ H b):RWR w' false sz rows xs fr∧∀b∈fr,¬live L ρ' H' b:=
 ⟨RWR.same _ h (fun b hb hlt=>(E.block b hlt (hl b hb)).1),fun b hb=>(E.block b (RWR.lt _ h b hb) (hl b hb)).2⟩
theorem St.app(id:Nat){t e:TypeId}{s x:Operand}{d sz:Nat}{zs:List Value}{rows rows2:List (List PV)}{pn:Option Value}(ho:o.op=.call { callee:=.builtin .append,args:=#[s,x],argTypes:=#[t,t] })(hd:o.dst=some d)(ht:d<N)(he:elA P t=some (e,sz))(hz:zeroA P e=some zs)(hzl:zs.length=sz)(hsz:0<sz)
 (hs:ev τ s=.own id) (hH:H id=.arr ⟨e,pn⟩ sz rows) (hsrc:Src τ H x sz rows2) (hm:rows.length+rows2.length≤maxLen) (hb:(rows.length+rows2.length)*P.bytesOf e≤140737488355328) :
 St P o N τ H [id] (upd (fun s=>kil (one? id) (τ s)) d (.own id)) (upd (fun j=>(H j).kil (one? id)) id (.arr e sz (rows++rows2))):=by
 subst hzl
 obtain⟨i,z,i1,i2,i3,i4,i5⟩:=info_of hz
 obtain⟨q1,_,q3⟩:=elA_spec he
 have hsi:i.size=zs.length:=i4.trans q3
 have this:St P o N τ H [id] (updo (fun s=>kil (one? id) (τ s)) o.dst (.own id)) (upd (fun j=>(H j).kil (one? id)) id (.arr e zs.length (rows++rows2))):=St.turn id (one? id) (.own id) _ [id] (fun s hs=>by rw[hd]at hs;cases hs;exact ht) (fun{L O w0 ρ fp a w} hr=>by
  have es:=hr.ev s
  rw[hs,RV]at es
  have es:=es.2 (by rw[hH];rfl)
  have hob:=hr.ob id
  rw[hH]at hob
  obtain⟨xs,fr,b1,b2,b3,b4,_⟩:=hob
  obtain⟨a2,cap,news,fr2,s1,s2,s3,s4⟩:=hsrc.run hr
  rw[←hsi]at b3
  obtain⟨v',w',r1,r2,r3,r4,r5⟩:=append_run (P:=P) (ty:=o.type) q1 i1 i2 (by rw[i3,hsi];simp) (by omega) b3 (c:=cap) (by rw[s3.length,hsi]) s2 s3.ones hm (by rw[i5];exact hb)
  refine⟨w',v',(ρ id).ownBlock,v',_,?_,.inl rfl,r3,fun b hb=>⟨by simp,by rw[hH];rfl,hb⟩,r5,fun hk=>(by simp[one?]at hk),fun b hb=>?_,fun E=>⟨?_,?_⟩⟩
  ·simp only[execOp,ho,resolve,invoke,builtin,Sem.run_bind,Sem.run_pure,Result.andThen_ok,List.map_toArray,List.map_cons,List.map_nil,es,s1,r1]
  ·rcases r4 with q|q
   ·exact .inr ⟨by rw[hH];rfl,by rw[←q];exact hb⟩
   ·rw[q]at hb;injection hb with hb;exact .inl (Nat.le_of_eq hb)
  ·obtain⟨k1,k2⟩:=RWR.keep E b1 b2
   obtain⟨k3,k4⟩:=RWR.keep E s3 s4
   refine⟨xs++news,fr++fr2,RWR.append k1 k3,fun b hb=>?_,?_,rfl,fun u hu=>by cases hu⟩
   ·rcases List.mem_append.1 hb with hb|hb
    ·exact k2 b hb
    ·exact k4 b hb
   ·rw[List.length_append,←hsi]
    exact r2
  ·rw[RV,upd_same,upd_same]
   have:v'.oneCell'=true:=by
    rcases r2.2 with⟨q,_⟩|⟨g,cap,cur,q,_⟩<;>rw[q]<;>rfl
   exact⟨this,fun _=>rfl⟩)
 rw[hd]at this
 exact this
theorem St.app0(id:Nat){t e:TypeId}{s x:Operand}{d sz:Nat}{zs:List Value}{rows2:List (List PV)}(ho:o.op=.call { callee:=.builtin .append,args:=#[s,x],argTypes:=#[t,t] })(hd:o.dst=some d)(ht:d<N)(he:elA P t=some (e,sz))(hz:zeroA P e=some zs)(hzl:zs.length=sz)(hsz:0<sz)
 (hs:ev τ s=.p (.v (.slice none 0 0))) (hsrc:Src τ H x sz rows2) (hm:rows2.length≤maxLen) (hb:rows2.length*P.bytesOf e≤140737488355328) :
 St P o N τ H [] (upd (fun s=>kil (one? id) (τ s)) d (.own id)) (upd (fun j=>(H j).kil (one? id)) id (.arr e sz rows2)):=by
 subst hzl
 obtain⟨i,z,i1,i2,i3,i4,i5⟩:=info_of hz
 obtain⟨q1,_,q3⟩:=elA_spec he
 have hsi:i.size=zs.length:=i4.trans q3
 have this:St P o N τ H [] (updo (fun s=>kil (one? id) (τ s)) o.dst (.own id)) (upd (fun j=>(H j).kil (one? id)) id (.arr e zs.length rows2)):=St.turn id (one? id) (.own id) _ [] (fun s hs=>by rw[hd]at hs;cases hs;exact ht) (fun{L O w0 ρ fp a w} hr=>by
  have es:=hr.ev s
  rw[hs]at es
  have es:=es.v_eq
  obtain⟨a2,cap,news,fr2,s1,s2,s3,s4⟩:=hsrc.run hr
  obtain⟨v',w',r1,r2,r3,r4,r5⟩:=append_run (P:=P) (ty:=o.type) q1 i1 i2 (by rw[i3,hsi];simp) (by omega) (World.ownsRow_nil w 0 e i.size) (c:=cap) (by rw[s3.length,hsi]) s2 s3.ones (by omega) (by rw[i5,Nat.zero_add];exact hb)
  refine⟨w',v',none,v',_,?_,.inl rfl,r3,fun b hb=>(by cases hb),r5,fun hk=>(by simp[one?]at hk),fun b hb=>?_,fun E=>⟨?_,?_⟩⟩
  ·simp only[execOp,ho,resolve,invoke,builtin,Sem.run_bind,Sem.run_pure,Result.andThen_ok,List.map_toArray,List.map_cons,List.map_nil,es,s1,r1]
  ·rcases r4 with q|q
   ·rw[q]at hb;cases hb
   ·rw[q]at hb;injection hb with hb;exact .inl (Nat.le_of_eq hb)
  ·obtain⟨k3,k4⟩:=RWR.keep E s3 s4
   refine⟨news,fr2,k3,k4,?_,rfl,fun u hu=>by cases hu⟩
   rw[←hsi]
   simpa using r2
  ·rw[RV,upd_same,upd_same]
   have:v'.oneCell'=true:=by
    rcases r2.2 with⟨q,_⟩|⟨g,cap,cur,q,_⟩<;>rw[q]<;>rfl
   exact⟨this,fun _=>rfl⟩)
 rw[hd]at this
 exact this
end

def rn:List (Nat×Nat)→Nat→Option Nat
 |[],_=>none
 |(a,b)::r,i=>if i=a then some b else rn r i
def sw(r:List (Nat×Nat)):List (Nat×Nat):=r.map fun p=>(p.2,p.1)
theorem rn_mem:∀ {r:List (Nat×Nat)} {i j:Nat},rn r i=some j→(i,j)∈r
 |[],i,j,h=>by cases h
 |(a,b)::r,i,j,h=>by
  unfold rn at h
  split at h
  ·rename_i q
   injection h with h
   subst q h
   simp
  ·exact List.mem_cons_of_mem _ (rn_mem h)
theorem mem_rn:∀ {r:List (Nat×Nat)} {i j:Nat},(r.map Prod.fst).Nodup→(i,j)∈r→rn r i=some j
 |[],i,j,_,h=>by cases h
 |(a,b)::r,i,j,hn,h=>by
  unfold rn
  rw[List.map_cons,List.nodup_cons]at hn
  rcases List.mem_cons.1 h with h|h
  ·injection h with h1 h2
   subst h1 h2
   rw[if_pos rfl]
  ·rw[if_neg (fun q=>hn.1 (by rw[←q];exact List.mem_map.2 ⟨_,h,rfl⟩))]
   exact mem_rn hn.2 h
theorem rn_sw{r:List (Nat×Nat)}(h1:(r.map Prod.fst).Nodup)(h2:(r.map Prod.snd).Nodup){i j:Nat}:rn r i=some j↔rn (sw r) j=some i:=by
 have hs:((sw r).map Prod.fst)=r.map Prod.snd:=by unfold sw;rw[List.map_map];rfl
 constructor
 ·intro h
  refine mem_rn (by rw[hs];exact h2) ?_
  exact List.mem_map.2 ⟨_,rn_mem h,rfl⟩
 ·intro h
  have:=rn_mem h
  unfold sw at this
  obtain⟨p,hp,e⟩:=List.mem_map.1 this
  injection e with e1 e2
  subst e1 e2
  exact mem_rn h1 hp
mutual
def ren(r:List (Nat×Nat)):AV→AV
 |.own id=>match rn r id with|some j=>.own j|none=>.dead
 |.sub id off len=>match rn r id with|some j=>.sub j off len|none=>.dead
 |.ptr id i c=>match rn r id with|some j=>.ptr j i c|none=>.dead
 |.agg cs=>.agg (renL r cs)
 |.tup cs=>.tup (renL r cs)
 |.clo fn f cs=>.clo fn (renL r f) (renL r cs)
 |x=>x
def renL(r:List (Nat×Nat)):List AV→List AV
 |[]=>[]
 |x::xs=>ren r x::renL r xs
end
def AO.ren(r:List (Nat×Nat)):AO→AO
 |.box T p cells=>.box T p (renL r cells)
 |o=>o
theorem renL_length(r:List (Nat×Nat)):∀l,(renL r l).length=l.length
 |[]=>rfl
 |x::xs=>by rw[renL,List.length_cons,renL_length r xs,List.length_cons]
theorem AO.ren_here(r:List (Nat×Nat))(o:AO):(o.ren r).here=o.here:=by cases o<;>rfl
theorem AO.ren_len(r:List (Nat×Nat))(o:AO):(o.ren r).len=o.len:=by cases o<;>rfl
theorem AO.ren_sz(r:List (Nat×Nat))(o:AO):(o.ren r).sz=o.sz:=by
 cases o with
 |box T p cells=>exact renL_length r cells
 |_=>rfl
theorem ren_cell(r:List (Nat×Nat))(x:AV)(h:x.cell=true):(ren r x).cell=true:=by
 cases x<;>simp only[AV.cell,Bool.false_eq_true]at h<;>simp only[ren]
 all_goals first|rfl|(split<;>rfl)
theorem renL_cell(r:List (Nat×Nat)):∀(l:List AV),(∀x∈l,x.cell=true)→∀x∈renL r l,x.cell=true
 |[],h=>h
 |y::l,h=>by
  rw[renL]
  intro x hx
  rcases List.mem_cons.1 hx with rfl|hx
  ·exact ren_cell r y (h y (by simp))
  ·exact renL_cell r l (fun z hz=>h z (by simp[hz])) x hx
structure Ren(r:List (Nat×Nat))(L1:Nat→Prop)(ρ1:Nat→Value)(H1:Nat→AO)(L2:Nat→Prop)(ρ2:Nat→Value)(H2:Nat→AO):Prop where
 live:∀b,¬live L1 ρ1 H1 b→¬live L2 ρ2 H2 b
 obj:∀i j,rn r i=some j→(H2 j).here=true→(H1 i).here=true∧ρ2 j=ρ1 i∧(H2 j).len=(H1 i).len∧(H2 j).sz=(H1 i).sz
section
variable {r:List (Nat×Nat)}{L1 L2:Nat→Prop}{ρ1 ρ2:Nat→Value}{H1 H2:Nat→AO}{w:World}
mutual
theorem RV.ren(R:Ren r L1 ρ1 H1 L2 ρ2 H2):∀(x:AV) {c:Value},RV L1 ρ1 H1 w x c→RV L2 ρ2 H2 w (ren r x) c
 |.p x,c,h=>by
  rw[_root_.Go.Proofs.Yteblcdnhnckkaaa.ren]<;>try (intros;contradiction)
  rw[RV]at *
  obtain⟨fp,h1,h2⟩:=h
  exact⟨fp,h1,fun b hb=>R.live b (h2 b hb)⟩
 |.own id,c,h=>by
  rw[_root_.Go.Proofs.Yteblcdnhnckkaaa.ren]
  rw[RV]at h
  cases hr:rn r id with
  |none=>dsimp only;rw[RV];exact h.1
  |some j=>
   dsimp only
   rw[RV]
   exact⟨h.1,fun ho=>by
    obtain⟨h1,h2,_⟩:=R.obj id j hr ho
    rw[h2];exact h.2 h1⟩
 |.sub id off len,c,h=>by
  rw[_root_.Go.Proofs.Yteblcdnhnckkaaa.ren]
  rw[RV]at h
  cases hr:rn r id with
  |none=>dsimp only;rw[RV];exact h.1
  |some j=>
   dsimp only
   rw[RV]
   exact⟨h.1,fun ho=>by
    obtain⟨h1,h2,h3,h4⟩:=R.obj id j hr ho
    rw[h2,h3,h4];exact h.2 h1⟩
 |.ptr id i kk,c,h=>by
  rw[_root_.Go.Proofs.Yteblcdnhnckkaaa.ren]
  rw[RV]at h
  cases hr:rn r id with
  |none=>dsimp only;rw[RV];exact h.1
  |some j=>
   dsimp only
   rw[RV]
   exact⟨h.1,fun ho=>by
    obtain⟨h1,h2,h3,h4⟩:=R.obj id j hr ho
    rw[h2,h3,h4];exact h.2 h1⟩
 |.rp cells,c,h=>by
  rw[_root_.Go.Proofs.Yteblcdnhnckkaaa.ren]<;>try (intros;contradiction)
  rw[RV]at *
  obtain⟨b,off,cs,fp,rfl,h1,h2,h3,h4,h5⟩:=h
  exact⟨b,off,cs,fp,rfl,h1,h2,h3,R.live b h4,fun b hb=>R.live b (h5 b hb)⟩
 |.agg l,c,h=>by
  rw[_root_.Go.Proofs.Yteblcdnhnckkaaa.ren]
  rw[RV]at *
  obtain⟨cs,rfl,h1⟩:=h
  exact⟨cs,rfl,RVL.ren R l h1⟩
 |.tup l,c,h=>by
  rw[_root_.Go.Proofs.Yteblcdnhnckkaaa.ren]
  rw[RV]at *
  obtain⟨cs,rfl,h1⟩:=h
  exact⟨cs,rfl,RVL.ren R l h1⟩
 |.clo fn f l,c,h=>by
  rw[_root_.Go.Proofs.Yteblcdnhnckkaaa.ren]
  rw[RV]at *
  obtain⟨fs,cs,rfl,h1,h2⟩:=h
  exact⟨fs,cs,rfl,RVL.ren R f h1,RVL.ren R l h2⟩
 |.dead,c,h=>by
  rw[_root_.Go.Proofs.Yteblcdnhnckkaaa.ren]<;>try (intros;contradiction)
  rw[RV]at *;exact h
 |.bad,c,h=>by
  rw[_root_.Go.Proofs.Yteblcdnhnckkaaa.ren]<;>try (intros;contradiction)
  rw[RV];trivial
theorem RVL.ren(R:Ren r L1 ρ1 H1 L2 ρ2 H2):∀(x:List AV) {c:List Value},RVL L1 ρ1 H1 w x c→RVL L2 ρ2 H2 w (renL r x) c
 |[],c,h=>by rw[renL];rw[RVL]at *;exact h
 |x::xs,c,h=>by
  rw[renL]
  rw[RVL]at *
  obtain⟨c,r,rfl,h1,h2⟩:=h
  exact⟨c,r,rfl,RV.ren R x h1,RVL.ren R xs h2⟩
end
theorem OB.ren(R:Ren r L1 ρ1 H1 L2 ρ2 H2){v:Value}{f:List Nat}{o:AO}(h:OB L1 ρ1 H1 w v f o):OB L2 ρ2 H2 w v f (o.ren r):=by
 cases o with
 |box T p cells=>
  obtain⟨xs,h1,h2,h3,h4,h5⟩:=h
  exact⟨xs,RVL.ren R cells h1,renL_cell r cells h2,by rw[renL_length];exact h3,h4,h5⟩
 |arr e sz rows=>
  obtain⟨xs,fr,h1,h2,h3,h4⟩:=h
  exact⟨xs,fr,h1,fun b hb=>R.live b (h2 b hb),h3,h4⟩
 |gone=>exact h
theorem OB.only{L:Nat→Prop}{ρ:Nat→Value}{H:Nat→AO}{v:Value}{f:List Nat}{o:AO}(h:OB L ρ H w v f o){b:Nat}(hb:b∈f):o.here=true∧v.ownBlock=some b:=by
 cases o with
 |box T p cells=>obtain⟨xs,h1,h2,h3,rfl,h5⟩:=h;exact⟨rfl,by simpa[Option.mem_toList]using hb⟩
 |arr e sz rows=>obtain⟨xs,fr,h1,h2,h3,rfl,_⟩:=h;exact⟨rfl,by simpa[Option.mem_toList]using hb⟩
 |gone=>unfold OB at h;subst h;cases hb
end
def GX(P:Program)(f:FuncId)(args:List AV)(ob0:List (Nat×AO))(R:AV→List (Nat×AO)→Prop):Prop:=
 ∀(L:Nat→Prop) (w:World) (cs:List Value) (ρ:Nat→Value) (fp:Nat→List Nat),(∀b,L b→b<w.heap.size)→RVL L ρ (ofO ob0) w args cs→(∀i,OB L ρ (ofO ob0) w (ρ i) (fp i) (ofO ob0 i))→(∀i j,i≠j→∀b∈fp i,b ∉ fp j)→(∀i,∀b∈fp i,¬L b)→
  Calls P f cs.toArray w fun e w'=>∃(x:AV) (ob1:List (Nat×AO)),R x ob1∧∃(v:Value) (ρ':Nat→Value) (fp':Nat→List Nat),e=.returned v∧Chg (fun b=>∃i,b∈fp i) w w'∧RV L ρ' (ofO ob1) w' x v∧(∀i,OB L ρ' (ofO ob1) w' (ρ' i) (fp' i) (ofO ob1 i))∧(∀i j,i≠j→∀b∈fp' i,b ∉ fp' j)∧(∀i,∀b∈fp' i,((∃j,b∈fp j)∨w.heap.size≤b)∧¬L b)
def GC(P:Program)(f:FuncId)(args:List AV)(ob0:List (Nat×AO))(x:AV)(ob1:List (Nat×AO)):Prop:=GX P f args ob0 fun y o=>y=x∧o=ob1
theorem GX.mono{P:Program}{f:FuncId}{args:List AV}{ob0:List (Nat×AO)}{R R':AV→List (Nat×AO)→Prop}(h:GX P f args ob0 R)(hR:∀x ob1,R x ob1→R' x ob1):GX P f args ob0 R':=fun L w cs ρ fp h1 h2 h3 h4 h5=>
 Calls.mono (h L w cs ρ fp h1 h2 h3 h4 h5) fun e w' ⟨x,ob1,q,r⟩=>⟨x,ob1,hR x ob1 q,r⟩
def callH(r:List (Nat×Nat))(k:Nat→Bool)(ob1:List (Nat×AO))(H:Nat→AO):Nat→AO:=fun j=>match rn (sw r) j with|some i=>(ofO ob1 i).ren r|none=>(H j).kil k
def all0(r:List (Nat×Nat))(H:Nat→AO):List (Nat×AO)→Prop
 |[]=>True
 |(i,o)::l=>(∃j,rn r i=some j∧(H j).ren (sw r)=o)∧all0 r H l
theorem all0.at{r:List (Nat×Nat)}{H:Nat→AO}:∀ {l:List (Nat×AO)},all0 r H l→∀i,ofO l i=.gone∨∃j,rn r i=some j∧(H j).ren (sw r)=ofO l i
 |[],_,i=>.inl rfl
 |(i',o)::l,h,i=>by
  unfold ofO
  split
  ·rename_i q;subst q;exact .inr h.1
  ·exact all0.at h.2 i
def stays(o o':AO):Prop:=(∃T g cs T' cs',o=.box T (some g) cs∧o'=.box T' (some g) cs'∧cs'.length=cs.length)∨(∃e e' u sz rows rows',o=.arr ⟨e,some u⟩ sz rows∧o'=.arr ⟨e',some u⟩ sz rows'∧rows'.length=rows.length)
theorem stays.box{T:TypeId}{g:Value}{cs cs':List AV}(h:cs'.length=cs.length):stays (.box T (some g) cs) (.box T (some g) cs'):=.inl ⟨_,_,_,_,_,rfl,rfl,h⟩
theorem stays.arr{e:TypeId}{u:Value}{sz:Nat}{rows rows':List (List PV)}(h:rows'.length=rows.length):stays (.arr ⟨e,some u⟩ sz rows) (.arr ⟨e,some u⟩ sz rows'):=.inr ⟨_,_,_,_,_,_,rfl,rfl,h⟩
def pins(ob0 ob1:List (Nat×AO)):List Nat→Prop
 |[]=>True
 |i::l=>stays (ofO ob0 i) (ofO ob1 i)∧pins ob0 ob1 l
theorem pins.at{ob0 ob1:List (Nat×AO)}:∀ {l:List Nat},pins ob0 ob1 l→∀i∈l,stays (ofO ob0 i) (ofO ob1 i)
 |[],_,i,h=>by cases h
 |i'::l,h,i,hi=>by
  rcases List.mem_cons.1 hi with rfl|hi
  ·exact h.1
  ·exact pins.at h.2 i hi
section
variable {P:Program}{o:Oper}{N:Nat}{τ:Nat→AV}{H:Nat→AO}
theorem RR.called{L O:Nat→Prop}{w0:World}{ρ:Nat→Value}{fp:Nat→List Nat}{a:Act}{w:World}(hr:RR L O w0 N τ H ρ fp a w){r:List (Nat×Nat)}{k:Nat→Bool}{pl:List Nat}{f:FuncId}{args:List AV}{ob0:List (Nat×AO)}{R:AV→List (Nat×AO)→Prop}(hc:GX P f args ob0 R)
 (r1:(r.map Prod.fst).Nodup) (r2:(r.map Prod.snd).Nodup) (h0:all0 r H ob0) (hk:∀j,k j=false→∀i,rn (sw r) j=some i→i∈pl) (hp:∀x ob1,R x ob1→pins ob0 ob1 pl) {vs:List AV} {cs:List Value} (hv:RVL L ρ H w vs cs) (ha:renL (sw r) vs=args) :
 Calls P f cs.toArray w fun e w'=>∃(x:AV) (ob1:List (Nat×AO)),R x ob1∧∃(v:Value) (ρ':Nat→Value) (fp':Nat→List Nat),e=.returned v∧RR L O w0 N (fun t=>kil k (τ t)) (callH r k ob1 H) ρ' fp' a w'∧RV L ρ' (callH r k ob1 H) w' (ren r x) v∧
  (∀X:Nat→Bool,(∀i o,(i,o)∈ob0→∀j,rn r i=some j→X j=true)→Mv X ρ H w ρ' (callH r k ob1 H) w'):=by
 subst ha
 have hinv:∀ {i j},rn r i=some j↔rn (sw r) j=some i:=fun{i j}=>rn_sw r1 r2
 -- the callee's view
 have hH:∀i,(ofO ob0 i).here=true→∃j,rn r i=some j∧(H j).ren (sw r)=ofO ob0 i∧(H j).here=true:=fun i hi=>by
  rcases h0.at i with q|⟨j,q1,q2⟩
  ·rw[q]at hi;cases hi
  ·exact⟨j,q1,q2,by rw[←q2,AO.ren_here]at hi;exact hi⟩
 generalize hρc:(fun i=>match rn r i with|some j=>ρ j|none=>undef)=ρc
 generalize hfc:(fun i=>if (ofO ob0 i).here=true then (match rn r i with|some j=>fp j|none=>[])else [])=fc
 have eρ:∀ {i j},rn r i=some j→ρc i=ρ j:=fun{i j} h=>by rw[←hρc];simp only[h]
 have ef:∀ {i j},(ofO ob0 i).here=true→rn r i=some j→fc i=fp j:=fun{i j} h1 h2=>by rw[←hfc];simp only[h1,h2,if_true]
 have ef0:∀ {i},(ofO ob0 i).here=false→fc i=[]:=fun{i} h1=>by rw[←hfc];simp[h1]
 have fmem:∀ {i b},b∈fc i→∃j,rn r i=some j∧b∈fp j∧(ofO ob0 i).here=true∧(H j).here=true∧(ρ j).ownBlock=some b:=fun{i b} hb=>by
  cases hh:(ofO ob0 i).here with
  |false=>rw[ef0 hh]at hb;cases hb
  |true=>
   obtain⟨j,q1,q2,q3⟩:=hH i hh
   rw[ef hh q1]at hb
   exact⟨j,q1,hb,rfl,q3,((hr.ob j).only hb).2⟩
 let Lc:Nat→Prop:=fun b=>L b∨∃j,(H j).here=true∧(ρ j).ownBlock=some b∧∀i,rn r i=some j→(ofO ob0 i).here=false
 have RA:Ren (sw r) L ρ H Lc ρc (ofO ob0):=by
  refine⟨fun b hn hl=>hn ?_,fun j i hji hi=>?_⟩
  ·rcases hl with(hl|⟨j,q1,q2,_⟩)|⟨i,q1,q2⟩
   ·exact .inl hl
   ·exact .inr ⟨j,q1,q2⟩
   ·obtain⟨j,p1,p2,p3⟩:=hH i q1
    rw[eρ p1]at q2
    exact .inr ⟨j,p3,q2⟩
  ·have hij:=hinv.2 hji
   obtain⟨j',p1,p2,p3⟩:=hH i hi
   rw[hij]at p1
   injection p1 with p1
   subst p1
   exact⟨p3,eρ hij,by rw[←p2,AO.ren_len],by rw[←p2,AO.ren_sz]⟩
 have hcall:=hc Lc w cs ρc fc (fun b hb=>by
  rcases hb with hb|⟨j,q1,q2,_⟩
  ·exact Nat.lt_of_lt_of_le (hr.lo b hb) hr.chg.size
  ·exact(hr.ob j).lt b ((hr.ob j).top q1 q2)) (RVL.ren RA vs hv) (fun i=>by
  cases hh:(ofO ob0 i).here with
  |false=>
   rw[ef0 hh]
   cases ho:ofO ob0 i with
   |gone=>rfl
   |box T p cs=>rw[ho]at hh;cases hh
   |arr e sz rows=>rw[ho]at hh;cases hh
  |true=>
   obtain⟨j,p1,p2,p3⟩:=hH i hh
   have:=(hr.ob j).ren RA
   rw[p2]at this
   rw[ef hh p1,eρ p1]
   exact this) (fun i i' hne b hb hb'=>by
  obtain⟨j,p1,p2,_⟩:=fmem hb
  obtain⟨j',p1',p2',_⟩:=fmem hb'
  have hjj:j≠j':=fun q=>by
   subst q
   have e1:=hinv.1 p1
   have e2:=hinv.1 p1'
   rw[e1]at e2
   injection e2 with e2
   exact hne e2
  exact hr.dj j j' hjj b p2 p2') (fun i b hb hl=>by
  obtain⟨j,p1,p2,p3,p4,p5⟩:=fmem hb
  rcases hl with hl|⟨j',q1,q2,q3⟩
  ·exact(hr.own j b p2).2 hl
  ·by_cases e:j'=j
   ·subst e
    have:=q3 i p1
    rw[p3]at this
    cases this
   ·exact hr.dj j' j e b ((hr.ob j').top q1 q2) p2)
 refine Calls.mono hcall ?_
 rintro e w' ⟨x,ob1,hR,v,ρ',fp',rfl,g1,g2,g3,g4,g5⟩
 have hp:=hp x ob1 hR
 -- the caller's view
 generalize hρ2:(fun j=>match rn (sw r) j with|some i=>ρ' i|none=>ρ j)=ρ2
 generalize hf2:(fun j=>match rn (sw r) j with|some i=>fp' i|none=>fp j)=f2
 have eρs:∀ {i j},rn (sw r) j=some i→ρ2 j=ρ' i:=fun{i j} h=>by rw[←hρ2];simp only[h]
 have eρn:∀ {j},rn (sw r) j=none→ρ2 j=ρ j:=fun{j} h=>by rw[←hρ2];simp only[h]
 have efs:∀ {i j},rn (sw r) j=some i→f2 j=fp' i:=fun{i j} h=>by rw[←hf2];simp only[h]
 have efn:∀ {j},rn (sw r) j=none→f2 j=fp j:=fun{j} h=>by rw[←hf2];simp only[h]
 have eHs:∀ {i j},rn (sw r) j=some i→callH r k ob1 H j=(ofO ob1 i).ren r:=fun{i j} h=>by unfold callH;rw[h]
 have eHn:∀ {j},rn (sw r) j=none→callH r k ob1 H j=(H j).kil k:=fun{j} h=>by unfold callH;rw[h]
 have old:∀ {i b},b∈fp' i→(∃j,b∈fp j∧(H j).here=true∧(ρ j).ownBlock=some b∧∃i',rn r i'=some j∧(ofO ob0 i').here=true)∨w.heap.size≤b:=fun{i b} hb=>by
  rcases(g5 i b hb).1 with⟨i',hb'⟩|q
  ·obtain⟨j,p1,p2,p3,p4,p5⟩:=fmem hb'
   exact .inl ⟨j,p2,p4,p5,i',p1,p3⟩
  ·exact .inr q
 have RB:Ren r Lc ρ' (ofO ob1) L ρ2 (callH r k ob1 H):=by
  refine⟨fun b hn hl=>hn ?_,fun i j hij hj=>?_⟩
  ·rcases hl with hl|⟨j,q1,q2⟩
   ·exact .inl (.inl hl)
   ·cases hs:rn (sw r) j with
    |none=>
     rw[eHn hs,AO.kil_here]at q1
     rw[eρn hs]at q2
     refine .inl (.inr ⟨j,q1,q2,fun i hi=>?_⟩)
     rw[hinv.1 hi]at hs
     cases hs
    |some i=>
     rw[eHs hs,AO.ren_here]at q1
     rw[eρs hs]at q2
     exact .inr ⟨i,q1,q2⟩
  ·have hs:=hinv.1 hij
   rw[eHs hs]at hj ⊢
   rw[AO.ren_here]at hj
   exact⟨hj,eρs hs,AO.ren_len _ _,AO.ren_sz _ _⟩
 have hsame:∀b,b<w.heap.size→¬(∃i,b∈fc i)→w'.heap[b]? = w.heap[b]?:=g1.block
 have hliveE:∀b,b<w.heap.size→¬live L ρ H b→¬live L ρ2 (callH r k ob1 H) b:=by
  rintro b hb hn (hl|⟨j,q1,q2⟩)
  ·exact hn (.inl hl)
  ·cases hs:rn (sw r) j with
   |none=>
    rw[eHn hs,AO.kil_here]at q1
    rw[eρn hs]at q2
    exact hn (.inr ⟨j,q1,q2⟩)
   |some i=>
    rw[eHs hs,AO.ren_here]at q1
    rw[eρs hs]at q2
    rcases old ((g3 i).top q1 q2)with⟨j',p1,p2,p3,_⟩|q
    ·exact hn (.inr ⟨j',p2,p3⟩)
    ·omega
 have E:Env L ρ ρ2 H (callH r k ob1 H) w w' k:=by
  refine⟨g1.size,fun b hb hn=>⟨hsame b hb ?_,hliveE b hb hn⟩,fun j hkj hj=>?_⟩
  ·rintro⟨i,hi⟩
   obtain⟨j,p1,p2,p3,p4,p5⟩:=fmem hi
   exact hn (.inr ⟨j,p4,p5⟩)
  ·cases hs:rn (sw r) j with
   |none=>
    rw[eHn hs]at hj ⊢
    rw[AO.kil_here]at hj
    exact⟨hj,eρn hs,AO.kil_len _ _,AO.kil_sz _ _⟩
   |some i=>
    have hij:=hinv.2 hs
    have o1:=g3 i
    have o2:=hr.ob j
    rcases hp.at i (hk j hkj i hs)with⟨T,g,c0,T',c1,e1,e2,e3⟩|⟨t1,t2,u,s1,rows,rows',e1,e2,e3⟩
    ·obtain⟨j',p1,p2,p3⟩:=hH i (by rw[e1];rfl)
     rw[hij]at p1
     injection p1 with p1
     subst p1
     rw[e2]at o1
     obtain⟨_,_,_,_,_,o1⟩:=o1
     cases hHj:H j with
     |gone=>rw[hHj]at p3;cases p3
     |arr e sz rows=>rw[hHj,e1]at p2;cases p2
     |box T2 pn c2=>
      rw[hHj]at o2
      rw[hHj,e1]at p2
      have hpn:pn=some g:=by unfold AO.ren at p2;injection p2
      have hc2:renL (sw r) c2=c0:=by unfold AO.ren at p2;injection p2
      obtain⟨_,_,_,_,_,o2⟩:=o2
      refine⟨rfl,?_,?_,?_⟩
      ·rw[eρs hs,o1 g rfl,o2 g hpn]
      ·rw[eHs hs,e2];rfl
      ·rw[eHs hs,e2,AO.ren_sz]
       show c1.length=c2.length
       rw[e3,←hc2,renL_length]
    ·obtain⟨j',p1,p2,p3⟩:=hH i (by rw[e1];rfl)
     rw[hij]at p1
     injection p1 with p1
     subst p1
     rw[e2]at o1
     obtain⟨_,_,_,_,_,_,o1⟩:=o1
     cases hHj:H j with
     |gone=>rw[hHj]at p3;cases p3
     |box T p cs=>rw[hHj,e1]at p2;cases p2
     |arr e sz rows2=>
      rw[hHj]at o2
      rw[hHj,e1]at p2
      unfold AO.ren at p2
      injection p2 with p2a p2b p2c
      subst p2a p2b p2c
      obtain⟨_,_,_,_,_,_,o2⟩:=o2
      refine⟨rfl,?_,?_,?_⟩
      ·rw[eρs hs,o1 u rfl,o2 u rfl]
      ·rw[eHs hs,e2];exact e3
      ·rw[eHs hs,e2];rfl
 have hXO:∀b,(∃i,b∈fc i)→O b∨w0.heap.size≤b:=fun b ⟨i,hi⟩=>by
  obtain⟨j,p1,p2,_⟩:=fmem hi
  exact(hr.own j b p2).1
 refine⟨x,ob1,hR,v,ρ2,f2,rfl,?_,RV.ren RB x g2,fun X hX=>⟨⟨g1.size,fun b hb hn=>hsame b hb ?_⟩,fun j hj hh b hb=>?_⟩⟩
 ·refine⟨hr.chg.step (X:=fun b=>∃i,b∈fc i) g1.os g1.tape g1.output g1.size hsame hXO g1.nf,hr.size,hr.defers,fun t=>RV.env E _ (hr.tm t),fun j=>?_,fun i j hij b hb hb'=>?_,fun j b hb=>?_,hr.lo⟩
  ·cases hs:rn (sw r) j with
   |none=>
    rw[eHn hs,eρn hs,efn hs]
    refine(hr.ob j).env E (fun b hb=>hsame b ((hr.ob j).lt b hb) ?_)
    rintro⟨i,hi⟩
    obtain⟨j',p1,p2,_⟩:=fmem hi
    have hne:j≠j':=fun q=>by subst q;rw[hinv.1 p1]at hs;cases hs
    exact hr.dj j j' hne b hb p2
   |some i=>
    rw[eHs hs,eρs hs,efs hs]
    exact(g3 i).ren RB
  ·have mix:∀ {j i b},rn (sw r) j=none→b∈fp j→b∈fp' i→False:=fun{j i b} hs h1 h2=>by
    rcases old h2 with⟨j',p1,p2,p3,i',p4,_⟩|q
    ·have hne:j≠j':=fun q=>by subst q;rw[hinv.1 p4]at hs;cases hs
     exact hr.dj j j' hne b h1 p1
    ·have:=(hr.ob j).lt b h1;omega
   cases hs:rn (sw r) i with
   |none=>
    rw[efn hs]at hb
    cases hs':rn (sw r) j with
    |none=>rw[efn hs']at hb';exact hr.dj i j hij b hb hb'
    |some q=>rw[efs hs']at hb';exact mix hs hb hb'
   |some p=>
    rw[efs hs]at hb
    cases hs':rn (sw r) j with
    |none=>rw[efn hs']at hb';exact mix hs' hb' hb
    |some q=>
     rw[efs hs']at hb'
     have hpq:p≠q:=fun e=>by
      subst e
      have e1:=hinv.2 hs
      have e2:=hinv.2 hs'
      rw[e1]at e2
      injection e2 with e2
      exact hij e2
     exact g4 p q hpq b hb hb'
  ·cases hs:rn (sw r) j with
   |none=>rw[efn hs]at hb;exact hr.own j b hb
   |some i=>
    rw[efs hs]at hb
    refine⟨?_,fun hL=>(g5 i b hb).2 (.inl hL)⟩
    rcases old hb with⟨j',p1,_⟩|q
    ·exact(hr.own j' b p1).1
    ·exact .inr (Nat.le_trans hr.chg.size q)
 ·rintro⟨i,hi⟩
  obtain⟨j,p1,p2,p3,p4,p5⟩:=fmem hi
  have hmem:∃o',(i,o')∈ob0:=by
   have:∀(l:List (Nat×AO)),(ofO l i).here=true→∃o',(i,o')∈l:=by
    intro l
    induction l with
    |nil=>intro h;cases h
    |cons q l ih=>
     obtain⟨s,y⟩:=q
     intro h
     unfold ofO at h
     split at h
     ·rename_i e;subst e;exact⟨y,by simp⟩
     ·obtain⟨o',ho⟩:=ih h;exact⟨o',by simp[ho]⟩
   exact this ob0 p3
  obtain⟨o',ho'⟩:=hmem
  exact hn j (hX i o' ho' j p1) p4 p5
 ·cases hs:rn (sw r) j with
  |none=>
   rw[eHn hs,AO.kil_here]at hh
   rw[eρn hs]at hb
   exact .inr ⟨j,hj,hh,hb⟩
  |some i=>
   rw[eHs hs,AO.ren_here]at hh
   rw[eρs hs]at hb
   rcases old ((g3 i).top hh hb)with⟨j',p1,p2,p3,i',p4,p5⟩|q
   ·refine .inr ⟨j',?_,p2,p3⟩
    have:∀(l:List (Nat×AO)),(ofO l i').here=true→∃o',(i',o')∈l:=by
     intro l
     induction l with
     |nil=>intro h;cases h
     |cons q l ih=>
      obtain⟨s,y⟩:=q
      intro h
      unfold ofO at h
      split at h
      ·rename_i e;subst e;exact⟨y,by simp⟩
      ·obtain⟨o',ho⟩:=ih h;exact⟨o',by simp[ho]⟩
    obtain⟨o',ho'⟩:=this ob0 p5
    exact hX i' o' ho' j' p4
   ·exact .inl q
end

def inK(kl:List Nat):Nat→Bool:=fun j=>kl.contains j
def okK(r:List (Nat×Nat))(kl pl:List Nat):Bool:=r.all fun p=>kl.contains p.2||pl.contains p.1
theorem okK.at{r:List (Nat×Nat)}{kl pl:List Nat}(h:okK r kl pl=true):∀j,inK kl j=false→∀i,rn (sw r) j=some i→i∈pl:=fun j hj i hi=>by
 have hm:=rn_mem hi
 unfold sw at hm
 obtain⟨p,hp,e⟩:=List.mem_map.1 hm
 injection e with e1 e2
 subst e1 e2
 have:=List.all_eq_true.1 h p hp
 unfold inK at hj
 rw[hj,Bool.false_or]at this
 simpa using this
def nodupB(l:List Nat):Bool:=match l with|[]=>true|x::l=>!l.contains x&&nodupB l
theorem nodupB.nodup:∀ {l:List Nat},nodupB l=true→l.Nodup
 |[],_=>List.nodup_nil
 |x::l,h=>by
  unfold nodupB at h
  simp only[Bool.and_eq_true,Bool.not_eq_true',List.contains_eq_mem,decide_eq_false_iff_not]at h
  exact List.nodup_cons.2 ⟨h.1,nodupB.nodup h.2⟩
def exL(r:List (Nat×Nat))(ob0:List (Nat×AO)):List Nat:=ob0.filterMap fun p=>rn r p.1
section
variable {P:Program}{o:Oper}{N:Nat}{τ:Nat→AV}{H:Nat→AO}
theorem St.callX(r:List (Nat×Nat))(kl pl:List Nat){y:Operand}{l:List Operand}{ts:Array TypeId}{f:FuncId}{fn:Func}{fs caps args:List AV}{ob0:List (Nat×AO)}{R:AV→List (Nat×AO)→Prop}(ho:o.op=.call { callee:=.value y,args:=l.toArray,argTypes:=ts })(ht:∀s,o.dst=some s→s<N)
 (hy : ev τ y = .clo (.func f) fs caps) (hf : P.funcs[f]? = some fn) (hf1 : (fn.name == "runtime.NumGoroutine") = false) (hf2 : fn.body.isNone = false) (hc : GX P f args ob0 R)
 (hr:nodupB (r.map Prod.fst)=true∧nodupB (r.map Prod.snd)=true∧okK r kl pl=true) (h0:all0 r H ob0) (hp:∀x ob1,R x ob1→pins ob0 ob1 pl) (ha:renL (sw r) (fs++l.map (ev τ)++caps)=args) :
 StX P o N τ H (exL r ob0) fun τ' H'=>∃x ob1,R x ob1∧τ'=updo (fun t=>kil (inK kl) (τ t)) o.dst (ren r x)∧H'=callH r (inK kl) ob1 H:=by
 refine⟨?_⟩
 intro L O w0 ρ fp a w K Q hrr hk
 have ey:=hrr.ev y
 rw[hy,RV]at ey
 obtain⟨cf,cc,ey,e1,e2⟩:=ey
 have hv:RVL L ρ H w (fs++l.map (ev τ)++caps) (cf++l.map a.eval++cc):=(e1.append (RVL.map (fun z=>hrr.ev z) l)).append e2
 have hcall:=RR.called hrr (k:=inK kl) (pl:=pl) hc (nodupB.nodup hr.1) (nodupB.nodup hr.2.1) h0 (okK.at hr.2.2) hp hv ha
 have hrun:(execOp a.eval o).run P w=.ok (.enter f (cf++l.map a.eval++cc).toArray) w:=by
  simp only[execOp,ho,resolve,Deferred.ofValue,ey,invoke,callFunc,Sem.run_bind,Sem.run_pure,Result.andThen_ok,run_program,hf,hf1,hf2,Bool.false_eq_true,if_false,List.map_toArray,List.append_toArray]
 unfold Oper.wp
 rw[hrun]
 show Calls P f _ w _
 refine Calls.mono hcall ?_
 rintro e w' ⟨x,ob1,hR,v,ρ',fp',rfl,g1,g2,g3⟩
 refine hk _ _ _ _ _ _ ⟨x,ob1,hR,rfl,rfl⟩ (g1.puto o.dst g2 ht) (fun X hX=>g3 X (fun i o' hio j hj=>hX j ?_))
 exact List.mem_filterMap.2 ⟨_,hio,hj⟩
theorem St.call(r:List (Nat×Nat))(kl pl:List Nat){y:Operand}{l:List Operand}{ts:Array TypeId}{f:FuncId}{fn:Func}{fs caps args:List AV}{ob0 ob1:List (Nat×AO)}{x:AV}(ho:o.op=.call { callee:=.value y,args:=l.toArray,argTypes:=ts })(ht:∀s,o.dst=some s→s<N)
 (hy : ev τ y = .clo (.func f) fs caps) (hf : P.funcs[f]? = some fn) (hf1 : (fn.name == "runtime.NumGoroutine") = false) (hf2 : fn.body.isNone = false) (hc : GC P f args ob0 x ob1)
 (hr:nodupB (r.map Prod.fst)=true∧nodupB (r.map Prod.snd)=true∧okK r kl pl=true) (h0:all0 r H ob0) (hp:pins ob0 ob1 pl) (ha:renL (sw r) (fs++l.map (ev τ)++caps)=args) :
 St P o N τ H (exL r ob0) (updo (fun t=>kil (inK kl) (τ t)) o.dst (ren r x)) (callH r (inK kl) ob1 H):=by
 refine St.x ⟨fun hr' hk=>(St.callX r kl pl ho ht hy hf hf1 hf2 hc hr h0 (fun x' o' ⟨e1,e2⟩=>by rw[e2];exact hp) ha).run hr' (fun τ' H' a' w' ρ' fp' hz=>hk τ' H' a' w' ρ' fp' ?_)⟩
 obtain⟨x',o',⟨rfl,rfl⟩,e1,e2⟩:=hz
 exact⟨e1,e2⟩
inductive RVar where
 |tmp (t:Nat)
 |cell (a t:Nat) (n:Option Nat)
def resOk(P:Program):List ResultVar→List RVar→Prop
 |[],[]=>True
 |.tmp t::l,.tmp t'::l'=>t=t'∧resOk P l l'
 |.cell a t::l,.cell a' t' n::l'=>a=a'∧t=t'∧kindA P t=some n∧resOk P l l'
 |_,_=>False
def retOne(τ:Nat→AV)(H:Nat→AO):RVar→Option AV
 |.tmp t=>some (τ t)
 |.cell a _ n=>match τ a with
  |.ptr id 0 k=>match H id with
   |.box _ _ cells=>ldA n (cells.drop k)
   |_=>none
  |_=>none
def retA(τ:Nat→AV)(H:Nat→AO):List RVar→Option (List AV)
 |[]=>some []
 |r::l=>match retOne τ H r,retA τ H l with
  |some x,some xs=>some (x::xs)
  |_,_=>none
def retX(τ:Nat→AV)(H:Nat→AO)(l:List RVar):Option AV:=match retA τ H l with
 |some [x]=>some x
 |some xs=>some (.tup xs)
 |none=>none
def ofL(l:List AV):Nat→AV:=fun t=>(l[t]?).getD .bad
def EndsX(rs:List RVar)(R:AV→List (Nat×AO)→Prop):AQ:=fun e τ H=>match e with
 |.ret=>∃x ob1,R x ob1∧retX τ H rs=some x∧allO ob1 H
 |.normal=>∃x ob1,R x ob1∧retX τ H rs=some x∧allO ob1 H
 |_=>False
def Ends(rs:List RVar)(x:AV)(ob1:List (Nat×AO)):AQ:=fun e τ H=>match e with
 |.ret=>retX τ H rs=some x∧allO ob1 H
 |.normal=>retX τ H rs=some x∧allO ob1 H
 |_=>False
def resVal(tmps:Array Value):ResultVar→Sem Value
 |.tmp t=>pure (tmps.getD t undef)
 |.cell a t=>do loadVar t (←asAddr (tmps.getD a undef))
theorem results_eq(fn:Func)(tmps:Array Value):results fn tmps=(do let vs ←fn.results.mapM (resVal tmps);pure (if h:vs.size=1 then vs[0]else .tuple vs)):=by
 unfold results
 congr 1
theorem retOne_run{L O:Nat→Prop}{w0:World}{ρ:Nat→Value}{fp:Nat→List Nat}{a:Act}{w:World}(hr:RR L O w0 N τ H ρ fp a w){y:RVar}{rv:ResultVar}{x:AV}(hk:resOk P [rv] [y])(h:retOne τ H y=some x) :
 ∃c,RV L ρ H w x c∧(resVal a.tmps rv).run P w=.ok c w:=by
 cases rv with
 |tmp t=>
  cases y with
  |tmp t'=>
   obtain⟨rfl,_⟩:=hk
   injection h with h
   subst h
   exact⟨_,hr.tm t,rfl⟩
  |cell a t n=>exact hk.elim
 |cell t ty=>
  cases y with
  |tmp t'=>exact hk.elim
  |cell b t' n=>
   obtain⟨rfl,rfl,hk,_⟩:=hk
   unfold retOne at h
   dsimp only at h
   split at h
   ·rename_i id k hx
    split at h
    ·rename_i T p cells hH
     have hv:=hr.tm t
     rw[hx,RV]at hv
     obtain⟨_,g,m,cap,hg,e⟩:=hv.2 (by rw[hH];rfl)
     have hob:=hr.ob id
     rw[hH]at hob
     obtain⟨xs,k1,k2,k3,k4,_⟩:=hob
     obtain⟨hc,hlt⟩:=own_at (fp:=fp id) k3 hg
     obtain⟨c,q1,q2⟩:=ldA_run (P:=P) (b:=g) (off:=0+k) hk (RVL.drop k k1) h
     refine⟨c,q1,?_⟩
     have:=q2 w (hc.drop k)
     simp only[Instr.loadAt,Instr.sureAddr,Sem.run_bind,Sem.run_pure,Result.andThen_ok]at this
     simp only[resVal,e,asAddr,Sem.run_bind,Sem.run_pure,Result.andThen_ok,Nat.zero_mul]
     exact this
    ·cases h
   ·cases h
theorem results_run{L O:Nat→Prop}{w0:World}{ρ:Nat→Value}{fp:Nat→List Nat}{a:Act}{w:World}(hr:RR L O w0 N τ H ρ fp a w):∀(rv:List ResultVar) (rs:List RVar) (xs:List AV),resOk P rv rs→retA τ H rs=some xs→
 ∃cs,RVL L ρ H w xs cs∧(rv.mapM (resVal a.tmps)).run P w=.ok cs w
 |[],[],xs,_,h=>by
  injection h with h
  subst h
  exact⟨[],by simp[RVL],rfl⟩
 |[],_::_,xs,hk,h=>hk.elim
 |.tmp _::_,[],xs,hk,h=>hk.elim
 |.cell _ _::_,[],xs,hk,h=>hk.elim
 |rv::l,y::rs,xs,hk,h=>by
  have hk':resOk P [rv] [y]∧resOk P l rs:=by
   cases rv<;>cases y<;>first|exact hk.elim|skip
   ·exact⟨⟨hk.1,trivial⟩,hk.2⟩
   ·exact⟨⟨hk.1,hk.2.1,hk.2.2.1,trivial⟩,hk.2.2.2⟩
  unfold retA at h
  split at h
  ·rename_i x xs' h1 h2
   injection h with h
   subst h
   obtain⟨c,q1,q2⟩:=retOne_run hr hk'.1 h1
   obtain⟨cs,q3,q4⟩:=results_run hr l rs xs' hk'.2 h2
   refine⟨c::cs,by rw[RVL];exact⟨c,cs,rfl,q1,q3⟩,?_⟩
   rw[List.mapM_cons,Sem.run_bind,q2,Result.andThen_ok,Sem.run_bind,q4]
   rfl
  ·cases h
theorem OB.frozen{L:Nat→Prop}{ρ:Nat→Value}{w:World}{v:Value}{fp:List Nat}{o:AO}(h:OB L ρ H w v fp o):∀b∈fp,∀off,w.frozen? ⟨b,off,none⟩=false:=fun b hb off=>by
 have key:∀ {e sz n xs},w.ownsRow 0 e sz v n xs→v.ownBlock=some b→w.frozen? ⟨b,off,none⟩=false:=fun{e sz n xs} h1 h2=>by
  rcases h1.2 with⟨q,_⟩|⟨g,cap,cur,q,_,hg,_⟩
  ·rw[q]at h2;cases h2
  ·rw[q]at h2
   have h3:g=b:=by injection h2
   subst h3
   simp[World.frozen?,hg]
 obtain⟨_,hv⟩:=h.only hb
 cases o with
 |box T p cells=>obtain⟨xs,_,_,h3,_⟩:=h;exact key h3 hv
 |arr e sz rows=>obtain⟨xs,fr,_,_,h3,_⟩:=h;exact key h3 hv
 |gone=>unfold OB at h;subst h;cases hb
theorem GX.intro{f:FuncId}{fn:Func}{c:Code}{args:List AV}{ob0:List (Nat×AO)}{R:AV→List (Nat×AO)→Prop}{rs:List RVar}(hf:P.funcs[f]? = some fn)(hb:fn.body=some c)(hn:fn.ntmps=N)(hl:args.length≤N)(hrs:resOk P fn.results.toList rs)
 (h:∀L O w0,AW P L O w0 N c (ofL args) (ofO ob0) (EndsX rs R)):GX P f args ob0 R:=by
 intro L w cs ρ fp hL hargs hob hdj hLf
 refine calls_of_wp hf hb ?_
 have hcl:=hargs.length
 have h0:RR L (fun b=>∃i,b∈fp i) w N (ofL args) (ofO ob0) ρ fp { tmps:=cs.toArray++Array.replicate (fn.ntmps-cs.toArray.size) undef,defers:=[] } w:=by
  refine⟨Chg.refl _ w (fun b off ⟨i,hi⟩=>(hob i).frozen b hi off),?_,rfl,fun t=>?_,hob,hdj,fun i b hb=>⟨.inl ⟨i,hb⟩,hLf i b hb⟩,hL⟩
  ·simp only[Array.size_append,List.size_toArray,Array.size_replicate];omega
  ·unfold ofL
   cases ht:args[t]? with
   |none=>simp[RV]
   |some y=>
    obtain⟨u,k1,k2⟩:=RVL.get hargs ht
    have htl:t<cs.length:=(List.getElem?_eq_some_iff.1 k1).1
    have e:({ tmps:=cs.toArray++Array.replicate (fn.ntmps-cs.toArray.size) undef,defers:=[] }:Act).tmps.getD t undef=u:=by
     show (cs.toArray++Array.replicate (fn.ntmps-cs.toArray.size) undef).getD t undef=u
     rw[Array.getD_eq_getD_getElem?,Array.getElem?_append_left (by simpa using htl)]
     simp[k1]
    rw[e]
    exact k2
 refine Code.wp_mono ?_ (h L _ w ρ fp _ w h0)
 rintro e a' w' ⟨τ',H',ρ',fp',hr,hq⟩
 have fin:(∃x ob1,R x ob1∧retX τ' H' rs=some x∧allO ob1 H')→a'.defers=[]∧∃v,(results fn a'.tmps).run P w'=.ok v w'∧∃(x:AV) (ob1:List (Nat×AO)),R x ob1∧∃(v_1:Value) (ρ':Nat→Value) (fp':Nat→List Nat),Ending.returned v=.returned v_1∧Chg (fun b=>∃i,b∈fp i) w w'∧RV L ρ' (ofO ob1) w' x v_1∧(∀i,OB L ρ' (ofO ob1) w' (ρ' i) (fp' i) (ofO ob1 i))∧(∀i j,i≠j→∀b∈fp' i,b ∉ fp' j)∧(∀i,∀b∈fp' i,((∃j,b∈fp j)∨w.heap.size≤b)∧¬L b):=by
  rintro⟨x,ob1,hR,q1,q2⟩
  unfold retX at q1
  cases hra:retA τ' H' rs with
  |none=>rw[hra]at q1;cases q1
  |some xs=>
   rw[hra]at q1
   obtain⟨cs',k1,k2⟩:=results_run hr fn.results.toList rs xs hrs hra
   obtain⟨fp2,hr2,E⟩:=hr.weak (fun t=>.inr rfl) q2.weak
   have hrun:∃v,(results fn a'.tmps).run P w'=.ok v w'∧RV L ρ' H' w' x v:=by
    have e1:(fn.results.mapM (resVal a'.tmps)).run P w'=.ok cs'.toArray w':=by
     rw[←Array.toArray_toList (xs:=fn.results),List.mapM_toArray]
     simp only[Sem.run_map]
     rw[k2]
     rfl
    refine⟨if h:cs'.toArray.size=1 then cs'.toArray[0]else .tuple cs'.toArray,?_,?_⟩
    ·rw[results_eq,Sem.run_bind,e1]
     rfl
    ·have hlen:=k1.length
     split
     ·rename_i h1
      have h1':cs'.length=1:=by simpa using h1
      match xs,cs',k1,q1,hlen,h1' with
      |[y],[c],k1,q1,_,_=>
       injection q1 with q1
       subst q1
       rw[RVL]at k1
       obtain⟨c',r,e,k3,_⟩:=k1
       injection e with e1 e2
       subst e1
       exact k3
     ·rename_i h1
      have h1':cs'.length≠1:=by simpa using h1
      have hx:x=.tup xs:=by
       match xs,q1,hlen with
       |[],q1,_=>injection q1 with q1;exact q1.symm
       |[y],_,hlen=>exact absurd hlen h1'
       |_::_::_,q1,_=>injection q1 with q1;exact q1.symm
      subst hx
      rw[RV]
      exact⟨cs',rfl,k1⟩
   obtain⟨v,hrun,hx⟩:=hrun
   have hx2:=RV.env E x hx
   rw[kil_no]at hx2
   exact⟨hr.defers,v,hrun,x,ob1,hR,v,ρ',fp2,rfl,hr2.chg,hx2,hr2.ob,hr2.dj,hr2.own⟩
 unfold EndsX at hq
 cases e with
 |ret=>exact fin hq
 |normal=>exact fin hq
 |exit id=>exact hq.elim
 |goto l=>exact hq.elim
 |panic c=>exact hq.elim
 |outgrown=>exact hq.elim
theorem GC.intro{f:FuncId}{fn:Func}{c:Code}{args:List AV}{ob0 ob1:List (Nat×AO)}{x:AV}{rs:List RVar}(hf:P.funcs[f]? = some fn)(hb:fn.body=some c)(hn:fn.ntmps=N)(hl:args.length≤N)(hrs:resOk P fn.results.toList rs)
 (h:∀L O w0,AW P L O w0 N c (ofL args) (ofO ob0) (Ends rs x ob1)):GC P f args ob0 x ob1:=
 GX.intro hf hb hn hl hrs fun L O w0=>(h L O w0).mono fun e τ H q=>by
  cases e<;>first|exact q.elim|exact⟨x,ob1,⟨rfl,rfl⟩,q⟩
end
end Go.Proofs.Yteblcdnhnckkaaa

