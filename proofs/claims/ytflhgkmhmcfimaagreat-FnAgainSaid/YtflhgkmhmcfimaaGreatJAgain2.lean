/- Texts of the proof of FnFnAgain, joined: E5, E6, E7, E8, E9. -/
import Derived.Test.YtflhgkmhmcfimaaGreatJAgain1
import Derived.Laws.Tables
import Derived.Laws.CopyRow
import Derived.Maps.AppendAt
namespace Go.Proofs.YtflhgkmhmcfimaaGreat
set_option maxRecDepth 100000
open Go.RowKit
set_option linter.unusedSimpArgs false
set_option linter.unusedVariables false
def iw(P:Program)(t:TypeId):Option (TypeId×Nat):=
 match P.underlying t with
 |some (.slice e)=>if (P.underlying e).isSome=true then some (e,P.cellsOf e)else none
 |_=>none
theorem wZ{P:Program}{t e:TypeId}{sz:Nat}(h:iw P t=some (e,sz)):P.underlying t=some (.slice e)/\(∃d,P.underlying e=some d)/\P.cellsOf e=sz:=by
 unfold iw at h;split at h
 ·rename_i e' q;split at h
  ·rename_i q2;simp only[Option.some.injEq,Prod.mk.injEq]at h;obtain⟨rfl,rfl⟩:=h;exact⟨q,Option.isSome_iff_exists.1 q2,rfl⟩
  cases h
 grind
theorem RW.at{w:World}{e:TypeId}{sz i:Nat}{rows:List (List PV)}{row:List PV}{c:Value}{fp:List Nat}(h:RW w false (.ab e sz rows) c fp)(hr:rows[i]? = some row) :
 ∃b off cap cs fr,c=.slice (some ⟨b,off,none⟩) rows.length cap/\bP w false row cs fr/\jo w b (off+i*sz) cs/\b<w.heap.size/\b∈fp/\fr ⊆ fp:=by
 rw[RW]at h
 obtain⟨xs,f1,f2,V,h2,rfl⟩:=h
 unfold iF at h2
 simp only[Bool.false_eq_true,if_false]at h2
 obtain⟨a,cap,rfl,_,_,h2⟩:=h2
 have ul:i<rows.length:=(List.getElem?_eq_some_iff.1 hr).1
 rcases h2 with⟨q,_⟩|⟨b,off,rfl,hc,hb,rfl⟩
 ·omega
 obtain⟨c1,cr,c2,g1,gr,g2,rfl,rfl,k1,k2,k3,_⟩:=bI.row V hr
 exact⟨b,off,cap,cr,gr,rfl,k3,hc.Hp k1,hb,by simp,fun x hx=>by simp[hx]⟩
section
variable {P:Program}{o:Oper}{τ:Nat->AV}{H:Nat->AO}{X:Nat->Bool}
theorem yt{t e e':TypeId}{x y:Operand}{k:IntKind}{sz i:Nat}{n:Int}{rows:List (List PV)}{row:List PV}(ho:o.op=.indexAddr t x y)(ht:iw P t=some (e,sz))(hx:ev τ x=.p (.ab e' sz rows))(hy:ev τ y=.p (.v (.int k n)))(hn:n=(i:Int))(um:rows[i]? = some row):Rd P o τ H X (.rp row):=by
 subst hn;obtain⟨q1,⟨d,q2⟩,q3⟩:=wZ ht;apply Rd.pure;intro L ρ a w he _;have h:=he x;rw[hx,RV]at h;obtain⟨fp,V,h2⟩:=h;have h3:=he y;rw[hy]at h3;obtain⟨b,off,cap,cs,fr,e1,k1,k2,k3,k4,k5⟩:=V.at um;have ul:i<rows.length:=(List.getElem?_eq_some_iff.1 um).1;exact⟨_,by rw[RV];grind,Mk ho q1 q2 q3 e1 h3.gd ul⟩
theorem pu{t e:TypeId}{e':ga}{x y:Operand}{k:IntKind}{sz i id:Nat}{n:Int}{rows:List (List PV)}(ho:o.op=.indexAddr t x y)(ht:iw P t=some (e,sz))(hx:ev τ x=.own id)(hH:H id=.ai e' sz rows)(hy:ev τ y=.p (.v (.int k n)))(hn:n=(i:Int))(hi:i<rows.length):Rd P o τ H X (.ptr id i 0):=by
 subst hn;obtain⟨q1,⟨d,q2⟩,q3⟩:=wZ ht;apply Rd.pure;intro L ρ a w he bY;have h:=he x;rw[hx,RV]at h;have h0:=h.2 x_122;have h3:=he y;rw[hy]at h3;obtain⟨fp,hO⟩:=bY id;rw[hH]at hO;obtain⟨xs,fr,_,_,jE,_⟩:=hO;rcases jE.2 with⟨q,q'⟩|⟨g,cap,cur,q,_⟩
 ·omega
 have e1:a.eval x=.slice (some ⟨g,0,none⟩) rows.length cap:=h0.trans q;refine⟨_,?_,Mk ho q1 q2 q3 e1 h3.gd hi⟩;rw[RV,hH];exact⟨rfl,fun _=>⟨hi,g,_,cap,q,by simp[AO.sz]⟩⟩
def xd(τ:Nat->AV)(d:Nat):Option Operand->Nat->Prop
 |none,n=>n=d
 |some y,n=>∃k,ev τ y=.p (.v (.int k (n:Int)))
theorem Hq{t e:TypeId}{x:Operand}{lo hi:Option Operand}{sz l h n cap:Nat}{b:Option Addr}{L:Nat->Prop}{ρ:Nat->Value}{a:Act}{w:World}(he:∀y,RV L ρ H w (ev τ y) (a.eval y))(ho:o.op=.slice t x lo hi none)(ht:iw P t=some (e,sz))(gH:xd τ 0 lo l)(un:xd τ n hi h)(oa:l<=h)(hn:h<=n)(hc:n<=cap)
 (e1:a.eval x=.slice b n cap) (W:World):(execOp a.eval o).run P W=.ok (.value (.slice (if cap=l then b else b.map (·.add (l*sz))) (h-l) (cap-l))) W:=by
 obtain⟨q1,⟨d,q2⟩,q3⟩:=wZ ht
 have bh:∀(code:BoundsCode) (y:Operand) (m:Nat),xd τ n (some y) h->h<=m->(Instr.sliceBound (a.eval y) m code).run P W=.ok h W:=fun code y m hb hm=>by
  obtain⟨k,hb⟩:=hb;have:=he y;rw[hb]at this;rw[this.gd];have q:(0:Int)<=(h:Int)/\(h:Int)<=(m:Int):=x_99;simp[Instr.sliceBound,asIntOf,q,hm]
 have bl:∀(code:BoundsCode) (y:Operand) (m:Nat),xd τ 0 (some y) l->l<=m->(Instr.sliceBound (a.eval y) m code).run P W=.ok l W:=fun code y m hb hm=>by
  obtain⟨k,hb⟩:=hb;have:=he y;rw[hb]at this;rw[this.gd];have q:(0:Int)<=(l:Int)/\(l:Int)<=(m:Int):=x_99;simp[Instr.sliceBound,asIntOf,q,hm]
 have key:(Instr.sliceBounds true n cap (lo.map a.eval) (hi.map a.eval) none).run P W=.ok (l,h,cap) W:=by
  unfold Instr.sliceBounds;cases hi with
  |none=>
   have hh:h=n:=un;subst hh;cases lo with
   |none=>have hl:l=0:=gH;subst hl;simp
   |some y=>simp[bl _ y h gH oa]
  |some z=>
   cases lo with
   |none=>have hl:l=0:=gH;subst hl;simp[bh _ z cap un x_2]
   |some y=>simp[bh _ z cap un x_2,bl _ y h gH oa]
 simp_all[execOp,Instr.sliceAt,Instr.slice,run_underlying,B3]
theorem p6{t e e':TypeId}{x:Operand}{lo hi:Option Operand}{sz l h:Nat}{rows:List (List PV)}(ho:o.op=.slice t x lo hi none)(ht:iw P t=some (e,sz))(hx:ev τ x=.p (.ab e' sz rows))(gH:xd τ 0 lo l)(un:xd τ rows.length hi h)(oa:l<=h)(hn:h<=rows.length) :
 Rd P o τ H X (.p (.ab e' sz ((rows.take h).drop l))):=by
 apply Rd.pure;intro L ρ a w he bY
 have hv:=he x
 rw[hx,RV]at hv
 obtain⟨fp,V,h2⟩:=hv
 rw[RW]at V
 obtain⟨xs,f1,f2,k1,k2,rfl⟩:=V
 unfold iF at k2
 simp only[Bool.false_eq_true,if_false]at k2
 obtain⟨b,cap,e1,c1,c2,k2⟩:=k2
 refine⟨_,?_,Hq he ho ht gH un oa hn c1 e1⟩
 obtain⟨g1,t1,t2⟩:=k1.take h
 obtain⟨g2,t3,t4⟩:=t1.drop l
 have hlen:((rows.take h).drop l).length=h-l:=by rw[List.length_drop,List.length_take];omega
 rw[RV]
 rcases k2 with⟨q,rfl⟩|⟨blk,off,rfl,hc,hb,rfl⟩
 ·refine⟨[]++g2,?_,fun b hb=>h2 b ?_⟩
  ·rw[RW]
   refine⟨_,[],g2,t3,?_,rfl⟩
   unfold iF
   simp only[Bool.false_eq_true,if_false]
   exact⟨_,_,by rw[hlen],by rw[hlen];omega,by omega,.inl ⟨by rw[hlen];omega,trivial⟩⟩
  grind
 by_cases hz:h-l=0
 ·refine⟨[]++g2,?_,fun b hb=>h2 b ?_⟩
  ·rw[RW]
   refine⟨_,[],g2,t3,?_,rfl⟩
   unfold iF
   simp only[Bool.false_eq_true,if_false]
   exact⟨_,_,by rw[hlen],by rw[hlen];omega,by omega,.inl ⟨by rw[hlen];omega,trivial⟩⟩
  grind
 refine⟨[blk]++g2,?_,fun b hb=>h2 b ?_⟩
 ·rw[RW]
  refine⟨_,[blk],g2,t3,?_,rfl⟩
  unfold iF
  simp only[Bool.false_eq_true,if_false]
  refine⟨_,_,by rw[hlen],by rw[hlen];omega,by omega,.inr ⟨blk,off+l*sz,?_,?_,hb,rfl⟩⟩
  ·rw[if_neg x_2]
   show some ((⟨blk,off,none⟩:Addr).add (l*sz))=_
   unfold Addr.add;split<;>simp_all
  refine jo.drop ?_ _
  intro j v hj
  rw[List.getElem?_take]at hj
  split at hj
  ·exact hc j v hj
  cases hj
 grind
theorem tW{t e:TypeId}{e':ga}{x:Operand}{lo hi:Option Operand}{sz l h id:Nat}{rows:List (List PV)}(ho:o.op=.slice t x lo hi none)(ht:iw P t=some (e,sz))(hx:ev τ x=.own id)(hH:H id=.ai e' sz rows)(gH:xd τ 0 lo l)(un:xd τ rows.length hi h)(oa:l<=h)(hn:h<=rows.length) :
 Rd P o τ H X (.sub id l (h-l)):=by
 apply Rd.pure;intro L ρ a w he bY
 have hv:=he x
 rw[hx,RV]at hv
 have h0:=hv.2 x_122
 obtain⟨fp,hO⟩:=bY id
 rw[hH]at hO
 obtain⟨xs,fr,_,_,jE,_⟩:=hO
 rcases jE.2 with⟨q,q'⟩|⟨g,cap,cur,q,_,_,c1,c2,_⟩
 ·refine⟨_,?_,Hq he ho ht gH un oa hn (Nat.le_of_eq q') (by rw[h0,q,q'])⟩
  rw[RV,hH]
  grind
 refine⟨_,?_,Hq he ho ht gH un oa hn c1 (h0.trans q)⟩
 rw[RV,hH]
 refine⟨rfl,fun _=>⟨by simp only[AO.len];omega,_,_,rfl,by omega,by omega,fun hp=>⟨g,_,cap,q,?_⟩⟩⟩
 rw[if_neg x_2]
 grind[Addr.add,AO.sz]
theorem Sl{x y:Operand}{ts:Array TypeId}{r:AV}(ho:o.op=.call { callee:=.builtin .min,args:=#[x,y],argTypes:=ts })(h:Ml false (ev τ x) (ev τ y)=some r):Rd P o τ H X r:=by
 apply Rd.pure;intro L ρ a w he _;have hx:=he x;have hy:=he y;generalize ev τ x=vx at *;generalize ev τ y=vy at *;unfold Ml at h;split at h
 ·injection h with h;subst h;refine⟨_,fX rfl,fun W=>?_⟩;rename_i k a' k' b';have:(if b'<a' then b' else a')=min a' b':=by omega
  simp[execOp,ho,resolve,invoke,builtin,Builtin.min_,Builtin.min2,hx.gd,hy.gd,this]
 grind
theorem aeJ{x y:Operand}{ts:Array TypeId}{r:AV}(ho:o.op=.call { callee:=.builtin .max,args:=#[x,y],argTypes:=ts })(h:Ml true (ev τ x) (ev τ y)=some r):Rd P o τ H X r:=by
 apply Rd.pure;intro L ρ a w he _;have hx:=he x;have hy:=he y;generalize ev τ x=vx at *;generalize ev τ y=vy at *;unfold Ml at h;split at h
 ·injection h with h;subst h;refine⟨_,fX rfl,fun W=>?_⟩;rename_i k a' k' b';have:(if a'<b' then b' else a')=max a' b':=by omega
  simp[execOp,ho,resolve,invoke,builtin,Builtin.max_,Builtin.max2,hx.gd,hy.gd,this]
 cases h
theorem bf.map{L:Nat->Prop}{ρ:Nat->Value}{w:World}{a:Act}(he:∀y,RV L ρ H w (ev τ y) (a.eval y)):∀l:List Operand,bf L ρ H w (l.map (ev τ)) (l.map a.eval)
 |[]=>by rfl
 |x::l=>by
  rw[List.map_cons,List.map_cons,bf];exact⟨_,_,rfl,he x,bf.map he l⟩
theorem K0{fn:Fn}{f cs:List Operand}(ho:o.op=.makeFunc fn f.toArray cs.toArray):Rd P o τ H X (.fQ fn (f.map (ev τ)) (cs.map (ev τ))):=by
 apply Rd.pure;intro L ρ a w he _;refine⟨.func fn (f.map a.eval).toArray (cs.map a.eval).toArray,by rw[RV];exact⟨_,_,rfl,bf.map he f,bf.map he cs⟩,fun W=>?_⟩;simp[execOp,ho,Instr.makeFunc]
theorem Ep{L:Nat->Prop}{ρ:Nat->Value}{w:World}{x:AV}{c:Value}{l:List AV}(h:RV L ρ H w x c)(hl:o0 x=some l):bf L ρ H w l c.cells.toList/\(∀y∈l,y.cell=true):=by
 have key:x.cell=true->l=[x]->bf L ρ H w l c.cells.toList/\(∀y∈l,y.cell=true):=fun V h2=>by
  subst h2;have:=h.one V;have hc:c.cells=#[c]:=by cases c<;>first|rfl|cases this
  simp_all[bf]
 cases x with
 |agg l'=>
  simp only[o0]at hl;split at hl
  ·rename_i ha;injection hl with hl;subst hl;rw[RV]at h;obtain⟨cs,rfl,h⟩:=h;exact⟨by simpa[Value.cells]using h,by simpa using ha⟩
  grind
 |au _=>cases hl
 |bad=>cases hl
 |p x=>exact key rfl (by grind[o0])
 |own _=>exact key rfl (by grind[o0])
 |sub _ _ _=>exact key rfl (by grind[o0])
 |ptr _ _ _=>exact key rfl (by grind[o0])
 |rp _=>exact key rfl (by grind[o0])
 |fQ _ _ _=>exact key rfl (by grind[o0])
 |dead=>exact key rfl (by grind[o0])
def qp(P:Program)(t:TypeId):Option (List Value×List (Nat×Nat)):=
 match P.info? t,P.underlying t with
 |some it,some (.struct fields)=>
  match it.zero,fields.toList.mapM (fun f=>(P.info? f.type).map fun i=>(f.offset,i.size))with
  |some z,some Er=>some (z.cells.toList,Er)
  |_,_=>none
 |_,_=>none
def Aw(place:Nat->Option (Nat×Nat))(τ:Nat->AV):List (Nat×Operand)->Option (List (Nat×Nat×AV))
 |[]=>some []
 |(i,x)::r=>match place i,Aw place τ r with
  |some (off,n),some l=>some ((off,n,ev τ x)::l)
  |_,_=>none
theorem x_74{p:Prop}(c:p:=by simp;omega):p:=c
theorem foldl_set:∀(vs:List Value) (j off:Nat) (cells:Array Value),off+j+vs.length<=cells.size->
 ((vs.zipIdx j).foldl (fun(cs:Array Value) (p:Value×Nat)=>cs.setIfInBounds (off+p.2) p.1) cells).toList=cells.toList.take (off+j)++vs++cells.toList.drop (off+j+vs.length)
 |[],j,off,cells,h=>by simp
 |v::vs,j,off,cells,h=>by
  rw[List.zipIdx_cons,List.foldl_cons,foldl_set vs (j+1) off _ (by simp at h ⊢;omega)];simp only[Array.toList_setIfInBounds,List.length_cons];have V:off+j<cells.toList.length:=by simp at h ⊢;omega
  rw[show off+(j+1)=off+j+1 by omega,List.take_set,List.drop_set_of_lt x_2];rw[List.take_succ_eq_append_getElem V,List.set_append_right _ _ x_74];simp only[List.length_take,Nat.min_eq_left (Nat.le_of_lt V),Nat.sub_self,List.set_cons_zero,List.append_assoc,List.cons_append,List.nil_append];rw[show off+j+1+vs.length=off+j+(vs.length+1) by omega]
theorem Hs{L:Nat->Prop}{ρ:Nat->Value}{w:World}{a:Act}(he:∀y,RV L ρ H w (ev τ y) (a.eval y))(place:Nat->Option (Nat×Nat)):∀(parts:List (Nat×Operand)) (bp:List (Nat×Nat×AV)) (l l':List AV) (cs:Array Value),Aw place τ parts=some bp->Ax l bp=some l'->bf L ρ H w l cs.toList->
 ∃ig,Instr.fill place cs (parts.map fun p=>(p.1,a.eval p.2))=some ig/\bf L ρ H w l' ig.toList
 |[],bp,l,l',cs,V,h2,h3=>by
  injection V with V;subst V;injection h2 with h2;subst h2;exact⟨cs,rfl,h3⟩
 |(i,x)::parts,bp,l,l',cs,V,h2,h3=>by
  unfold Aw at V;split at V
  ·rename_i off n T6 hp hr;injection V with V;subst V;unfold Ax at h2;split at h2
   ·rename_i lx hl;split at h2
    ·rename_i hc;obtain⟨k1,_⟩:=Ep (he x) hl;have oF:=k1.length;have T7:=h3.length;simp only[Array.length_toList]at oF T7;obtain⟨ig,r1,r2⟩:=Hs he place parts T6 _ l' ((a.eval x).cells.zipIdx.foldl (fun cs (p:Value×Nat)=>cs.setIfInBounds (off+p.2) p.1) cs) hr h2 (by
      have:=foldl_set (a.eval x).cells.toList 0 off cs x_74;rw[<-Array.foldl_toList,Array.toList_zipIdx,this];rw[Nat.add_zero,Array.length_toList];rw[oF,hc.1];exact((h3.take off).append k1).append (h3.drop (off+n)))
     refine⟨ig,?_,r2⟩;rw[List.map_cons];unfold Instr.fill;dsimp only;rw[hp];dsimp only;split
     ·rename_i q';simp only[Bool.or_eq_true,decide_eq_true_eq]at q';omega
     exact r1
    cases h2
   cases h2
  grind
theorem cP{t:TypeId}{parts:List (Nat×Operand)}{zs:List Value}{Er:List (Nat×Nat)}{bp:List (Nat×Nat×AV)}{l:List AV}(ho:o.op=.build t parts.toArray)(hs:qp P t=some (zs,Er))(hz:zs.all (·.oneCell')=true)(V:Aw (fun i=>Er[i]?) τ parts=some bp)(h2:Ax (zs.map fun c=>.p (.v c)) bp=some l):Rd P o τ H X (.agg l):=by
 apply Rd.pure;intro L ρ a w he _;obtain⟨ig,r1,r2⟩:=Hs he _ parts bp _ l zs.toArray V h2 (by simpa using Ay zs hz);refine⟨.agg ig,by rw[RV];exact⟨ig.toList,by simp,r2⟩,fun W=>?_⟩;have hb:P.built t (parts.map fun p=>(p.1,a.eval p.2))=some ig:=by
  unfold qp at hs;unfold Program.built;split at hs
  ·rename_i it fields q1 q2;split at hs
   ·rename_i z pl q3 q4;simp only[Option.some.injEq,Prod.mk.injEq]at hs;obtain⟨rfl,rfl⟩:=hs;rw[q1,q2];dsimp only;rw[q3,q4];dsimp only;have e:(fun(i:Nat)=>pl.toArray[i]?)=(fun(i:Nat)=>pl[i]?):=funext fun i=>by first|rfl|simp
    simpa[e]using r1
   cases hs
  cases hs
 simp_all[run_build,execOp]
end

theorem St.ahH{P:Program}{o:Oper}{N:Nat}{τ:Nat->AV}{H:Nat->AO}(id:Nat)(k:Nat->Bool)(x:AV)(o':AO)(E:List Nat)(ht:∀s,o.dst=some s->s<N)
 (h:∀ {L O:Nat->Prop} {w0:World} {ρ:Nat->Value} {fp:Nat->List Nat} {a:Act} {w:World},RR L O w0 N τ H ρ fp a w->∃w' v' row c nx,(execOp a.eval o).run P w=.ok nx w'/\(nx=.value c\/(nx=.skip/\c=undef))/\
   w.grownBy w' row/\(∀b,row=some b->id∈E/\(H id).here=true/\(ρ id).ownBlock=some b)/\
   (∀b off,(row=some b\/w.heap.size<=b)->b<w'.heap.size->w'.frozen? ⟨b,off,none⟩=false)/\
   (k id=false->o'.here=true->(H id).here=true/\v'=ρ id/\o'.len=(H id).len/\o'.sz=(H id).sz)/\
   (∀b,v'.ownBlock=some b->w.heap.size<=b\/((H id).here=true/\(ρ id).ownBlock=some b))/\
   (Env L ρ (aH ρ id v') H (aH (fun j=>(H j).bq k) id o') w w' k->OB L (aH ρ id v') (aH (fun j=>(H j).bq k) id o') w' v' v'.ownBlock.toList o'/\RV L (aH ρ id v') (aH (fun j=>(H j).bq k) id o') w' x c)) :
 St P o N τ H E (mb (fun t=>bq k (τ t)) o.dst x) (aH (fun j=>(H j).bq k) id o'):=by
 refine⟨?_⟩
 intro L O w0 ρ fp a w K Q hr hk
 obtain⟨w',v',row,c,nx,V,h2,h3,h4,h5,h6,h7,h8⟩:=h hr
 have hX:∀b,row=some b->(O b\/w0.heap.size<=b)/\¬L b:=fun b hb=>hr.own id b ((hr.ob id).top (h4 b hb).2.1 (h4 b hb).2.2)
 have hc:pL O w0 w':=hr.jp.step (X:=fun b=>row=some b) h3.os h3.tape h3.output h3.size (fun b hb hn=>h3.block b hb (fun e=>hn e.symm)) (fun b hb=>(hX b hb).1) h5
 have hw:∀b,b<w.heap.size->¬((H id).here=true/\(ρ id).ownBlock=some b)->w'.heap[b]? = w.heap[b]?:=fun b hb hn=>h3.block b hb (fun e=>hn (h4 b e.symm).2)
 have hE:∃E:Env L ρ (aH ρ id v') H (aH (fun j=>(H j).bq k) id o') w w' k,True:=by
  refine⟨⟨h3.size,fun b hb hn=>⟨hw b hb (fun q=>hn (.inr ⟨id,q⟩)),?_⟩,fun j Ca hj=>?_⟩,trivial⟩
  ·rintro(hL|⟨j,k2,k3⟩)
   ·exact hn (.inl hL)
   by_cases e:j=id
   ·subst e;rw[dV]at k2 k3;rcases h7 b k3 with q|q
    ·omega
    exact hn (.inr ⟨j,q⟩)
   rw[eX _ _ e]at k2 k3;rw[sb]at k2;exact hn (.inr ⟨j,k2,k3⟩)
  by_cases e:j=id
  ·subst e;rw[dV]at hj ⊢;rw[dV];exact h6 Ca hj
  rw[eX _ _ e]at hj ⊢;rw[eX _ _ e];rw[sb]at hj;exact⟨hj,rfl,Es _ _,Et _ _⟩
 obtain⟨hE,_⟩:=hE
 obtain⟨q1,q2⟩:=h8 hE
 have gU:=hr.Cb k (id:=id) (o':=o') (v':=v') (f':=v'.ownBlock.toList) hc h3.size hw h6 (fun _=>h7) (fun _=>q1) (fun b hb=>by
  have ec:v'.ownBlock=some b:=by simpa[Option.mem_toList]using hb
  rcases h7 b ec with q|q
  ·exact⟨.inr (Nat.le_trans hr.jp.size q),fun hL=>by have:=hr.lo b hL;have:=hr.jp.size;omega⟩
  ·exact hr.own id b ((hr.ob id).top q.1 q.2)) (fun j hj b hb=>by
  have ec:v'.ownBlock=some b:=by simpa[Option.mem_toList]using hb
  rcases h7 b ec with q|q
  ·intro Ht;have:=(hr.ob j).lt b Ht;omega
  exact hr.dj id j (Ne.symm hj) b ((hr.ob id).top q.1 q.2))
 have lI:∀X:Nat->Bool,(∀i∈E,X i=true)->Mv X ρ H w (aH ρ id v') (aH (fun j=>(H j).bq k) id o') w':=fun X hX=>by
  refine⟨⟨h3.size,fun b hb hn=>h3.block b hb (fun e=>?_)⟩,fun j hj hh b hb=>?_⟩
  ·obtain⟨q1,q2,q3⟩:=h4 b e.symm;exact hn id (hX id q1) q2 q3
  by_cases e:j=id
  ·subst e;rw[dV]at hb;rcases h7 b hb with q|q
   ·exact .inl q
   exact .inr ⟨j,hj,q⟩
  rw[eX _ _ e]at hb hh;rw[sb]at hh;exact .inr ⟨j,hj,hh,hb⟩
 unfold Oper.wp
 rw[V]
 rcases h2 with rfl|⟨rfl,rfl⟩
 ·exact hk _ _ _ _ (gU.Az o.dst q2 ht) lI
 exact hk _ _ _ _ (gU.Az o.dst q2 ht) lI
theorem Mm{P:Program}{o:Oper}{N:Nat}{τ:Nat->AV}{H:Nat->AO}(id:Nat)(x:AV)(o':AO)(E:List Nat)(ht:∀s,o.dst=some s->s<N)
 (h:∀ {L O:Nat->Prop} {w0:World} {ρ:Nat->Value} {fp:Nat->List Nat} {a:Act} {w:World},RR L O w0 N τ H ρ fp a w->∃w' row c nx,(execOp a.eval o).run P w=.ok nx w'/\(nx=.value c\/(nx=.skip/\c=undef))/\
   w.grownBy w' row/\(∀b,row=some b->id∈E/\(H id).here=true/\(ρ id).ownBlock=some b)/\
   (∀b off,(row=some b\/w.heap.size<=b)->b<w'.heap.size->w'.frozen? ⟨b,off,none⟩=false)/\
   ((H id).here=true/\o'.len=(H id).len/\o'.sz=(H id).sz)/\
   (Env L ρ ρ H (aH H id o') w w' kT->OB L ρ (aH H id o') w' (ρ id) (ρ id).ownBlock.toList o'/\RV L ρ (aH H id o') w' x c)) :
 St P o N τ H E (mb τ o.dst x) (aH H id o'):=by
 have e1:(fun t=>bq kT (τ t))=τ:=funext fun t=>mf _
 have e2:(fun j=>(H j).bq kT)=H:=funext fun j=>AO.mf _
 have this:St P o N τ H E (mb (fun t=>bq kT (τ t)) o.dst x) (aH (fun j=>(H j).bq kT) id o'):=St.ahH (P:=P) (o:=o) (N:=N) (τ:=τ) (H:=H) id kT x o' E ht (fun{L O w0 ρ fp a w} hr=>by
  obtain⟨w',row,c,nx,V,h2,h3,h4,h5,h6,h7⟩:=h hr;have e3:aH ρ id (ρ id)=ρ:=funext fun j=>by unfold aH;split<;>simp_all
  refine⟨w',ρ id,row,c,nx,V,h2,h3,h4,h5,fun _ _=>⟨h6.1,rfl,h6.2⟩,fun b hb=>.inr ⟨h6.1,hb⟩,?_⟩;rw[e2,e3];exact h7)
 rw[e1,e2]at this
 exact this
def jg(P:Program)(t:TypeId):Option (List Value):=
 match P.info? t with
 |some i=>match i.zero with
  |some z=>if z.cells.all (·.oneCell')=true then some z.cells.toList else none
  |none=>none
 |none=>none
theorem Eu{P:Program}{t:TypeId}{zs:List Value}(h:jg P t=some zs):∃i z,P.info? t=some i/\i.zero=some z/\z.cells=zs.toArray/\zs.all (·.oneCell')=true/\∀u∈zs,u.oneCell'=true:=by
 unfold jg at h;split at h
 ·rename_i i hi;split at h
  ·rename_i z hz;split at h
   ·rename_i ha;injection h with h;subst h;refine⟨i,z,hi,hz,by simp,by simpa using ha,fun u hu=>?_⟩;have:=Array.all_eq_true'.1 ha u (by simpa using hu);exact this
   cases h
  cases h
 grind
theorem yR{w:World}{cs:Array Value}{T:TypeId}:∀b off,(none=some b\/w.heap.size<=b)->b<(w.alloc (.cells cs T)).heap.size->(w.alloc (.cells cs T)).frozen? ⟨b,off,none⟩=false:=fun b off V h2=>by
 have hb:b=w.heap.size:=by
  rcases V with V|V
  ·cases V
  have:(w.alloc (.cells cs T)).heap.size=w.heap.size+1:=by simp
  omega
 simp_all
theorem Ev{w:World}{cs:List Value}{T:TypeId}{sz n:Nat}(hl:cs.length=n*sz)(hn:n<=maxLen):(w.alloc (.cells cs.toArray T)).ownsRow 0 T sz (.slice (some ⟨w.heap.size,0,none⟩) n n) n cs:=
 ⟨hl,.inr ⟨w.heap.size,n,cs.toArray,rfl,Nat.zero_le _,heap_alloc_new w _,Nat.le_refl _,hn,by omega,by grind⟩⟩
section
variable {P:Program}{o:Oper}{N:Nat}{τ:Nat->AV}{H:Nat->AO}
def cK(id:Nat):Nat->Bool:=fun j=>j==id
theorem x_110{p:Prop}(c:p:=by injection hb with hb;exact .inl (Nat.le_of_eq hb)):p:=c
theorem St.alloc(id:Nat){T:TypeId}{t:Nat}{zs:List Value}(ho:o.op=.alloc T)(hd:o.dst=some t)(ht:t<N)(hz:jg P T=some zs) :
 St P o N τ H [] (aH (fun s=>bq (cK id) (τ s)) t (.ptr id 0 0)) (aH (fun j=>(H j).bq (cK id)) id (.box T none (zs.map fun c=>.p (.v c)))):=by
 obtain⟨i,z,V,h2,h3,h4,h5⟩:=Eu hz
 have this:St P o N τ H [] (mb (fun s=>bq (cK id) (τ s)) o.dst (.ptr id 0 0)) (aH (fun j=>(H j).bq (cK id)) id (.box T none (zs.map fun c=>.p (.v c)))):=St.ahH (P:=P) (o:=o) (N:=N) (τ:=τ) (H:=H) id (cK id) (.ptr id 0 0) (.box T none (zs.map fun c=>.p (.v c))) [] (fun s hs=>by rw[hd]at hs;cases hs;exact ht) (fun{L O w0 ρ fp a w} hr=>by
  refine⟨w.alloc (.cells zs.toArray T),.slice (some ⟨w.heap.size,0,none⟩) 1 1,none,.pointer (some ⟨w.heap.size,0,none⟩),_,?_,.inl rfl,World.grownBy_alloc w _ none,fun b hb=>(by cases hb),yR,fun hk=>(by simp[cK]at hk),fun b hb=>x_110,fun E=>⟨?_,?_⟩⟩
  ·simp[execOp,ho,Instr.alloc,zeroValue,typeInfo,V,h2,newVar,newRow,h3]
  ·exact⟨zs,Ay zs h4,fun y hy=>by obtain⟨c,_,rfl⟩:=List.mem_map.1 hy;rfl,by rw[List.length_map];exact Ev x_19 (by simp[maxLen]),rfl,fun g hg=>by cases hg⟩
  rw[RV,dV,dV];exact⟨rfl,fun _=>⟨by simp[AO.len],w.heap.size,1,1,rfl,by simp⟩⟩)
 rw[hd]at this
 exact this
theorem St.box(id:Nat){T:TypeId}{t:Nat}{x:Operand}{l:List AV}(ho:o.op=.box T x)(hd:o.dst=some t)(ht:t<N)(hl:o0 (ev τ x)=some l) :
 St P o N τ H [] (aH (fun s=>bq (cK id) (τ s)) t (.ptr id 0 0)) (aH (fun j=>(H j).bq (cK id)) id (.box T none (iA (cK id) l))):=by
 have this:St P o N τ H [] (mb (fun s=>bq (cK id) (τ s)) o.dst (.ptr id 0 0)) (aH (fun j=>(H j).bq (cK id)) id (.box T none (iA (cK id) l))):=St.ahH (P:=P) (o:=o) (N:=N) (τ:=τ) (H:=H) id (cK id) (.ptr id 0 0) (.box T none (iA (cK id) l)) [] (fun s hs=>by rw[hd]at hs;cases hs;exact ht) (fun{L O w0 ρ fp a w} hr=>by
  obtain⟨k1,k2⟩:=Ep (hr.ev x) hl;refine⟨w.alloc (.cells (a.eval x).cells.toList.toArray T),.slice (some ⟨w.heap.size,0,none⟩) 1 1,none,.pointer (some ⟨w.heap.size,0,none⟩),_,?_,.inl rfl,World.grownBy_alloc w _ none,fun b hb=>(by cases hb),yR,fun hk=>(by simp[cK]at hk),fun b hb=>x_110,fun E=>⟨?_,?_⟩⟩
  ·simp[execOp,ho,Instr.box,newVar,newRow]
  ·exact⟨_,bf.env E l k1,Hv _ _ k2,by rw[Ew];exact Ev (by rw[k1.length];simp) (by simp[maxLen]),rfl,fun g hg=>by cases hg⟩
  rw[RV,dV,dV];exact⟨rfl,fun _=>⟨by simp[AO.len],w.heap.size,1,1,rfl,by simp⟩⟩)
 rw[hd]at this
 exact this
theorem Mn{w:World}{e:TypeId}{sz n g m cap off:Nat}{v:Value}{xs vs:List Value}{t:TypeId}{x y:Operand}{a:Act}(ho:o.op=.store t x y)(jE:w.ownsRow 0 e sz v n xs)(hv:v=.slice (some ⟨g,0,none⟩) m cap)(hx:a.eval x=.pointer (some ⟨g,off,none⟩))(hy:(a.eval y).cells.toList=vs)
 (V:∀u∈vs,u.oneCell'=true) (gR:P.cellsOf t=vs.length) (hi:(P.info? t).isSome=true) (vz:off+vs.length<=xs.length) :
 ∃w',(execOp a.eval o).run P w=.ok .skip w'/\w.grownBy w' (some g)/\(∀b o',(some g=some b\/w.heap.size<=b)->b<w'.heap.size->w'.frozen? ⟨b,o',none⟩=false)/\w'.ownsRow 0 e sz v n (xs.take off++vs++xs.drop (off+vs.length)):=by
 subst hv
 rcases jE.2 with⟨q,_⟩|⟨g',uh,cur,q,_,hg,hnc,bC,pI,qO⟩
 ·cases q
 injection q with q1 q2 q3
 injection q1 with q1
 injection q1 with q1
 subst q1 q2 q3
 have uc:xs.length<=cur.size:=by rw[jE.1,pI];exact Nat.mul_le_mul_right _ hnc
 have dM:=run_storeCells_at P g off e vs 0 cur w hg x_2 V
 simp only[Nat.add_zero]at dM
 obtain⟨i,hi⟩:=Option.isSome_iff_exists.1 hi
 have hs:(sizeOf t).run P w=.ok vs.length w:=by
  rw[<-gR];simp[sizeOf,typeInfo,hi,Program.cellsOf]
 have T8:(a.eval y).cells.size=vs.length:=by rw[<-hy];simp
 have Ei:g<w.heap.size:=(Array.getElem?_eq_some_iff.1 hg).1
 refine⟨w.setRow g (cur.toList.take off++vs++cur.toList.drop (off+vs.length)).toArray,?_,⟨rfl,rfl,rfl,by simp,fun b hb bO=>setRow_other w g b _ (fun e=>bO (by rw[e]))⟩,fun b o' hb eI=>?_,?_⟩
 ·simp_all[execOp,Instr.storeAt,Instr.sureAddr,storeVar]
 ·have te:b=g:=by
   rcases hb with hb|hb
   ·grind
   grind[setRow_size]
  subst te
  simp[World.frozen?,setRow_heap w b cur _ e _ hg]
 have T9:xs=cur.toList.take (m*sz):=qO.symm
 have hms:xs.length=m*sz:=jE.1
 refine⟨?_,.inr ⟨g,cap,_,rfl,Nat.zero_le _,setRow_heap w g cur _ e _ hg,hnc,bC,?_,?_⟩⟩
 ·grind
 ·grind
 rw[T9]
 apply List.ext_getElem?
 grind
theorem Ua(id:Nat){t T:TypeId}{x y:Operand}{k:Nat}{p:Option Value}{cells l:List AV}(ho:o.op=.store t x y)(hd:o.dst=none)(hx:ev τ x=.ptr id 0 k)(hH:H id=.box T p cells)(hl:o0 (ev τ y)=some l)(gR:P.cellsOf t=l.length)(hi:(P.info? t).isSome=true)(vz:k+l.length<=cells.length) :
 St P o N τ H [id] τ (aH H id (.box T p (cells.take k++l++cells.drop (k+l.length)))):=by
 have hlen:(cells.take k++l++cells.drop (k+l.length)).length=cells.length:=by simp only[List.length_append,List.length_take,List.length_drop];omega
 have this:St P o N τ H [id] (mb τ o.dst .bad) (aH H id (.box T p (cells.take k++l++cells.drop (k+l.length)))):=Mm (P:=P) (o:=o) (N:=N) (τ:=τ) (H:=H) id .bad (.box T p (cells.take k++l++cells.drop (k+l.length))) [id] (fun s hs=>by grind) (fun{L O w0 ρ fp a w} hr=>by
  obtain⟨k1,k2⟩:=Ep (hr.ev y) hl;have hv:=hr.ev x;rw[hx,RV,hH]at hv;obtain⟨_,g,m,cap,hg,he⟩:=hv.2 rfl;have bY:=hr.ob id;rw[hH]at bY;obtain⟨xs,b1,b2,b3,b4,b5⟩:=bY;have uc:=b1.length;have rl:=k1.length;obtain⟨w',r1,r2,r3,r4⟩:=Mn (P:=P) (vs:=(a.eval y).cells.toList) (off:=k) ho b3 hg (by rw[he];simp) rfl (k1.uo k2) (by rw[gR,rl]) hi (by rw[uc,rl];omega);refine⟨w',some g,undef,_,r1,.inr ⟨rfl,rfl⟩,r2,fun b hb=>⟨by simp,by rw[hH];rfl,by rw[hg,<-hb];rfl⟩,r3,⟨by rw[hH];rfl,by rw[hH];rfl,by rw[hH];exact hlen⟩,fun E=>⟨?_,by simp[RV]⟩⟩;have e1:=bf.env E _ b1;have e2:=bf.env E _ k1;rw[yU]at e1 e2;refine⟨_,((e1.take k).append e2).append (e1.drop (k+l.length)),fun z hz=>?_,?_,rfl,b5⟩;all_goals grind)
 rw[hd]at this
 exact this
theorem Hw{L:Nat->Prop}{ρ:Nat->Value}{w:World}:∀ {l:List PV} {cs:List Value},bf L ρ H w (l.map AV.p) cs->∃fp,bP w false l cs fp/\∀b∈fp,¬live L ρ H b
 |[],cs,h=>by simp_all[bf,bP]
 |x::l,cs,h=>by
  rw[List.map_cons,bf]at h;obtain⟨c,r,rfl,V,h2⟩:=h;rw[RV]at V;obtain⟨f1,V,q1⟩:=V;obtain⟨f2,h2,q2⟩:=Hw h2;refine⟨f1++f2,by rw[bP];exact⟨c,r,f1,f2,rfl,rfl,V,h2⟩,fun b hb=>?_⟩;grind
theorem bP.Hy{w:World}{st:Bool}:∀ {x y:List PV} {c d:List Value} {f g:List Nat},bP w st x c f->bP w st y d g->bP w st (x++y) (c++d) (f++g)
 |[],y,c,d,f,g,h,k=>by simp_all[bP]
 |x::xs,y,c,d,f,g,h,k=>by
  rw[bP]at h;obtain⟨c,r,f1,f2,rfl,rfl,V,h2⟩:=h;rw[List.cons_append,bP];exact⟨c,r++d,f1,f2++g,by simp,by simp,V,bP.Hy h2 k⟩
theorem Ub(id:Nat){t:TypeId}{e:ga}{x y:Operand}{i k sz:Nat}{rows:List (List PV)}{row pl:List PV}(ho:o.op=.store t x y)(hd:o.dst=none)(hx:ev τ x=.ptr id i k)(hH:H id=.ai e sz rows)(um:rows[i]? = some row)(hl:o0 (ev τ y)=some (pl.map AV.p))(gR:P.cellsOf t=pl.length)(hi:(P.info? t).isSome=true)(vz:k+pl.length<=sz) :
 St P o N τ H [id] τ (aH H id (.ai e sz (rows.set i (row.take k++pl++row.drop (k+pl.length))))):=by
 have this:St P o N τ H [id] (mb τ o.dst .bad) (aH H id (.ai e sz (rows.set i (row.take k++pl++row.drop (k+pl.length))))):=Mm (P:=P) (o:=o) (N:=N) (τ:=τ) (H:=H) id .bad (.ai e sz (rows.set i (row.take k++pl++row.drop (k+pl.length)))) [id] (fun s hs=>by grind) (fun{L O w0 ρ fp a w} hr=>by
  obtain⟨k1,k2⟩:=Ep (hr.ev y) hl;have hv:=hr.ev x;rw[hx,RV,hH]at hv;obtain⟨ul,g,m,cap,hg,he⟩:=hv.2 rfl;have bY:=hr.ob id;rw[hH]at bY;obtain⟨xs,fr,b1,b2,b3,b4,b5⟩:=bY;have rl:=k1.length;rw[List.length_map]at rl;obtain⟨c1,cr,c2,f1,f2,f3,rfl,rfl,l1,l2,l3,l4⟩:=bI.row b1 um;have uc:=b3.1;have wK:i*sz+sz<=rows.length*sz:=by
   have V:(i+1)*sz<=rows.length*sz:=Nat.mul_le_mul_right _ ul;rw[Nat.add_mul]at V;omega
  simp only[List.length_append]at uc;obtain⟨w',r1,r2,r3,r4⟩:=Mn (P:=P) (vs:=(a.eval y).cells.toList) (off:=i*sz+k) ho b3 hg (by rw[he];simp[AO.sz]) rfl (k1.uo k2) (by rw[gR,rl]) hi (by simp only[List.length_append];rw[rl];omega);refine⟨w',some g,undef,_,r1,.inr ⟨rfl,rfl⟩,r2,fun b hb=>⟨by simp,by rw[hH];rfl,by rw[hg,<-hb];rfl⟩,r3,⟨by rw[hH];rfl,by rw[hH];simp[AO.len],by rw[hH];rfl⟩,fun E=>⟨?_,by simp[RV]⟩⟩;obtain⟨fv,v1,v2⟩:=Hw k1;have hrl:row.length=sz:=by rw[<-l3.length,l2]
  obtain⟨g1,t1,t2⟩:=l3.take k;obtain⟨g2,t3,t4⟩:=l3.drop (k+pl.length);have nW:=l4 (row.take k++pl++row.drop (k+pl.length)) _ _ (by simp only[List.length_append,List.length_take,List.length_drop];omega) ((t1.Hy v1).Hy t3);have tN:∀b∈f1++(g1++fv++g2)++f3,¬live L ρ H b:=fun b hb=>by
   simp only[List.mem_append]at hb;rcases hb with(hb|(hb|hb)|hb)|hb
   ·exact b2 b (by simp[hb])
   ·exact b2 b (by simp[t2 hb])
   ·exact v2 b hb
   ·exact b2 b (by simp[t4 hb])
   exact b2 b (by simp[hb])
  refine⟨_,_,bI.same _ nW (fun b hb eI=>(E.block b eI (tN b hb)).1),fun b hb=>(E.block b (bI.lt _ nW b hb) (tN b hb)).2,?_,rfl,b5⟩;rw[List.length_set];rw[rl]at r4;have e:(c1++cr++c2).take (i*sz+k)++(a.eval y).cells.toList++(c1++cr++c2).drop (i*sz+k+pl.length)=c1++(cr.take k++(a.eval y).cells.toList++cr.drop (k+pl.length))++c2:=by
   have d1:(c1++cr++c2).take (i*sz+k)=c1++cr.take k:=by
    rw[List.append_assoc,List.take_append,List.take_of_length_le x_2,l1,Nat.add_sub_cancel_left,List.take_append_of_le_length x_2]
   have d2:(c1++cr++c2).drop (i*sz+k+pl.length)=cr.drop (k+pl.length)++c2:=by
    rw[List.append_assoc,List.drop_append,List.drop_eq_nil_of_le x_2,l1,show i*sz+k+pl.length-i*sz=k+pl.length by omega,List.nil_append,List.drop_append_of_le_length x_2]
   rw[d1,d2];simp[List.append_assoc]
  grind)
 rw[hd]at this
 exact this
end

theorem bP.split{w:World}{st:Bool}:∀ {x y:List PV} {cs:List Value} {fp:List Nat},bP w st (x++y) cs fp->∃c d f g,cs=c++d/\fp=f++g/\bP w st x c f/\bP w st y d g
 |[],y,cs,fp,h=>⟨[],cs,[],fp,rfl,rfl,by simp[bP],h⟩
 |x::xs,y,cs,fp,h=>by
  rw[List.cons_append,bP]at h;obtain⟨c,r,f1,f2,rfl,rfl,V,h2⟩:=h;obtain⟨c',d',f',g',rfl,rfl,h3,h4⟩:=bP.split h2;exact⟨c::c',d',f1++f',g',by simp,by simp,by rw[bP];grind,h4⟩
theorem Mo{w:World}{st:Bool}{sz:Nat}:∀ {rows:List (List PV)} {cs:List Value} {fp:List Nat},bP w st rows.flatten cs fp->(∀r∈rows,r.length=sz)->bI w st sz rows cs fp
 |[],cs,fp,h,_=>by trivial
 |r::rows,cs,fp,h,hr=>by
  rw[List.flatten_cons]at h;obtain⟨c,d,f,g,rfl,rfl,V,h2⟩:=h.split;rw[bI];exact⟨hr r x_19,c,d,f,g,rfl,rfl,V,Mo h2 (fun q hq=>hr q (by simp[hq]))⟩
theorem Hz{w:World}{st:Bool}:∀(cs:List Value),(∀u∈cs,u.oneCell'=true)->bP w st (cs.map PV.v) cs []
 |[],_=>by simp[bP]
 |c::r,h=>by
  rw[List.map_cons,bP];exact⟨c,r,[],[],rfl,rfl,by simp_all[RW],Hz r (fun u hu=>h u (by simp[hu]))⟩
theorem Mp(zs:List Value)(n:Nat):(madeCells zs.toArray (n*zs.length)).toList=(List.replicate n zs).flatten:=by
 induction n with
 |zero=>simp[madeCells]
 |succ n ih=>
  have e:(List.range ((n+1)*zs.length)).map (fun i=>zs.toArray[i%zs.toArray.size]!)=(List.range (n*zs.length)).map (fun i=>zs.toArray[i%zs.toArray.size]!)++zs:=by
   rw[Nat.add_mul,Nat.one_mul,List.range_add,List.map_append,List.map_map];congr 1;apply List.ext_getElem
   ·simp
   intro i V h2;simp only[List.length_map,List.length_range]at V;simp only[List.getElem_map,List.getElem_range,Function.comp,List.size_toArray];rw[Nat.mul_comm,Nat.mul_add_mod,Nat.mod_eq_of_lt V];simp[V]
  simp_all[madeCells,List.replicate_succ']
theorem bI.dg{w:World}{st:Bool}{zs:List Value}(V:∀u∈zs,u.oneCell'=true):∀n,bI w st zs.length (List.replicate n (zs.map PV.v)) (List.replicate n zs).flatten []
 |0=>by simp[bI]
 |n+1=>by
  rw[List.replicate_succ,List.replicate_succ,bI,List.flatten_cons];exact⟨by simp,zs,_,[],[],rfl,rfl,Hz zs V,bI.dg V n⟩
section
variable {P:Program}{o:Oper}{N:Nat}{τ:Nat->AV}{H:Nat->AO}
theorem B6{e:TypeId}{zs:List Value}(h:jg P e=some zs):∃i z,P.info? e=some i/\i.zero=some z/\z.cells=zs.toArray/\i.size=P.cellsOf e/\i.bytes=P.bytesOf e:=by
 grind[Eu,Program.cellsOf,Program.bytesOf]
theorem uq(id:Nat){t e:TypeId}{x y:Operand}{d sz m:Nat}{k k':IntKind}{n n':Int}{zs:List Value}(ho:o.op=.makeSlice t x y)(hd:o.dst=some d)(ht:d<N)(he:iw P t=some (e,sz))(hz:jg P e=some zs)(ug:zs.length=sz)(hx:ev τ x=.p (.v (.int k n)))(hy:ev τ y=.p (.v (.int k' n')))(hn:n=(m:Int))(Cc:n'=(m:Int))
 (hb:P.bytesOf e*m<=281474976710656) (hm:m<=maxLen) :
 St P o N τ H [] (aH (fun s=>bq (cK id) (τ s)) d (.own id)) (aH (fun j=>(H j).bq (cK id)) id (.ai e sz (List.replicate m (zs.map PV.v)))):=by
 subst hn Cc ug
 obtain⟨i,z,i1,i2,i3,i4,i5⟩:=B6 hz
 obtain⟨_,_,_,_,_,_,V⟩:=Eu hz
 obtain⟨q1,_,q3⟩:=wZ he
 have this:St P o N τ H [] (mb (fun s=>bq (cK id) (τ s)) o.dst (.own id)) (aH (fun j=>(H j).bq (cK id)) id (.ai e zs.length (List.replicate m (zs.map PV.v)))):=St.ahH id (cK id) (.own id) _ [] (fun s hs=>by rw[hd]at hs;cases hs;exact ht) (fun{L O w0 ρ fp a w} hr=>by
  have ex:=hr.ev x;have ey:=hr.ev y;rw[hx]at ex;rw[hy]at ey;have Ex:(m:Int)<=9223372036854775807:=by simp only[maxLen]at hm;omega
  have ec:(i.bytes:Int)*(m:Int)<=281474976710656:=by
   rw[i5];have h:((P.bytesOf e*m:Nat):Int)<=281474976710656:=by omega
   rwa [Int.natCast_mul]at h
  have lD:=run_make (P:=P) w t e i z q1 i1 i2 k k' (m:Int) (m:Int) x_2 (Int.le_refl _) ec Ex;have Uc:madeCells zs.toArray (m*zs.length)=(List.replicate m zs).flatten.toArray:=by rw[<-Mp]
  rw[Int.toNat_natCast,i3,i4,q3,Uc]at lD;refine⟨w.alloc (.cells (List.replicate m zs).flatten.toArray e),.slice (some ⟨w.heap.size,0,none⟩) m m,none,.slice (some ⟨w.heap.size,0,none⟩) m m,_,?_,.inl rfl,World.grownBy_alloc w _ none,fun b hb=>(by cases hb),yR,fun hk=>(by simp[cK]at hk),fun b hb=>x_110,fun E=>⟨?_,?_⟩⟩
  ·simp[execOp,ho,ex.gd,ey.gd,lD]
  ·refine⟨_,[],bI.dg V m,by simp,?_,rfl,fun u hu=>by cases hu⟩;rw[List.length_replicate];exact Ev (by simp[List.length_flatten]) hm
  rw[RV,dV,dV];exact⟨rfl,fun _=>rfl⟩)
 rw[hd]at this
 exact this
theorem BO(id:Nat){t e:TypeId}{len d sz:Nat}{parts:List (Nat×Operand)}{zs:List Value}{bp:List (Nat×Nat×AV)}{l:List AV}{rows:List (List PV)}(ho:o.op=.buildSlice t len parts.toArray)(hd:o.dst=some d)(ht:d<N)(he:iw P t=some (e,sz))(hz:jg P e=some zs)(ug:zs.length=sz)
 (V:Aw (fun i=>some (i*sz,sz)) τ parts=some bp) (h2:Ax ((List.replicate len zs).flatten.map fun c=>.p (.v c)) bp=some l) (hl:l=rows.flatten.map AV.p) (vD:∀r∈rows,r.length=sz) (hlen:rows.length=len) (hsm:len*sz<=16777216) (gR:0<sz) :
 St P o N τ H [] (aH (fun s=>bq (cK id) (τ s)) d (.own id)) (aH (fun j=>(H j).bq (cK id)) id (.ai e sz rows)):=by
 subst ug hl
 obtain⟨i,z,i1,i2,i3,i4,i5⟩:=B6 hz
 obtain⟨_,_,_,_,_,o1,o2⟩:=Eu hz
 obtain⟨q1,_,q3⟩:=wZ he
 have this:St P o N τ H [] (mb (fun s=>bq (cK id) (τ s)) o.dst (.own id)) (aH (fun j=>(H j).bq (cK id)) id (.ai e zs.length rows)):=St.ahH id (cK id) (.own id) _ [] (fun s hs=>by rw[hd]at hs;cases hs;exact ht) (fun{L O w0 ρ fp a w} hr=>by
  have qP:bf L ρ H w ((List.replicate len zs).flatten.map fun c=>.p (.v c)) (madeCells zs.toArray (len*zs.length)).toList:=by
   rw[Mp];refine Ay _ ?_;rw[List.all_eq_true];intro u hu;obtain⟨l',Cd,hu⟩:=List.mem_flatten.1 hu;rw[(List.mem_replicate.1 Cd).2]at hu;exact o2 u hu
  obtain⟨ig,f1,f2⟩:=Hs (fun y=>hr.ev y) _ parts bp _ _ _ V h2 qP;obtain⟨fr,g1,g2⟩:=Hw f2;have g3:=Mo g1 vD;have qH:ig.toList.length=len*zs.length:=by rw[g3.length,hlen]
  have rq:(Instr.buildSlice t len (parts.map fun p=>(p.1,a.eval p.2)).toArray).run P w=.ok (.slice (some ⟨w.heap.size,0,none⟩) len len) (w.alloc (.cells ig.toList.toArray e)):=by
   have Ey:=f1;unfold madeCells at Ey;rw[Array.toArray_toList];have Ud:¬(16777216<len*i.size):=by rw[i4,q3];omega
   by_cases qP:len*i.size=0
   ·have fa:len*zs.length=0:=by rw[<-q3,<-i4];exact qP
    have:(Array.range (len*zs.length)).map (zs.toArray[·%zs.toArray.size]!)=#[]:=by rw[fa];simp[Array.range_zero']
    rw[this]at Ey;simp[Instr.buildSlice,run_underlying q1,sizeOf,typeInfo,i1,Ud,qP,newRow,Array.range_zero'];rw[i4,q3,Ey];simp
   refine run_buildSlice (P:=P) w t e len _ ig i z q1 i1 i2 x_2 qP ?_;rw[i3,i4,q3];simpa using Ey
  refine⟨w.alloc (.cells ig.toList.toArray e),.slice (some ⟨w.heap.size,0,none⟩) len len,none,.slice (some ⟨w.heap.size,0,none⟩) len len,_,?_,.inl rfl,World.grownBy_alloc w _ none,fun b hb=>(by cases hb),yR,fun hk=>(by simp[cK]at hk),fun b hb=>x_110,fun E=>⟨?_,?_⟩⟩
  ·simp only[execOp,ho,List.map_toArray];rw[Sem.run_bind,rq];rfl
  ·refine⟨ig.toList,fr,bI.same _ g3 (fun b hb eI=>(E.block b eI (g2 b hb)).1),fun b hb=>(E.block b (bI.lt _ g3 b hb) (g2 b hb)).2,?_,rfl,fun u hu=>by cases hu⟩;rw[hlen];exact Ev qH (by simp only[maxLen];have:=Nat.le_mul_of_pos_right len gR;omega)
  rw[RV,dV,dV];exact⟨rfl,fun _=>rfl⟩)
 rw[hd]at this
 exact this
structure Src(τ:Nat->AV)(H:Nat->AO)(x:Operand)(sz:Nat)(rows:List (List PV)):Prop where
 run:∀ {L O:Nat->Prop} {w0:World} {N:Nat} {ρ:Nat->Value} {fp:Nat->List Nat} {a:Act} {w:World},RR L O w0 N τ H ρ fp a w->∃a2 cap news fr,a.eval x=.slice a2 rows.length cap/\(rows.length=0\/∃b off,a2=some ⟨b,off,none⟩/\jo w b off news)/\bI w false sz rows news fr/\∀b∈fr,¬live L ρ H b
theorem Src.own{x:Operand}{sz j:Nat}{e:ga}{rows:List (List PV)}(hx:ev τ x=.own j)(hH:H j=.ai e sz rows):Src τ H x sz rows:=⟨fun{L O w0 N ρ fp a w} hr=>by
 have h:=hr.ev x;rw[hx,RV]at h;have h0:=h.2 x_122;have bY:=hr.ob j;rw[hH]at bY;obtain⟨xs,fr,k1,k2,k3,_⟩:=bY;rcases k3.2 with⟨q,q2⟩|⟨g,cap,cur,q,_⟩
 ·grind
 have DA:=k3;rw[q]at DA;exact⟨_,cap,xs,fr,h0.trans q,.inr ⟨g,0,rfl,vl DA⟩,k1,k2⟩⟩
theorem Src.p{x:Operand}{sz:Nat}{e:TypeId}{rows:List (List PV)}(hx:ev τ x=.p (.ab e sz rows)):Src τ H x sz rows:=⟨fun{L O w0 N ρ fp a w} hr=>by
 have h:=hr.ev x;rw[hx,RV]at h;obtain⟨fp,V,h2⟩:=h;rw[RW]at V;obtain⟨xs,f1,f2,k1,k2,rfl⟩:=V;unfold iF at k2;grind⟩
theorem Src.nil{x:Operand}{sz:Nat}(hx:ev τ x=.p (.v (.slice none 0 0))):Src τ H x sz []:=⟨fun{L O w0 N ρ fp a w} hr=>by
 have h:=hr.ev x;rw[hx]at h;exact⟨none,0,[],[],h.gd,.inl rfl,by simp[bI],by simp⟩⟩
theorem Src.sub{x:Operand}{sz j off len:Nat}{e:ga}{rows:List (List PV)}(hx:ev τ x=.sub j off len)(hH:H j=.ai e sz rows):Src τ H x sz ((rows.drop off).take len):=⟨fun{L O w0 N ρ fp a w} hr=>by
 have h:=hr.ev x;rw[hx,RV,hH]at h;obtain⟨V,b,cap,e1,_,_,h2⟩:=h.2 rfl;simp only[AO.len]at V;have bY:=hr.ob j;rw[hH]at bY;obtain⟨xs,fr,k1,k2,k3,_⟩:=bY;obtain⟨g1,t1,t2⟩:=k1.drop off;obtain⟨g2,t3,t4⟩:=t1.take len;have hl:((rows.drop off).take len).length=len:=by rw[List.length_take,List.length_drop];omega
 refine⟨b,cap,_,g2,by grind,?_,t3,fun b hb=>k2 b (t2 (t4 hb))⟩;rw[hl];by_cases hz:len=0
 ·omega
 obtain⟨g,m,uh,e2,e3⟩:=h2 x_2;rw[e2]at k3;have hm:m=rows.length:=by
  rcases k3.2 with⟨q,_⟩|⟨g',uh,cur,q,_⟩
  ·cases q
  injection q
 subst hm;refine .inr ⟨g,off*sz,by rw[e3];rfl,?_⟩;have:=(vl k3).drop (off*sz);rw[Nat.zero_add]at this;intro i v hi;rw[List.getElem?_take]at hi;split at hi
 ·exact this i v hi
 grind⟩
theorem Mq{w:World}{t ty e:TypeId}{i:TypeInfo}{z:Value}(ht:P.underlying t=some (.slice e))(hi:P.info? e=some i)(hz:i.zero=some z)(Ue:z.cells.size=i.size)(gR:0<i.size)
 {v:Value} {n:Nat} {xs:List Value} (jE:w.ownsRow 0 e i.size v n xs) {a2:Option Addr} {m c:Nat} {news:List Value} (hl:news.length=m*i.size) (yV:m=0\/∃b off,a2=some ⟨b,off,none⟩/\jo w b off news) (V:∀u∈news,u.oneCell'=true)
 (yQ:n+m<=maxLen) (wY:(n+m)*i.bytes<=140737488355328) :
 ∃v' w',(Builtin.append_ #[t,t] ty #[v,.slice a2 m c]).run P w=.ok v' w'/\w'.ownsRow 0 e i.size v' (n+m) (xs++news)/\w.grownBy w' v.ownBlock/\(v'.ownBlock=v.ownBlock\/v'.ownBlock=some w.heap.size)/\
  (∀b off,(v.ownBlock=some b\/w.heap.size<=b)->b<w'.heap.size->w'.frozen? ⟨b,off,none⟩=false):=by
 have Mr:∀b off,(v.ownBlock=some b\/w.heap.size<=b)->b<w.heap.size->w.frozen? ⟨b,off,none⟩=false:=fun b off hb eI=>by
  rcases hb with hb|hb
  ·rcases jE.2 with⟨q,_⟩|⟨g,cap,cur,q,_,hg,_⟩
   ·rw[q]at hb;cases hb
   rw[q]at hb;injection hb with hb;grind[World.frozen?]
  omega
 by_cases Ej:m=0/\a2=none
 ·obtain⟨rfl,rfl⟩:=Ej
  have hn:news=[]:=List.eq_nil_of_length_eq_zero x_2
  subst hn
  refine⟨v,w,?_,by grind,⟨rfl,rfl,rfl,Nat.le_refl _,fun _ _ _=>rfl⟩,.inl rfl,Mr⟩
  rcases jE.2 with⟨rfl,rfl⟩|⟨g,cap,cur,rfl,_,hg,hnc,_⟩
  ·simp[Builtin.append_,run_underlying ht,sizeOf,typeInfo,hi,Builtin.lenOf,Builtin.firstCells]
  simp[Builtin.append_,run_underlying ht,sizeOf,typeInfo,hi,Builtin.lenOf,Builtin.firstCells,hnc,storeCells]
 obtain⟨ad,Uf,xe⟩:∃ad,a2=some ad/\∀j u,news[j]? = some u->w.cell? (ad.add j)=some u:=by
  rcases yV with hm|⟨b,off,rfl,hc⟩
  ·cases a2 with
   |none=>grind
   |some ad=>
    grind
  exact⟨_,rfl,fun j u hj=>by
   have e:(⟨b,off,none⟩:Addr).add j=⟨b,off+j,none⟩:=by unfold Addr.add;split<;>simp_all
   rw[e];exact hc j u hj⟩
 subst Uf
 obtain⟨v',w',r1,r2,r3,_,r5⟩:=run_append_own_at (P:=P) w 0 t ty e i z i.size i.bytes ht hi hz rfl rfl Ue gR v n xs jE ad m c news hl xe V yQ wY (Nat.zero_le _)
 refine⟨v',w',r1,r2,r3,r5,?_⟩
 have L4:n+m<=9223372036854775807:=by simp only[maxLen]at yQ;omega
 rcases jE.2 with⟨rfl,rfl⟩|⟨g,cap,cur,rfl,te,hgg,hnc,bC,pI,htake⟩
 ·by_cases hm:m=0
  ·subst hm
   have hn:news=[]:=List.eq_nil_of_length_eq_zero (by simpa using hl)
   subst hn
   have:(Builtin.append_ #[t,t] ty #[.slice none 0 0,.slice (some ad) 0 c]).run P w=.ok (.slice none 0 0) w:=by
    simp[Builtin.append_,run_underlying ht,sizeOf,typeInfo,hi,Builtin.lenOf,Builtin.firstCells,loadCells,loadCellsFrom]
   grind
  rw[run_append_nil (P:=P) w t ty e i z ht hi hz ad m c news hl xe x_2 x_2 (by have hb:=wY;simp only[Nat.zero_add]at hb;omega)]at r1
  injection r1 with _ hw
  subst hw
  intro b off hb eI
  refine yR (w:=w.drew) b off (.inr ?_) eI
  rcases hb with hb|hb
  all_goals trivial
 by_cases r6:n+m<=cap
 ·have vz:n*i.size+news.length<=cur.size:=by rw[hl,pI,<-Nat.add_mul];exact Nat.mul_le_mul_right _ r6
  rw[run_append_room (P:=P) w t ty e i ht hi g n cap cur hgg ad m c news hl xe V r6 vz]at r1
  injection r1 with _ hw
  subst hw
  intro b off hb eI
  rw[setRow_size]at eI
  have te:g=b:=by
   rcases hb with hb|hb
   ·injection hb
   omega
  subst te
  simp[World.frozen?,setRow_heap w g cur _ e _ hgg]
 have holds:∀j u,xs[j]? = some u->w.cell? ((⟨g,0,none⟩:Addr).add j)=some u:=jE.cells (g:=g) rfl
 rw[run_append_grow (P:=P) w t ty e i z ht hi hz ⟨g,0,none⟩ n cap xs jE.1 holds ad m c news hl xe x_2 x_2 (growslice_fits x_2 wY)]at r1
 injection r1 with _ hw
 subst hw
 intro b off hb eI
 rcases hb with hb|hb
 ·injection hb with hb
  have ec:g=b:=hb
  subst ec
  have Ei:g<w.drew.heap.size:=(Array.getElem?_eq_some_iff.1 hgg).1
  rw[World.frozen?_of_block (w:=w.drew) (heap_alloc_old w.drew _ Ei)]
  have:w.drew.heap[g]? = some (.cells cur e (0,0)):=hgg
  simp[World.frozen?,this]
 simp_all[yR]
theorem bI.vA{L:Nat->Prop}{ρ ci:Nat->Value}{H':Nat->AO}{w w':World}{k:Nat->Bool}(E:Env L ρ ci H H' w w' k){sz:Nat}{rows:List (List PV)}{xs:List Value}{fr:List Nat}(h:bI w false sz rows xs fr)(hl:∀b∈fr,¬live L ρ H b):bI w' false sz rows xs fr/\∀b∈fr,¬live L ci H' b:=
 ⟨bI.same _ h (fun b hb eI=>(E.block b eI (hl b hb)).1),fun b hb=>(E.block b (bI.lt _ h b hb) (hl b hb)).2⟩
theorem St.gJ(id:Nat){t e:TypeId}{s x:Operand}{d sz:Nat}{zs:List Value}{rows o5:List (List PV)}{pn:Option Value}(ho:o.op=.call { callee:=.builtin .append,args:=#[s,x],argTypes:=#[t,t] })(hd:o.dst=some d)(ht:d<N)(he:iw P t=some (e,sz))(hz:jg P e=some zs)(ug:zs.length=sz)(gR:0<sz)
 (hs:ev τ s=.own id) (hH:H id=.ai ⟨e,pn⟩ sz rows) (yV:Src τ H x sz o5) (hm:rows.length+o5.length<=maxLen) (hb:(rows.length+o5.length)*P.bytesOf e<=140737488355328) :
 St P o N τ H [id] (aH (fun s=>bq (cK id) (τ s)) d (.own id)) (aH (fun j=>(H j).bq (cK id)) id (.ai e sz (rows++o5))):=by
 subst ug
 obtain⟨i,z,i1,i2,i3,i4,i5⟩:=B6 hz
 obtain⟨q1,_,q3⟩:=wZ he
 have nj:i.size=zs.length:=i4.trans q3
 have this:St P o N τ H [id] (mb (fun s=>bq (cK id) (τ s)) o.dst (.own id)) (aH (fun j=>(H j).bq (cK id)) id (.ai e zs.length (rows++o5))):=St.ahH id (cK id) (.own id) _ [id] (fun s hs=>by rw[hd]at hs;cases hs;exact ht) (fun{L O w0 ρ fp a w} hr=>by
  have es:=hr.ev s;rw[hs,RV]at es;have es:=es.2 x_122;have bY:=hr.ob id;rw[hH]at bY;obtain⟨xs,fr,b1,b2,b3,b4,_⟩:=bY;obtain⟨a2,cap,news,nl,s1,s2,s3,s4⟩:=yV.run hr;rw[<-nj]at b3;obtain⟨v',w',r1,r2,r3,r4,r5⟩:=Mq (P:=P) (ty:=o.type) q1 i1 i2 (by rw[i3,nj];simp) x_2 b3 (c:=cap) (by rw[s3.length,nj]) s2 s3.uo hm (by rw[i5];exact hb);refine⟨w',v',(ρ id).ownBlock,v',_,?_,.inl rfl,r3,fun b hb=>⟨by simp,by rw[hH];rfl,hb⟩,r5,fun hk=>(by simp[cK]at hk),fun b hb=>?_,fun E=>⟨?_,?_⟩⟩
  ·simp only[execOp,ho,resolve,invoke,builtin,Sem.run_bind,Sem.run_pure,Result.andThen_ok,List.map_toArray,List.map_cons,List.map_nil,es,s1,r1]
  ·rcases r4 with q|q
   ·exact .inr ⟨by rw[hH];rfl,by rw[<-q];exact hb⟩
   rw[q]at hb;injection hb with hb;exact .inl (Nat.le_of_eq hb)
  ·obtain⟨k1,k2⟩:=bI.vA E b1 b2;obtain⟨k3,k4⟩:=bI.vA E s3 s4;refine⟨xs++news,fr++nl,bI.append k1 k3,fun b hb=>?_,?_,rfl,fun u hu=>by cases hu⟩
   ·rcases List.mem_append.1 hb with hb|hb
    ·exact k2 b hb
    exact k4 b hb
   rw[List.length_append,<-nj];exact r2
  rw[RV,dV,dV];have:v'.oneCell'=true:=by
   rcases r2.2 with⟨q,_⟩|⟨g,cap,cur,q,_⟩<;>rw[q]<;>rfl
  exact⟨this,fun _=>rfl⟩)
 rw[hd]at this
 exact this
theorem qJ(id:Nat){t e:TypeId}{s x:Operand}{d sz:Nat}{zs:List Value}{o5:List (List PV)}(ho:o.op=.call { callee:=.builtin .append,args:=#[s,x],argTypes:=#[t,t] })(hd:o.dst=some d)(ht:d<N)(he:iw P t=some (e,sz))(hz:jg P e=some zs)(ug:zs.length=sz)(gR:0<sz)
 (hs:ev τ s=.p (.v (.slice none 0 0))) (yV:Src τ H x sz o5) (hm:o5.length<=maxLen) (hb:o5.length*P.bytesOf e<=140737488355328) :
 St P o N τ H [] (aH (fun s=>bq (cK id) (τ s)) d (.own id)) (aH (fun j=>(H j).bq (cK id)) id (.ai e sz o5)):=by
 subst ug
 obtain⟨i,z,i1,i2,i3,i4,i5⟩:=B6 hz
 obtain⟨q1,_,q3⟩:=wZ he
 have nj:i.size=zs.length:=i4.trans q3
 have this:St P o N τ H [] (mb (fun s=>bq (cK id) (τ s)) o.dst (.own id)) (aH (fun j=>(H j).bq (cK id)) id (.ai e zs.length o5)):=St.ahH id (cK id) (.own id) _ [] (fun s hs=>by rw[hd]at hs;cases hs;exact ht) (fun{L O w0 ρ fp a w} hr=>by
  have es:=hr.ev s;rw[hs]at es;have es:=es.gd;obtain⟨a2,cap,news,nl,s1,s2,s3,s4⟩:=yV.run hr;obtain⟨v',w',r1,r2,r3,r4,r5⟩:=Mq (P:=P) (ty:=o.type) q1 i1 i2 (by rw[i3,nj];simp) x_2 (World.ownsRow_nil w 0 e i.size) (c:=cap) (by rw[s3.length,nj]) s2 s3.uo x_2 (by rw[i5,Nat.zero_add];exact hb);refine⟨w',v',none,v',_,?_,.inl rfl,r3,fun b hb=>(by cases hb),r5,fun hk=>(by simp[cK]at hk),fun b hb=>?_,fun E=>⟨?_,?_⟩⟩
  ·simp only[execOp,ho,resolve,invoke,builtin,Sem.run_bind,Sem.run_pure,Result.andThen_ok,List.map_toArray,List.map_cons,List.map_nil,es,s1,r1]
  ·rcases r4 with q|q
   ·rw[q]at hb;cases hb
   rw[q]at hb;injection hb with hb;exact .inl (Nat.le_of_eq hb)
  ·obtain⟨k3,k4⟩:=bI.vA E s3 s4;refine⟨news,nl,k3,k4,?_,rfl,fun u hu=>by cases hu⟩;rw[<-nj];simpa using r2
  rw[RV,dV,dV];have:v'.oneCell'=true:=by
   rcases r2.2 with⟨q,_⟩|⟨g,cap,cur,q,_⟩<;>rw[q]<;>rfl
  exact⟨this,fun _=>rfl⟩)
 rw[hd]at this
 exact this
end

def rn:List (Nat×Nat)->Nat->Option Nat
 |[],_=>none
 |(a,b)::r,i=>if i=a then some b else rn r i
def sw(r:List (Nat×Nat)):List (Nat×Nat):=r.map fun p=>(p.2,p.1)
theorem AA:∀ {r:List (Nat×Nat)} {i j:Nat},rn r i=some j->(i,j)∈r
 |[],i,j,h=>by cases h
 |(a,b)::r,i,j,h=>by
  unfold rn at h;split at h
  ·rename_i q;injection h with h;subst q h;simp
  exact List.mem_cons_of_mem _ (AA h)
theorem Ez:∀ {r:List (Nat×Nat)} {i j:Nat},(r.map Prod.fst).Nodup->(i,j)∈r->rn r i=some j
 |[],i,j,_,h=>by cases h
 |(a,b)::r,i,j,hn,h=>by
  unfold rn;rw[List.map_cons,List.nodup_cons]at hn;rcases List.mem_cons.1 h with h|h
  ·grind
  rw[if_neg (fun q=>hn.1 (by rw[<-q];exact List.mem_map.2 ⟨_,h,rfl⟩))];exact Ez hn.2 h
theorem Ms{r:List (Nat×Nat)}(V:(r.map Prod.fst).Nodup)(h2:(r.map Prod.snd).Nodup){i j:Nat}:rn r i=some j↔rn (sw r) j=some i:=by
 have hs:((sw r).map Prod.fst)=r.map Prod.snd:=by unfold sw;rw[List.map_map];rfl
 constructor
 ·intro h;refine Ez (by rw[hs];exact h2) ?_;exact List.mem_map.2 ⟨_,AA h,rfl⟩
 grind[AA,sw,Ez]
mutual
def cX(r:List (Nat×Nat)):AV->AV
 |.own id=>match rn r id with|some j=>.own j|none=>.dead
 |.sub id off len=>match rn r id with|some j=>.sub j off len|none=>.dead
 |.ptr id i c=>match rn r id with|some j=>.ptr j i c|none=>.dead
 |.agg cs=>.agg (kU r cs)
 |.au cs=>.au (kU r cs)
 |.fQ fn f cs=>.fQ fn (kU r f) (kU r cs)
 |x=>x
def kU(r:List (Nat×Nat)):List AV->List AV
 |[]=>[]
 |x::xs=>cX r x::kU r xs
end
def AO.cX(r:List (Nat×Nat)):AO->AO
 |.box T p cells=>.box T p (kU r cells)
 |o=>o
theorem EA(r:List (Nat×Nat)):∀l,(kU r l).length=l.length
 |[]=>rfl
 |x::xs=>by rw[kU,List.length_cons,EA r xs,List.length_cons]
theorem Ce(r:List (Nat×Nat))(o:AO):(o.cX r).here=o.here:=by cases o<;>rfl
theorem Mt(r:List (Nat×Nat))(o:AO):(o.cX r).len=o.len:=by cases o<;>rfl
theorem HA(r:List (Nat×Nat))(o:AO):(o.cX r).sz=o.sz:=by
 cases o with
 |box T p cells=>exact EA r cells
 |_=>rfl
theorem Ug(r:List (Nat×Nat))(x:AV)(h:x.cell=true):(cX r x).cell=true:=by
 cases x<;>simp only[AV.cell,Bool.false_eq_true]at h<;>simp only[cX];all_goals first|rfl|(split<;>rfl)
theorem Mu(r:List (Nat×Nat)):∀(l:List AV),(∀x∈l,x.cell=true)->∀x∈kU r l,x.cell=true
 |[],h=>h
 |y::l,h=>by
  rw[kU];intro x hx;rcases List.mem_cons.1 hx with rfl|hx
  ·exact Ug r y (h y x_19)
  exact Mu r l (fun z hz=>h z (by simp[hz])) x hx
structure Ren(r:List (Nat×Nat))(L1:Nat->Prop)(pM:Nat->Value)(H1:Nat->AO)(L2:Nat->Prop)(jR:Nat->Value)(H2:Nat->AO):Prop where
 live:∀b,¬live L1 pM H1 b->¬live L2 jR H2 b
 obj:∀i j,rn r i=some j->(H2 j).here=true->(H1 i).here=true/\jR j=pM i/\(H2 j).len=(H1 i).len/\(H2 j).sz=(H1 i).sz
section
variable {r:List (Nat×Nat)}{L1 L2:Nat->Prop}{pM jR:Nat->Value}{H1 H2:Nat->AO}{w:World}
mutual
theorem RV.cX(R:Ren r L1 pM H1 L2 jR H2):∀(x:AV) {c:Value},RV L1 pM H1 w x c->RV L2 jR H2 w (cX r x) c
 |.p x,c,h=>by
  rw[_root_.Go.Proofs.YtflhgkmhmcfimaaGreat.cX]<;>try (intros;contradiction)
  rw[RV]at *;obtain⟨fp,V,h2⟩:=h;exact⟨fp,V,fun b hb=>R.live b (h2 b hb)⟩
 |.own id,c,h=>by
  rw[_root_.Go.Proofs.YtflhgkmhmcfimaaGreat.cX];rw[RV]at h;cases hr:rn r id with
  |none=>grind[RV]
  |some j=>
   dsimp only;rw[RV];exact⟨h.1,fun ho=>by
    obtain⟨V,h2,_⟩:=R.obj id j hr ho;grind⟩
 |.sub id off len,c,h=>by
  rw[_root_.Go.Proofs.YtflhgkmhmcfimaaGreat.cX];rw[RV]at h;cases hr:rn r id with
  |none=>grind[RV]
  |some j=>
   dsimp only;rw[RV];exact⟨h.1,fun ho=>by
    obtain⟨V,h2,h3,h4⟩:=R.obj id j hr ho;grind⟩
 |.ptr id i kk,c,h=>by
  rw[_root_.Go.Proofs.YtflhgkmhmcfimaaGreat.cX];rw[RV]at h;cases hr:rn r id with
  |none=>grind[RV]
  |some j=>
   dsimp only;rw[RV];exact⟨h.1,fun ho=>by
    obtain⟨V,h2,h3,h4⟩:=R.obj id j hr ho;grind⟩
 |.rp cells,c,h=>by
  rw[_root_.Go.Proofs.YtflhgkmhmcfimaaGreat.cX]<;>try (intros;contradiction)
  rw[RV]at *;obtain⟨b,off,cs,fp,rfl,V,h2,h3,h4,h5⟩:=h;exact⟨b,off,cs,fp,rfl,V,h2,h3,R.live b h4,fun b hb=>R.live b (h5 b hb)⟩
 |.agg l,c,h=>by
  rw[_root_.Go.Proofs.YtflhgkmhmcfimaaGreat.cX];rw[RV]at *;obtain⟨cs,rfl,V⟩:=h;simp_all[bf.cX]
 |.au l,c,h=>by
  rw[_root_.Go.Proofs.YtflhgkmhmcfimaaGreat.cX];rw[RV]at *;obtain⟨cs,rfl,V⟩:=h;simp_all[bf.cX]
 |.fQ fn f l,c,h=>by
  rw[_root_.Go.Proofs.YtflhgkmhmcfimaaGreat.cX];rw[RV]at *;obtain⟨fs,cs,rfl,V,h2⟩:=h;exact⟨fs,cs,rfl,bf.cX R f V,bf.cX R l h2⟩
 |.dead,c,h=>by
  trivial
 |.bad,c,h=>by
  trivial
theorem bf.cX(R:Ren r L1 pM H1 L2 jR H2):∀(x:List AV) {c:List Value},bf L1 pM H1 w x c->bf L2 jR H2 w (kU r x) c
 |[],c,h=>by trivial
 |x::xs,c,h=>by
  rw[kU];rw[bf]at *;obtain⟨c,r,rfl,V,h2⟩:=h;exact⟨c,r,rfl,RV.cX R x V,bf.cX R xs h2⟩
end
theorem OB.cX(R:Ren r L1 pM H1 L2 jR H2){v:Value}{f:List Nat}{o:AO}(h:OB L1 pM H1 w v f o):OB L2 jR H2 w v f (o.cX r):=by
 cases o with
 |box T p cells=>
  obtain⟨xs,V,h2,h3,h4,h5⟩:=h;exact⟨xs,bf.cX R cells V,Mu r cells h2,by grind[EA],h4,h5⟩
 |ai e sz rows=>
  obtain⟨xs,fr,V,h2,h3,h4⟩:=h;exact⟨xs,fr,V,fun b hb=>R.live b (h2 b hb),h3,h4⟩
 |gone=>exact h
theorem OB.only{L:Nat->Prop}{ρ:Nat->Value}{H:Nat->AO}{v:Value}{f:List Nat}{o:AO}(h:OB L ρ H w v f o){b:Nat}(hb:b∈f):o.here=true/\v.ownBlock=some b:=by
 cases o with
 |box T p cells=>obtain⟨xs,V,h2,h3,rfl,h5⟩:=h;exact⟨rfl,by grind⟩
 |ai e sz rows=>obtain⟨xs,fr,V,h2,h3,rfl,_⟩:=h;exact⟨rfl,by grind⟩
 |gone=>grind[OB]
end
def GX(P:Program)(f:FuncId)(args:List AV)(ob0:List (Nat×AO))(R:AV->List (Nat×AO)->Prop):Prop:=
 ∀(L:Nat->Prop) (w:World) (cs:List Value) (ρ:Nat->Value) (fp:Nat->List Nat),(∀b,L b->b<w.heap.size)->bf L ρ (bx ob0) w args cs->(∀i,OB L ρ (bx ob0) w (ρ i) (fp i) (bx ob0 i))->(∀i j,i≠j->∀b∈fp i,b ∉ fp j)->(∀i,∀b∈fp i,¬L b)->
  Calls P f cs.toArray w fun e w'=>∃(x:AV) (bd:List (Nat×AO)),R x bd/\∃(v:Value) (ci:Nat->Value) (bH:Nat->List Nat),e=.returned v/\pL (fun b=>∃i,b∈fp i) w w'/\RV L ci (bx bd) w' x v/\(∀i,OB L ci (bx bd) w' (ci i) (bH i) (bx bd i))/\(∀i j,i≠j->∀b∈bH i,b ∉ bH j)/\(∀i,∀b∈bH i,((∃j,b∈fp j)\/w.heap.size<=b)/\¬L b)
def GC(P:Program)(f:FuncId)(args:List AV)(ob0:List (Nat×AO))(x:AV)(bd:List (Nat×AO)):Prop:=GX P f args ob0 fun y o=>y=x/\o=bd
theorem GX.mono{P:Program}{f:FuncId}{args:List AV}{ob0:List (Nat×AO)}{R R':AV->List (Nat×AO)->Prop}(h:GX P f args ob0 R)(hR:∀x bd,R x bd->R' x bd):GX P f args ob0 R':=fun L w cs ρ fp V h2 h3 h4 h5=>
 Calls.mono (h L w cs ρ fp V h2 h3 h4 h5) fun e w' ⟨x,bd,q,r⟩=>⟨x,bd,hR x bd q,r⟩
def mg(r:List (Nat×Nat))(k:Nat->Bool)(bd:List (Nat×AO))(H:Nat->AO):Nat->AO:=fun j=>match rn (sw r) j with|some i=>(bx bd i).cX r|none=>(H j).bq k
def mP(r:List (Nat×Nat))(H:Nat->AO):List (Nat×AO)->Prop
 |[]=>True
 |(i,o)::l=>(∃j,rn r i=some j/\(H j).cX (sw r)=o)/\mP r H l
theorem mP.at{r:List (Nat×Nat)}{H:Nat->AO}:∀ {l:List (Nat×AO)},mP r H l->∀i,bx l i=.gone\/∃j,rn r i=some j/\(H j).cX (sw r)=bx l i
 |[],_,i=>.inl rfl
 |(i',o)::l,h,i=>by
  unfold bx;split
  ·rename_i q;subst q;exact .inr h.1
  exact mP.at h.2 i
def stays(o o':AO):Prop:=(∃T g cs T' ig,o=.box T (some g) cs/\o'=.box T' (some g) ig/\ig.length=cs.length)\/(∃e e' u sz rows rows',o=.ai ⟨e,some u⟩ sz rows/\o'=.ai ⟨e',some u⟩ sz rows'/\rows'.length=rows.length)
theorem stays.box{T:TypeId}{g:Value}{cs ig:List AV}(h:ig.length=cs.length):stays (.box T (some g) cs) (.box T (some g) ig):=.inl ⟨_,_,_,_,_,rfl,rfl,h⟩
theorem stays.ai{e:TypeId}{u:Value}{sz:Nat}{rows rows':List (List PV)}(h:rows'.length=rows.length):stays (.ai ⟨e,some u⟩ sz rows) (.ai ⟨e,some u⟩ sz rows'):=.inr ⟨_,_,_,_,_,_,rfl,rfl,h⟩
def pins(ob0 bd:List (Nat×AO)):List Nat->Prop
 |[]=>True
 |i::l=>stays (bx ob0 i) (bx bd i)/\pins ob0 bd l
theorem pins.at{ob0 bd:List (Nat×AO)}:∀ {l:List Nat},pins ob0 bd l->∀i∈l,stays (bx ob0 i) (bx bd i)
 |[],_,i,h=>by cases h
 |i'::l,h,i,hi=>by
  rcases List.mem_cons.1 hi with rfl|hi
  ·exact h.1
  exact pins.at h.2 i hi
section
variable {P:Program}{o:Oper}{N:Nat}{τ:Nat->AV}{H:Nat->AO}
theorem Mw{L O:Nat->Prop}{w0:World}{ρ:Nat->Value}{fp:Nat->List Nat}{a:Act}{w:World}(hr:RR L O w0 N τ H ρ fp a w){r:List (Nat×Nat)}{k:Nat->Bool}{pl:List Nat}{f:FuncId}{args:List AV}{ob0:List (Nat×AO)}{R:AV->List (Nat×AO)->Prop}(hc:GX P f args ob0 R)
 (r1:(r.map Prod.fst).Nodup) (r2:(r.map Prod.snd).Nodup) (h0:mP r H ob0) (hk:∀j,k j=false->∀i,rn (sw r) j=some i->i∈pl) (hp:∀x bd,R x bd->pins ob0 bd pl) {vs:List AV} {cs:List Value} (hv:bf L ρ H w vs cs) (ha:kU (sw r) vs=args) :
 Calls P f cs.toArray w fun e w'=>∃(x:AV) (bd:List (Nat×AO)),R x bd/\∃(v:Value) (ci:Nat->Value) (bH:Nat->List Nat),e=.returned v/\RR L O w0 N (fun t=>bq k (τ t)) (mg r k bd H) ci bH a w'/\RV L ci (mg r k bd H) w' (cX r x) v/\
  (∀X:Nat->Bool,(∀i o,(i,o)∈ob0->∀j,rn r i=some j->X j=true)->Mv X ρ H w ci (mg r k bd H) w'):=by
 subst ha
 have hinv:∀ {i j},rn r i=some j↔rn (sw r) j=some i:=fun{i j}=>Ms r1 r2
 have hH:∀i,(bx ob0 i).here=true->∃j,rn r i=some j/\(H j).cX (sw r)=bx ob0 i/\(H j).here=true:=fun i hi=>by
  rcases h0.at i with q|⟨j,q1,q2⟩
  ·rw[q]at hi;cases hi
  exact⟨j,q1,q2,by rw[<-q2,Ce]at hi;exact hi⟩
 generalize Uh:(fun i=>match rn r i with|some j=>ρ j|none=>undef)=ρc
 generalize Mx:(fun i=>if (bx ob0 i).here=true then (match rn r i with|some j=>fp j|none=>[])else [])=fc
 have HC:∀ {i j},rn r i=some j->ρc i=ρ j:=fun{i j} h=>by rw[<-Uh];simp only[h]
 have ef:∀ {i j},(bx ob0 i).here=true->rn r i=some j->fc i=fp j:=fun{i j} V h2=>by rw[<-Mx];simp only[V,h2,if_true]
 have oZ:∀ {i},(bx ob0 i).here=false->fc i=[]:=fun{i} V=>by rw[<-Mx];simp[V]
 have xf:∀ {i b},b∈fc i->∃j,rn r i=some j/\b∈fp j/\(bx ob0 i).here=true/\(H j).here=true/\(ρ j).ownBlock=some b:=fun{i b} hb=>by
  cases hh:(bx ob0 i).here with
  |false=>rw[oZ hh]at hb;cases hb
  |true=>
   obtain⟨j,q1,q2,q3⟩:=hH i hh;rw[ef hh q1]at hb;exact⟨j,q1,hb,rfl,q3,((hr.ob j).only hb).2⟩
 let Lc:Nat->Prop:=fun b=>L b\/∃j,(H j).here=true/\(ρ j).ownBlock=some b/\∀i,rn r i=some j->(bx ob0 i).here=false
 have RA:Ren (sw r) L ρ H Lc ρc (bx ob0):=by
  refine⟨fun b hn hl=>hn ?_,fun j i jq hi=>?_⟩
  ·rcases hl with(hl|⟨j,q1,q2,_⟩)|⟨i,q1,q2⟩
   ·exact .inl hl
   ·exact .inr ⟨j,q1,q2⟩
   obtain⟨j,p1,p2,p3⟩:=hH i q1;rw[HC p1]at q2;exact .inr ⟨j,p3,q2⟩
  have gF:=hinv.2 jq;obtain⟨j',p1,p2,p3⟩:=hH i hi;rw[gF]at p1;injection p1 with p1;subst p1;exact⟨p3,HC gF,by rw[<-p2,Mt],by rw[<-p2,HA]⟩
 have vE:=hc Lc w cs ρc fc (fun b hb=>by
  rcases hb with hb|⟨j,q1,q2,_⟩
  ·exact Nat.lt_of_lt_of_le (hr.lo b hb) hr.jp.size
  ·exact(hr.ob j).lt b ((hr.ob j).top q1 q2)) (bf.cX RA vs hv) (fun i=>by
  cases hh:(bx ob0 i).here with
  |false=>
   rw[oZ hh];cases ho:bx ob0 i with
   |gone=>rfl
   |box T p cs=>rw[ho]at hh;cases hh
   |ai e sz rows=>rw[ho]at hh;cases hh
  |true=>
   obtain⟨j,p1,p2,p3⟩:=hH i hh;have:=(hr.ob j).cX RA;rw[p2]at this;rw[ef hh p1,HC p1];exact this) (fun i i' bO b hb ec=>by
  obtain⟨j,p1,p2,_⟩:=xf hb;obtain⟨j',Ui,Uj,_⟩:=xf ec;have EB:j≠j':=fun q=>by
   subst q;have e1:=hinv.1 p1;have e2:=hinv.1 Ui;rw[e1]at e2;injection e2 with e2;exact bO e2
  exact hr.dj j j' EB b p2 Uj) (fun i b hb hl=>by
  obtain⟨j,p1,p2,p3,p4,p5⟩:=xf hb;rcases hl with hl|⟨j',q1,q2,q3⟩
  ·exact(hr.own j b p2).2 hl
  by_cases e:j'=j
  ·subst e;have:=q3 i p1;rw[p3]at this;cases this
  exact hr.dj j' j e b ((hr.ob j').top q1 q2) p2)
 refine Calls.mono vE ?_
 rintro e w' ⟨x,bd,hR,v,ci,bH,rfl,g1,g2,g3,g4,g5⟩
 have hp:=hp x bd hR
 generalize wR:(fun j=>match rn (sw r) j with|some i=>ci i|none=>ρ j)=jR
 generalize nX:(fun j=>match rn (sw r) j with|some i=>bH i|none=>fp j)=f2
 have yW:∀ {i j},rn (sw r) j=some i->jR j=ci i:=fun{i j} h=>by rw[<-wR];simp only[h]
 have Cf:∀ {j},rn (sw r) j=none->jR j=ρ j:=fun{j} h=>by rw[<-wR];simp only[h]
 have Cg:∀ {i j},rn (sw r) j=some i->f2 j=bH i:=fun{i j} h=>by rw[<-nX];simp only[h]
 have Ch:∀ {j},rn (sw r) j=none->f2 j=fp j:=fun{j} h=>by rw[<-nX];simp only[h]
 have vF:∀ {i j},rn (sw r) j=some i->mg r k bd H j=(bx bd i).cX r:=fun{i j} h=>by unfold mg;rw[h]
 have Ci:∀ {j},rn (sw r) j=none->mg r k bd H j=(H j).bq k:=fun{j} h=>by unfold mg;rw[h]
 have old:∀ {i b},b∈bH i->(∃j,b∈fp j/\(H j).here=true/\(ρ j).ownBlock=some b/\∃i',rn r i'=some j/\(bx ob0 i').here=true)\/w.heap.size<=b:=fun{i b} hb=>by
  rcases(g5 i b hb).1 with⟨i',ec⟩|q
  ·obtain⟨j,p1,p2,p3,p4,p5⟩:=xf ec;exact .inl ⟨j,p2,p4,p5,i',p1,p3⟩
  exact .inr q
 have RB:Ren r Lc ci (bx bd) L jR (mg r k bd H):=by
  refine⟨fun b hn hl=>hn ?_,fun i j gF hj=>?_⟩
  ·rcases hl with hl|⟨j,q1,q2⟩
   ·exact .inl (.inl hl)
   cases hs:rn (sw r) j with
   |none=>
    rw[Ci hs,sb]at q1;rw[Cf hs]at q2;refine .inl (.inr ⟨j,q1,q2,fun i hi=>?_⟩);rw[hinv.1 hi]at hs;cases hs
   |some i=>
    rw[vF hs,Ce]at q1;rw[yW hs]at q2;exact .inr ⟨i,q1,q2⟩
  have hs:=hinv.1 gF;rw[vF hs]at hj ⊢;rw[Ce]at hj;exact⟨hj,yW hs,Mt _ _,HA _ _⟩
 have oY:∀b,b<w.heap.size->¬(∃i,b∈fc i)->w'.heap[b]? = w.heap[b]?:=g1.block
 have Uk:∀b,b<w.heap.size->¬live L ρ H b->¬live L jR (mg r k bd H) b:=by
  rintro b hb hn (hl|⟨j,q1,q2⟩)
  ·exact hn (.inl hl)
  cases hs:rn (sw r) j with
  |none=>
   rw[Ci hs,sb]at q1;rw[Cf hs]at q2;exact hn (.inr ⟨j,q1,q2⟩)
  |some i=>
   rw[vF hs,Ce]at q1;rw[yW hs]at q2;rcases old ((g3 i).top q1 q2)with⟨j',p1,p2,p3,_⟩|q
   ·exact hn (.inr ⟨j',p2,p3⟩)
   omega
 have E:Env L ρ jR H (mg r k bd H) w w' k:=by
  refine⟨g1.size,fun b hb hn=>⟨oY b hb ?_,Uk b hb hn⟩,fun j Ca hj=>?_⟩
  ·rintro⟨i,hi⟩;obtain⟨j,p1,p2,p3,p4,p5⟩:=xf hi;exact hn (.inr ⟨j,p4,p5⟩)
  cases hs:rn (sw r) j with
  |none=>
   rw[Ci hs]at hj ⊢;rw[sb]at hj;exact⟨hj,Cf hs,Es _ _,Et _ _⟩
  |some i=>
   have gF:=hinv.2 hs;have o1:=g3 i;have o2:=hr.ob j;rcases hp.at i (hk j Ca i hs)with⟨T,g,c0,T',c1,e1,e2,e3⟩|⟨t1,t2,u,s1,rows,rows',e1,e2,e3⟩
   ·obtain⟨j',p1,p2,p3⟩:=hH i (by rw[e1];rfl);rw[gF]at p1;injection p1 with p1;subst p1;rw[e2]at o1;obtain⟨_,_,_,_,_,o1⟩:=o1;cases hHj:H j with
    |gone=>rw[hHj]at p3;cases p3
    |ai e sz rows=>rw[hHj,e1]at p2;cases p2
    |box T2 pn c2=>
     rw[hHj]at o2;rw[hHj,e1]at p2;have HD:pn=some g:=by unfold AO.cX at p2;injection p2
     have Cj:kU (sw r) c2=c0:=by unfold AO.cX at p2;injection p2
     obtain⟨_,_,_,_,_,o2⟩:=o2;refine⟨rfl,?_,?_,?_⟩
     ·rw[yW hs,o1 g rfl,o2 g HD]
     ·rw[vF hs,e2];rfl
     rw[vF hs,e2,HA];show c1.length=c2.length;rw[e3,<-Cj,EA]
   obtain⟨j',p1,p2,p3⟩:=hH i (by rw[e1];rfl);rw[gF]at p1;injection p1 with p1;subst p1;rw[e2]at o1;obtain⟨_,_,_,_,_,_,o1⟩:=o1;cases hHj:H j with
   |gone=>rw[hHj]at p3;cases p3
   |box T p cs=>rw[hHj,e1]at p2;cases p2
   |ai e sz o5=>
    rw[hHj]at o2;rw[hHj,e1]at p2;unfold AO.cX at p2;injection p2 with p2a p2b p2c;subst p2a p2b p2c;obtain⟨_,_,_,_,_,_,o2⟩:=o2;refine⟨rfl,?_,?_,?_⟩
    ·rw[yW hs,o1 u rfl,o2 u rfl]
    ·rw[vF hs,e2];exact e3
    rw[vF hs,e2];rfl
 have Ul:∀b,(∃i,b∈fc i)->O b\/w0.heap.size<=b:=fun b ⟨i,hi⟩=>by
  obtain⟨j,p1,p2,_⟩:=xf hi;exact(hr.own j b p2).1
 refine⟨x,bd,hR,v,jR,f2,rfl,?_,RV.cX RB x g2,fun X hX=>⟨⟨g1.size,fun b hb hn=>oY b hb ?_⟩,fun j hj hh b hb=>?_⟩⟩
 ·refine⟨hr.jp.step (X:=fun b=>∃i,b∈fc i) g1.os g1.tape g1.output g1.size oY Ul g1.nf,hr.size,hr.defers,fun t=>RV.env E _ (hr.tm t),fun j=>?_,fun i j gF b hb ec=>?_,fun j b hb=>?_,hr.lo⟩
  ·cases hs:rn (sw r) j with
   |none=>
    rw[Ci hs,Cf hs,Ch hs]
    refine(hr.ob j).env E (fun b hb=>oY b ((hr.ob j).lt b hb) ?_)
    rintro⟨i,hi⟩
    obtain⟨j',p1,p2,_⟩:=xf hi
    have bO:j≠j':=fun q=>by subst q;rw[hinv.1 p1]at hs;cases hs
    exact hr.dj j j' bO b hb p2
   |some i=>
    rw[vF hs,yW hs,Cg hs]
    exact(g3 i).cX RB
  ·have My:∀ {j i b},rn (sw r) j=none->b∈fp j->b∈bH i->False:=fun{j i b} hs V h2=>by
    rcases old h2 with⟨j',p1,p2,p3,i',p4,_⟩|q
    ·have bO:j≠j':=fun q=>by subst q;rw[hinv.1 p4]at hs;cases hs
     exact hr.dj j j' bO b V p1
    have:=(hr.ob j).lt b V;omega
   cases hs:rn (sw r) i with
   |none=>
    rw[Ch hs]at hb
    cases ot:rn (sw r) j with
    |none=>rw[Ch ot]at ec;exact hr.dj i j gF b hb ec
    |some q=>rw[Cg ot]at ec;exact My hs hb ec
   |some p=>
    rw[Cg hs]at hb
    cases ot:rn (sw r) j with
    |none=>rw[Ch ot]at ec;exact My ot ec hb
    |some q=>
     rw[Cg ot]at ec
     have Um:p≠q:=fun e=>by
      subst e;have e1:=hinv.2 hs;have e2:=hinv.2 ot;rw[e1]at e2;injection e2 with e2;exact gF e2
     exact g4 p q Um b hb ec
  cases hs:rn (sw r) j with
  |none=>rw[Ch hs]at hb;exact hr.own j b hb
  |some i=>
   rw[Cg hs]at hb
   refine⟨?_,fun hL=>(g5 i b hb).2 (.inl hL)⟩
   rcases old hb with⟨j',p1,_⟩|q
   ·exact(hr.own j' b p1).1
   exact .inr (Nat.le_trans hr.jp.size q)
 ·rintro⟨i,hi⟩
  obtain⟨j,p1,p2,p3,p4,p5⟩:=xf hi
  have Ck:∃o',(i,o')∈ob0:=by
   have:∀(l:List (Nat×AO)),(bx l i).here=true->∃o',(i,o')∈l:=by
    intro l;induction l with
    |nil=>intro h;cases h
    |cons q l ih=>
     obtain⟨s,y⟩:=q;intro h;unfold bx at h;split at h
     ·rename_i e;subst e;exact⟨y,by simp⟩
     obtain⟨o',ho⟩:=ih h;exact⟨o',by simp[ho]⟩
   exact this ob0 p3
  obtain⟨o',HE⟩:=Ck
  exact hn j (hX i o' HE j p1) p4 p5
 cases hs:rn (sw r) j with
 |none=>
  rw[Ci hs,sb]at hh
  rw[Cf hs]at hb
  exact .inr ⟨j,hj,hh,hb⟩
 |some i=>
  rw[vF hs,Ce]at hh
  rw[yW hs]at hb
  rcases old ((g3 i).top hh hb)with⟨j',p1,p2,p3,i',p4,p5⟩|q
  ·refine .inr ⟨j',?_,p2,p3⟩
   have:∀(l:List (Nat×AO)),(bx l i').here=true->∃o',(i',o')∈l:=by
    intro l;induction l with
    |nil=>intro h;cases h
    |cons q l ih=>
     obtain⟨s,y⟩:=q;intro h;unfold bx at h;split at h
     ·rename_i e;subst e;exact⟨y,by simp⟩
     obtain⟨o',ho⟩:=ih h;exact⟨o',by simp[ho]⟩
   obtain⟨o',HE⟩:=this ob0 p5
   exact hX i' o' HE j' p4
  exact .inl q
end

def kh(kl:List Nat):Nat->Bool:=fun j=>kl.contains j
def xg(r:List (Nat×Nat))(kl pl:List Nat):Bool:=r.all fun p=>kl.contains p.2||pl.contains p.1
theorem xg.at{r:List (Nat×Nat)}{kl pl:List Nat}(h:xg r kl pl=true):∀j,kh kl j=false->∀i,rn (sw r) j=some i->i∈pl:=fun j hj i hi=>by
 have hm:=AA hi;unfold sw at hm;obtain⟨p,hp,e⟩:=List.mem_map.1 hm;injection e with e1 e2;subst e1 e2;have:=List.all_eq_true.1 h p hp;simp_all[kh]
def tg(l:List Nat):Bool:=match l with|[]=>true|x::l=>!l.contains x&&tg l
theorem Cl:∀ {l:List Nat},tg l=true->l.Nodup
 |[],_=>List.nodup_nil
 |x::l,h=>by
  unfold tg at h;simp only[Bool.and_eq_true,Bool.not_eq_true',List.contains_eq_mem,decide_eq_false_iff_not]at h;exact List.nodup_cons.2 ⟨h.1,Cl h.2⟩
def AB(r:List (Nat×Nat))(ob0:List (Nat×AO)):List Nat:=ob0.filterMap fun p=>rn r p.1
section
variable {P:Program}{o:Oper}{N:Nat}{τ:Nat->AV}{H:Nat->AO}
theorem Un(r:List (Nat×Nat))(kl pl:List Nat){y:Operand}{l:List Operand}{ts:Array TypeId}{f:FuncId}{fn:Func}{fs mv args:List AV}{ob0:List (Nat×AO)}{R:AV->List (Nat×AO)->Prop}(ho:o.op=.call { callee:=.value y,args:=l.toArray,argTypes:=ts })(ht:∀s,o.dst=some s->s<N)
 (hy : ev τ y = .fQ (.func f) fs mv) (hf : P.funcs[f]? = some fn) (vG : (fn.name == "runtime.NumGoroutine") = false) (nX : fn.body.isNone = false) (hc : GX P f args ob0 R)
 (hr:tg (r.map Prod.fst)=true/\tg (r.map Prod.snd)=true/\xg r kl pl=true) (h0:mP r H ob0) (hp:∀x bd,R x bd->pins ob0 bd pl) (ha:kU (sw r) (fs++l.map (ev τ)++mv)=args) :
 wW P o N τ H (AB r ob0) fun τ' H'=>∃x bd,R x bd/\τ'=mb (fun t=>bq (kh kl) (τ t)) o.dst (cX r x)/\H'=mg r (kh kl) bd H:=by
 refine⟨?_⟩
 intro L O w0 ρ fp a w K Q bV hk
 have ey:=bV.ev y
 rw[hy,RV]at ey
 obtain⟨cf,cc,ey,e1,e2⟩:=ey
 have hv:bf L ρ H w (fs++l.map (ev τ)++mv) (cf++l.map a.eval++cc):=(e1.append (bf.map (fun z=>bV.ev z) l)).append e2
 have vE:=Mw bV (k:=kh kl) (pl:=pl) hc (Cl hr.1) (Cl hr.2.1) h0 (xg.at hr.2.2) hp hv ha
 have rq:(execOp a.eval o).run P w=.ok (.enter f (cf++l.map a.eval++cc).toArray) w:=by
  simp only[execOp,ho,resolve,Deferred.ofValue,ey,invoke,callFunc,Sem.run_bind,Sem.run_pure,Result.andThen_ok,run_program,hf,vG,nX,Bool.false_eq_true,if_false,List.map_toArray,List.append_toArray]
 unfold Oper.wp
 rw[rq]
 show Calls P f _ w _
 refine Calls.mono vE ?_
 rintro e w' ⟨x,bd,hR,v,ci,bH,rfl,g1,g2,g3⟩
 refine hk _ _ _ _ _ _ ⟨x,bd,hR,rfl,rfl⟩ (g1.Az o.dst g2 ht) (fun X hX=>g3 X (fun i o' xh j hj=>hX j ?_))
 exact List.mem_filterMap.2 ⟨_,xh,hj⟩
theorem St.call(r:List (Nat×Nat))(kl pl:List Nat){y:Operand}{l:List Operand}{ts:Array TypeId}{f:FuncId}{fn:Func}{fs mv args:List AV}{ob0 bd:List (Nat×AO)}{x:AV}(ho:o.op=.call { callee:=.value y,args:=l.toArray,argTypes:=ts })(ht:∀s,o.dst=some s->s<N)
 (hy : ev τ y = .fQ (.func f) fs mv) (hf : P.funcs[f]? = some fn) (vG : (fn.name == "runtime.NumGoroutine") = false) (nX : fn.body.isNone = false) (hc : GC P f args ob0 x bd)
 (hr:tg (r.map Prod.fst)=true/\tg (r.map Prod.snd)=true/\xg r kl pl=true) (h0:mP r H ob0) (hp:pins ob0 bd pl) (ha:kU (sw r) (fs++l.map (ev τ)++mv)=args) :
 St P o N τ H (AB r ob0) (mb (fun t=>bq (kh kl) (τ t)) o.dst (cX r x)) (mg r (kh kl) bd H):=by
 refine St.x ⟨fun gU hk=>(Un r kl pl ho ht hy hf vG nX hc hr h0 (fun x' o' ⟨e1,e2⟩=>by rw[e2];exact hp) ha).run gU (fun τ' H' a' w' ci bH hz=>hk τ' H' a' w' ci bH ?_)⟩
 obtain⟨x',o',⟨rfl,rfl⟩,e1,e2⟩:=hz
 exact⟨e1,e2⟩
inductive mQ where
 |tmp (t:Nat)
 |cell (a t:Nat) (n:Option Nat)
def vH(P:Program):List ResultVar->List mQ->Prop
 |[],[]=>True
 |.tmp t::l,.tmp t'::l'=>t=t'/\vH P l l'
 |.cell a t::l,.cell a' t' n::l'=>a=a'/\t=t'/\dq P t=some n/\vH P l l'
 |_,_=>False
def HF(τ:Nat->AV)(H:Nat->AO):mQ->Option AV
 |.tmp t=>some (τ t)
 |.cell a _ n=>match τ a with
  |.ptr id 0 k=>match H id with
   |.box _ _ cells=>ur n (cells.drop k)
   |_=>none
  |_=>none
def Cm(τ:Nat->AV)(H:Nat->AO):List mQ->Option (List AV)
 |[]=>some []
 |r::l=>match HF τ H r,Cm τ H l with
  |some x,some xs=>some (x::xs)
  |_,_=>none
def th(τ:Nat->AV)(H:Nat->AO)(l:List mQ):Option AV:=match Cm τ H l with
 |some [x]=>some x
 |some xs=>some (.au xs)
 |none=>none
def AC(l:List AV):Nat->AV:=fun t=>(l[t]?).getD .bad
def yX(rs:List mQ)(R:AV->List (Nat×AO)->Prop):AQ:=fun e τ H=>match e with
 |.ret=>∃x bd,R x bd/\th τ H rs=some x/\fo bd H
 |.normal=>∃x bd,R x bd/\th τ H rs=some x/\fo bd H
 |_=>False
def Ends(rs:List mQ)(x:AV)(bd:List (Nat×AO)):AQ:=fun e τ H=>match e with
 |.ret=>th τ H rs=some x/\fo bd H
 |.normal=>th τ H rs=some x/\fo bd H
 |_=>False
def Cn(tmps:Array Value):ResultVar->Sem Value
 |.tmp t=>pure (tmps.getD t undef)
 |.cell a t=>do loadVar t (<-asAddr (tmps.getD a undef))
theorem Uo(fn:Func)(tmps:Array Value):results fn tmps=(do let vs <-fn.results.mapM (Cn tmps);pure (if h:vs.size=1 then vs[0]else .tuple vs)):=by
 rfl
theorem Up{L O:Nat->Prop}{w0:World}{ρ:Nat->Value}{fp:Nat->List Nat}{a:Act}{w:World}(hr:RR L O w0 N τ H ρ fp a w){y:mQ}{rv:ResultVar}{x:AV}(hk:vH P [rv] [y])(h:HF τ H y=some x) :
 ∃c,RV L ρ H w x c/\(Cn a.tmps rv).run P w=.ok c w:=by
 cases rv with
 |tmp t=>
  cases y with
  |tmp t'=>
   obtain⟨rfl,_⟩:=hk
   injection h with h
   subst h
   exact⟨_,hr.tm t,rfl⟩
  |cell a t n=>trivial
 |cell t ty=>
  cases y with
  |tmp t'=>trivial
  |cell b t' n=>
   obtain⟨rfl,rfl,hk,_⟩:=hk
   unfold HF at h
   dsimp only at h
   split at h
   ·rename_i id k hx
    split at h
    ·rename_i T p cells hH
     have hv:=hr.tm t
     rw[hx,RV]at hv
     obtain⟨_,g,m,cap,hg,e⟩:=hv.2 x_122
     have bY:=hr.ob id
     rw[hH]at bY
     obtain⟨xs,k1,k2,k3,k4,_⟩:=bY
     obtain⟨hc,eI⟩:=AD (fp:=fp id) k3 hg
     obtain⟨c,q1,q2⟩:=Mz (P:=P) (b:=g) (off:=0+k) hk (bf.drop k k1) h
     refine⟨c,q1,?_⟩
     have:=q2 w (hc.drop k)
     simp only[Instr.loadAt,Instr.sureAddr,Sem.run_bind,Sem.run_pure,Result.andThen_ok]at this
     simp only[Cn,e,asAddr,Sem.run_bind,Sem.run_pure,Result.andThen_ok,Nat.zero_mul]
     exact this
    cases h
   grind
theorem MA{L O:Nat->Prop}{w0:World}{ρ:Nat->Value}{fp:Nat->List Nat}{a:Act}{w:World}(hr:RR L O w0 N τ H ρ fp a w):∀(rv:List ResultVar) (rs:List mQ) (xs:List AV),vH P rv rs->Cm τ H rs=some xs->
 ∃cs,bf L ρ H w xs cs/\(rv.mapM (Cn a.tmps)).run P w=.ok cs w
 |[],[],xs,_,h=>by
  injection h with h;simp_all[bf]
 |[],_::_,xs,hk,h=>hk.elim
 |.tmp _::_,[],xs,hk,h=>hk.elim
 |.cell _ _::_,[],xs,hk,h=>hk.elim
 |rv::l,y::rs,xs,hk,h=>by
  have xk:vH P [rv] [y]/\vH P l rs:=by
   cases rv<;>cases y<;>first|exact hk.elim|skip
   ·exact⟨⟨hk.1,trivial⟩,hk.2⟩
   exact⟨⟨hk.1,hk.2.1,hk.2.2.1,trivial⟩,hk.2.2.2⟩
  unfold Cm at h;split at h
  ·rename_i x Uq V h2;injection h with h;subst h;obtain⟨c,q1,q2⟩:=Up hr xk.1 V;obtain⟨cs,q3,q4⟩:=MA hr l rs Uq xk.2 h2;refine⟨c::cs,by rw[bf];exact⟨c,cs,rfl,q1,q3⟩,?_⟩;rw[List.mapM_cons,Sem.run_bind,q2,Result.andThen_ok,Sem.run_bind,q4];rfl
  grind
theorem OB.frozen{L:Nat->Prop}{ρ:Nat->Value}{w:World}{v:Value}{fp:List Nat}{o:AO}(h:OB L ρ H w v fp o):∀b∈fp,∀off,w.frozen? ⟨b,off,none⟩=false:=fun b hb off=>by
 have key:∀ {e sz n xs},w.ownsRow 0 e sz v n xs->v.ownBlock=some b->w.frozen? ⟨b,off,none⟩=false:=fun{e sz n xs} V h2=>by
  rcases V.2 with⟨q,_⟩|⟨g,cap,cur,q,_,hg,_⟩
  ·rw[q]at h2;cases h2
  rw[q]at h2;have h3:g=b:=by injection h2
  grind[World.frozen?]
 obtain⟨_,hv⟩:=h.only hb;cases o with
 |box T p cells=>obtain⟨xs,_,_,h3,_⟩:=h;grind
 |ai e sz rows=>obtain⟨xs,fr,_,_,h3,_⟩:=h;grind
 |gone=>trivial
theorem GX.intro{f:FuncId}{fn:Func}{c:Code}{args:List AV}{ob0:List (Nat×AO)}{R:AV->List (Nat×AO)->Prop}{rs:List mQ}(hf:P.funcs[f]? = some fn)(hb:fn.body=some c)(hn:fn.ntmps=N)(hl:args.length<=N)(vD:vH P fn.results.toList rs)
 (h:∀L O w0,AW P L O w0 N c (AC args) (bx ob0) (yX rs R)):GX P f args ob0 R:=by
 intro L w cs ρ fp hL pF bY pG ud
 refine calls_of_wp hf hb ?_
 have qH:=pF.length
 have h0:RR L (fun b=>∃i,b∈fp i) w N (AC args) (bx ob0) ρ fp { tmps:=cs.toArray++Array.replicate (fn.ntmps-cs.toArray.size) undef,defers:=[] } w:=by
  refine⟨pL.refl _ w (fun b off ⟨i,hi⟩=>(bY i).frozen b hi off),?_,rfl,fun t=>?_,bY,pG,fun i b hb=>⟨.inl ⟨i,hb⟩,ud i b hb⟩,hL⟩
  ·simp only[Array.size_append,List.size_toArray,Array.size_replicate];omega
  unfold AC;cases ht:args[t]? with
  |none=>simp[RV]
  |some y=>
   obtain⟨u,k1,k2⟩:=Co pF ht;have vd:t<cs.length:=(List.getElem?_eq_some_iff.1 k1).1;have e:({ tmps:=cs.toArray++Array.replicate (fn.ntmps-cs.toArray.size) undef,defers:=[] }:Act).tmps.getD t undef=u:=by
    show (cs.toArray++Array.replicate (fn.ntmps-cs.toArray.size) undef).getD t undef=u;rw[Array.getD_eq_getD_getElem?,Array.getElem?_append_left (by simpa using vd)];simp[k1]
   rw[e];exact k2
 refine Code.wp_mono ?_ (h L _ w ρ fp _ w h0)
 rintro e a' w' ⟨τ',H',ci,bH,hr,hq⟩
 have fin:(∃x bd,R x bd/\th τ' H' rs=some x/\fo bd H')->a'.defers=[]/\∃v,(results fn a'.tmps).run P w'=.ok v w'/\∃(x:AV) (bd:List (Nat×AO)),R x bd/\∃(MB:Value) (ci:Nat->Value) (bH:Nat->List Nat),Ending.returned v=.returned MB/\pL (fun b=>∃i,b∈fp i) w w'/\RV L ci (bx bd) w' x MB/\(∀i,OB L ci (bx bd) w' (ci i) (bH i) (bx bd i))/\(∀i j,i≠j->∀b∈bH i,b ∉ bH j)/\(∀i,∀b∈bH i,((∃j,b∈fp j)\/w.heap.size<=b)/\¬L b):=by
  rintro⟨x,bd,hR,q1,q2⟩;unfold th at q1;cases sc:Cm τ' H' rs with
  |none=>rw[sc]at q1;cases q1
  |some xs=>
   rw[sc]at q1;obtain⟨ig,k1,k2⟩:=MA hr fn.results.toList rs xs vD sc;obtain⟨EC,lD,E⟩:=hr.eJ (fun t=>.inr rfl) q2.eJ;have rq:∃v,(results fn a'.tmps).run P w'=.ok v w'/\RV L ci H' w' x v:=by
    have e1:(fn.results.mapM (Cn a'.tmps)).run P w'=.ok ig.toArray w':=by
     rw[<-Array.toArray_toList (xs:=fn.results),List.mapM_toArray];simp only[Sem.run_map];rw[k2];rfl
    refine⟨if h:ig.toArray.size=1 then ig.toArray[0]else .tuple ig.toArray,?_,?_⟩
    ·rw[Uo,Sem.run_bind,e1];rfl
    have hlen:=k1.length;split
    ·rename_i V;have pD:ig.length=1:=by simpa using V
     match xs,ig,k1,q1,hlen,pD with
     |[y],[c],k1,q1,_,_=>
      injection q1 with q1;subst q1;rw[bf]at k1;obtain⟨c',r,e,k3,_⟩:=k1;injection e with e1 e2;subst e1;exact k3
    rename_i V;have pD:ig.length≠1:=by simpa using V
    have hx:x=.au xs:=by
     match xs,q1,hlen with
     |[],q1,_=>injection q1 with q1;exact q1.symm
     |[y],_,hlen=>exact absurd hlen pD
     |_::_::_,q1,_=>injection q1 with q1;exact q1.symm
    subst hx;rw[RV];exact⟨ig,rfl,k1⟩
   obtain⟨v,rq,hx⟩:=rq;have xn:=RV.env E x hx;rw[mf]at xn;exact⟨hr.defers,v,rq,x,bd,hR,v,ci,EC,rfl,lD.jp,xn,lD.ob,lD.dj,lD.own⟩
 unfold yX at hq
 cases e with
 |ret=>exact fin hq
 |normal=>exact fin hq
 |exit id=>exact hq.elim
 |goto l=>exact hq.elim
 |panic c=>exact hq.elim
 |outgrown=>exact hq.elim
theorem GC.intro{f:FuncId}{fn:Func}{c:Code}{args:List AV}{ob0 bd:List (Nat×AO)}{x:AV}{rs:List mQ}(hf:P.funcs[f]? = some fn)(hb:fn.body=some c)(hn:fn.ntmps=N)(hl:args.length<=N)(vD:vH P fn.results.toList rs)
 (h:∀L O w0,AW P L O w0 N c (AC args) (bx ob0) (Ends rs x bd)):GC P f args ob0 x bd:=
 GX.intro hf hb hn hl vD fun L O w0=>(h L O w0).mono fun e τ H q=>by
  cases e<;>first|exact q.elim|exact⟨x,bd,⟨rfl,rfl⟩,q⟩
end
end Go.Proofs.YtflhgkmhmcfimaaGreat

