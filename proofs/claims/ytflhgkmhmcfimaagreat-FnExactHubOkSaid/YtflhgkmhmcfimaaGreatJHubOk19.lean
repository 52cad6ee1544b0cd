/- FnExactHubOk is proved: the given statement holds with no condition. Texts joined: LdRV, HubRV, LFnExactHubOk, CFnExactHubOk. -/
import Derived.Test.YtflhgkmhmcfimaaGreatJHubOk18
import Derived.Test.YtflhgkmhmcfimaaGreatJHubOk14
import Derived.Test.YtflhgkmhmcfimaaGreatJHubOk15
import Derived.Test.YtflhgkmhmcfimaaGreatRows
import Derived.Test.YtflhgkmhmcfimaaGreatKOpn
namespace Go.Proofs.YtflhgkmhmcfimaaGreat
set_option maxRecDepth 100000
open Go.RowKit
set_option linter.unusedSimpArgs false
set_option linter.unusedVariables false
theorem dd.CX{α:Type}{sz:Nat}{dg:World->Nat->Nat->List Value->α->Prop}{w:World}{lo hi:Nat}{v:Value}{xs:List α}{p:α->Prop}(h:dd sz dg w lo hi v xs)(hp:∀lo hi cs x,dg w lo hi cs x->p x):∀x∈xs,p x:=by
 obtain⟨a,cap,rfl,c1,c2,ml⟩:=h;intro x hx;rcases ml with hz|⟨b,off,rfl,b1,b2,hel⟩
 ·subst hz;simp at hx
 obtain⟨i,hi,rfl⟩:=List.getElem_of_mem hx;obtain⟨cs,V,_⟩:=hel i hi;exact hp _ _ _ _ V
theorem dd.short{α:Type}{sz:Nat}{dg:World->Nat->Nat->List Value->α->Prop}{w:World}{lo hi:Nat}{v:Value}{xs:List α}(h:dd sz dg w lo hi v xs):xs.length<=9223372036854775807:=by
 obtain⟨a,c,_,k1,k2,_⟩:=h;unfold maxLen at k2;omega
theorem OZ{w:World}{lo hi:Nat}{v:Value}{b:List Int}(h:dd 1 yb w lo hi v b)(hh:hi<=w.heap.size):∃fp,RW w false (nQ b) v fp:=by
 have:=wU (L:=fun _=>False) (ρ:=fun _=>undef) (H:=bx []) (e:=5) h (fun cs x q=>(show cs=dF x from q.1)) (fun _=>rfl) (by intro c u hu;simp[dF]at hu;subst hu;rfl) hh (fun _ _ _=>mh);rw[RV]at this;obtain⟨fp,q,_⟩:=this;exact⟨fp,q⟩
theorem O0{w:World}{lo hi:Nat}{v:Value}{b:List Int}(h:dd 1 yb w lo hi v b):fA b:=fun x hx=>(h.CX fun _ _ _ _ q=>q.2) x hx
theorem Yo{w:World}{lo hi:Nat}(hh:hi<=w.heap.size){cs:List Value}{x:Cell}(h:sF w lo hi cs x):cs.length=1/\∃fp,bP w false [nQ x.bytes] cs fp:=by
 obtain⟨v0,rfl,q,_⟩:=h;obtain⟨fp,k⟩:=OZ q hh;refine⟨rfl,fp++[],?_⟩;rw[bP];exact⟨v0,[],fp,[],rfl,rfl,k,by rw[bP];exact⟨rfl,rfl⟩⟩
theorem Yp{w:World}{lo hi:Nat}(hh:hi<=w.heap.size){cs:List Value}{x:gq}(h:sG w lo hi cs x):cs.length=2/\∃fp,bP w false [.v (.int .i64 x.at_),nQ x.bytes] cs fp:=by
 obtain⟨v0,rfl,q,_⟩:=h;obtain⟨fp,k⟩:=OZ q hh;refine⟨rfl,[]++(fp++[]),?_⟩;rw[bP];refine⟨_,[v0],[],fp++[],rfl,rfl,by rw[RW];exact⟨rfl,rfl,rfl⟩,?_⟩;rw[bP];exact⟨v0,[],fp,[],rfl,rfl,k,by rw[bP];exact⟨rfl,rfl⟩⟩
structure Yq(d:du):Prop where
 hb:qK d
 lc:d.cells.length<=9223372036854775807
 bc:∀c∈d.cells,c.bytes.length<=9223372036854775807
 lw:d.bu.length<=9223372036854775807
 bw:∀c∈d.bu,c.bytes.length<=9223372036854775807
theorem Yr{d:du}{w:World}{v0 v1:Value}(h0:dd 1 sF w 0 w.heap.size v0 d.cells)(V:dd 2 sG w 0 w.heap.size v1 d.bu):Yq d:=
 ⟨⟨fun c hc=>(h0.CX (p:=fun c=>fA c.bytes) fun _ _ _ _ ⟨_,_,q,_⟩=>O0 q) c hc,fun c hc=>(V.CX (p:=fun c=>fA c.bytes) fun _ _ _ _ ⟨_,_,q,_⟩=>O0 q) c hc⟩,h0.short,fun c hc=>(h0.CX (p:=fun c=>c.bytes.length<=9223372036854775807) fun _ _ _ _ ⟨_,_,q,_⟩=>q.short) c hc,V.short,fun c hc=>(V.CX (p:=fun c=>c.bytes.length<=9223372036854775807) fun _ _ _ _ ⟨_,_,q,_⟩=>q.short) c hc⟩
theorem Ys{e:TypeId}{d:List Cell}{w:World}{v:Value}(h:dd 1 sF w 0 w.heap.size v d):RV (fun _=>False) (fun _=>undef) (bx []) w (.p (.ab e 1 (oS d))) v:=by
 obtain⟨fp,q⟩:=NM (e:=e) (row:=fun c:Cell=>[nQ c.bytes]) h (fun cs x k=>Yo (Nat.le_refl _) k) (fun _=>rfl) (Nat.le_refl _);rw[RV];exact⟨fp,q,fun _ _=>mh⟩
theorem Yt{e:TypeId}{d:List gq}{w:World}{v:Value}(h:dd 2 sG w 0 w.heap.size v d):RV (fun _=>False) (fun _=>undef) (bx []) w (.p (.ab e 2 (oT d))) v:=by
 obtain⟨fp,q⟩:=NM (e:=e) (row:=fun c:gq=>[.v (.int .i64 c.at_),nQ c.bytes]) h (fun cs x k=>Yp (Nat.le_refl _) k) (fun _=>rfl) (Nat.le_refl _);rw[RV];exact⟨fp,q,fun _ _=>mh⟩

theorem Yu{x:mm}{w:World}{v0 v1 v2 v3 v4 v5 v6 v7:Value}(h0:dd 1 sF w 0 w.heap.size v0 x.log.bT.cells)(V:dd 2 sG w 0 w.heap.size v1 x.log.bT.bu)(h2:dd 7 wE w 0 w.heap.size v2 x.book.ag)(h3:dd 7 wF w 0 w.heap.size v3 x.book.an)(h4:dd 5 wG w 0 w.heap.size v4 x.book.aq)(h5:dd 3 x8 w 0 w.heap.size v5 x.ia.lines)(h6:dd 7 sH w 0 w.heap.size v6 x.wait)(h7:dd 7 sH w 0 w.heap.size v7 x.f9):It x:=
 let k:=Yr h0 V
 ⟨k.lc,k.bc,k.lw,k.bw,h2.short,h3.short,h4.short,h5.short,h6.short,h7.short,k.hb,h2.each fun _ _ _ _ h=>h.2,h3.each fun _ _ _ _ h=>h.2,h4.each fun _ _ _ _ h=>h.2⟩
theorem Yv{x:mm}{w:World}{v0 v1 v2 v3 v4 v5 v6 v7:Value}(h0:dd 1 sF w 0 w.heap.size v0 x.log.bT.cells)(V:dd 2 sG w 0 w.heap.size v1 x.log.bT.bu)(h2:dd 7 wE w 0 w.heap.size v2 x.book.ag)(h3:dd 7 wF w 0 w.heap.size v3 x.book.an)(h4:dd 5 wG w 0 w.heap.size v4 x.book.aq)(h5:dd 3 x8 w 0 w.heap.size v5 x.ia.lines)(h6:dd 7 sH w 0 w.heap.size v6 x.wait)(h7:dd 7 sH w 0 w.heap.size v7 x.f9) :
 RV (fun _=>False) (fun _=>undef) (bx []) w (E' x) (.agg #[v0,v1,.int .i64 x.log.next,.int .i64 x.log.dP,.int .i64 x.book.tick,.int .i64 x.book.next,.int .i64 x.book.aA,v2,v3,v4,.int .i64 x.ia.last,v5,v6,v7]):=by
 rw[RV]
 refine⟨[v0,v1,.int .i64 x.log.next,.int .i64 x.log.dP,.int .i64 x.book.tick,.int .i64 x.book.next,.int .i64 x.book.aA,v2,v3,v4,.int .i64 x.ia.last,v5,v6,v7],rfl,?_⟩
 simp only[bf]
 exact⟨_,_,rfl,Ys h0,_,_,rfl,Yt V,_,_,rfl,fX rfl,_,_,rfl,fX rfl,_,_,rfl,fX rfl,_,_,rfl,fX rfl,_,_,rfl,fX rfl,
  _,_,rfl,wU h2 (fun _ _ h=>h.1) (fun _=>rfl) (by intro c u hu;simp[aX]at hu;rcases hu with h|h|h|h|h|h|h<;>(subst h;rfl)) (Nat.le_refl _) (fun _ _ _=>mh),
  _,_,rfl,wU h3 (fun _ _ h=>h.1) (fun _=>rfl) (by intro c u hu;simp[go]at hu;rcases hu with h|h|h|h|h|h|h<;>(subst h;rfl)) (Nat.le_refl _) (fun _ _ _=>mh),
  _,_,rfl,wU h4 (fun _ _ h=>h.1) (fun _=>rfl) (by intro c u hu;simp[iX]at hu;rcases hu with h|h|h|h|h<;>(subst h;rfl)) (Nat.le_refl _) (fun _ _ _=>mh),
  _,_,rfl,fX rfl,
  _,_,rfl,wU h5 (fun _ _ h=>h.1) (fun _=>rfl) (by intro c u hu;simp[ct]at hu;rcases hu with h|h|h<;>(subst h;rfl)) (Nat.le_refl _) (fun _ _ _=>mh),
  _,_,rfl,wU h6 (fun _ _ h=>h.1) (fun _=>rfl) (by intro c u hu;simp[fR]at hu;rcases hu with h|h|h|h|h|h|h<;>(subst h;rfl)) (Nat.le_refl _) (fun _ _ _=>mh),
  _,_,rfl,wU h7 (fun _ _ h=>h.1) (fun _=>rfl) (by intro c u hu;simp[fR]at hu;rcases hu with h|h|h|h|h|h|h<;>(subst h;rfl)) (Nat.le_refl _) (fun _ _ _=>mh),rfl⟩

theorem Yw(x:mm)(a0:Option Addr)(c0:Nat)(a1:Option Addr)(c1:Nat)(a2:Option Addr)(c2:Nat)(a3:Option Addr)(c3:Nat)(a4:Option Addr)(c4:Nat)(a5:Option Addr)(c5:Nat)(a6:Option Addr)(c6:Nat)(a7:Option Addr)(c7:Nat)(w:World)
 (h0:dd 1 sF w 0 w.heap.size (.slice a0 x.log.bT.cells.length c0) x.log.bT.cells) (V:dd 2 sG w 0 w.heap.size (.slice a1 x.log.bT.bu.length c1) x.log.bT.bu) (h2:dd 7 wE w 0 w.heap.size (.slice a2 x.book.ag.length c2) x.book.ag) (h3:dd 7 wF w 0 w.heap.size (.slice a3 x.book.an.length c3) x.book.an) (h4:dd 5 wG w 0 w.heap.size (.slice a4 x.book.aq.length c4) x.book.aq) (h5:dd 3 x8 w 0 w.heap.size (.slice a5 x.ia.lines.length c5) x.ia.lines) (h6:dd 7 sH w 0 w.heap.size (.slice a6 x.wait.length c6) x.wait) (h7:dd 7 sH w 0 w.heap.size (.slice a7 x.f9.length c7) x.f9) (wf0:O1 x) :
 Calls Tryz.prog 6 #[.agg #[.slice a0 x.log.bT.cells.length c0,.slice a1 x.log.bT.bu.length c1,.int .i64 x.log.next,.int .i64 x.log.dP,.int .i64 x.book.tick,.int .i64 x.book.next,.int .i64 x.book.aA,.slice a2 x.book.ag.length c2,.slice a3 x.book.an.length c3,.slice a4 x.book.aq.length c4,.int .i64 x.ia.last,.slice a5 x.ia.lines.length c5,.slice a6 x.wait.length c6,.slice a7 x.f9.length c7]] w fun r w'=>r=.returned (.bool true)/\cZ w w':=
 Xx (cs:=[_]) rfl (Xr x (Yu h0 V h2 h3 h4 h5 h6 h7)) (by
  simp only[bf];exact⟨_,_,rfl,Yv h0 V h2 h3 h4 h5 h6 h7,rfl⟩)
end Go.Proofs.YtflhgkmhmcfimaaGreat

namespace Go.Proofs.YtflhgkmhmcfimaaGreat.fnExactHubOk
open Go.ChangeShapes Go.WideShapes Go.ChangeAt Go.RowKit Go.Proofs.YtflhgkmhmcfimaaGreat
set_option maxHeartbeats 16000000
set_option maxRecDepth 100000
set_option linter.unusedVariables false
theorem own:ownKnob Tryz.prog.godebug=none:=by kernel_rfl
theorem laid:laidOutB Tryz.prog=true:=by kernel_rfl
theorem readable:∀t∈[38],Tryz.prog.readableRec t=true/\t<Tryz.prog.types.size:=by
 intro t ht;simp only[List.mem_cons,List.not_mem_nil,or_false]at ht;rcases ht with rfl;all_goals exact⟨by kernel_rfl,of_decide_eq_true (by kernel_rfl)⟩
theorem lifted(os:Os)(started:os.Started)(H:Type)(enc:TypeId×Value->H) :
 ReturnsInHanded {} Tryz.checked os 6 .any (Rows.fnExactHubOkSpec.pre6 enc Tryz.prog Tryz.f6 Rows.fnExactHubOkRow.domain false) (Rows.fnExactHubOkSpec.post enc Tryz.prog Tryz.f6 false true false false):=by
 refine returnsInHanded_of_change (C:=Tryz.checked) own started (by kernel_rfl) Tryz.func6
  (ChangeSpec.witness6 (enc:=enc) (C:=Tryz.checked) false ⟨#[],#[.agg #[.slice none 0 0,.slice none 0 0,.int .i64 0,.int .i64 0,.int .i64 0,.int .i64 0,.int .i64 0,.slice none 0 0,.slice none 0 0,.slice none 0 0,.int .i64 0,.slice none 0 0,.slice none 0 0,.slice none 0 0]],[]⟩ 8 (by kernel_rfl) (by kernel_rfl) (by kernel_rfl) (by kernel_rfl)) ?_
 intro W base args ds gs before O2 hW aby _
 have O3:∀(j:Nat) t v,Tryz.f6.params[j]? = some t->args[j]? = some v->Value.okWide Tryz.prog W .any base t v:=O2
 have O4:=hW
 obtain⟨p,q,O5,hV,rfl,hfz,jU⟩:=hW
 have hA:DataW.TrodAll enc Tryz.prog W 0 (fun _=>true) true Tryz.f6.params.toList args.toList ds p:=O5
 rw[Tryz.params6]at hA O3
 have hB:=hA
 obtain⟨v0,vs0,d0,ds0,p0,q0,pF,rfl,rfl,h0,r0⟩:=trodAll_cons hA
 obtain⟨rfl,rfl,rfl⟩:=trodAll_nil r0
 obtain rfl:args=#[v0]:=by cases args;simp_all
 obtain⟨rfl,rfl⟩:=trodVars_none hV
 obtain⟨oC,rfl,_⟩:=okWide_struct Tryz.underlying38 (O3 0 38 v0 rfl rfl)
 obtain⟨fu0,t0⟩:=h0
 obtain⟨x0,Dy,Dz,O6,O7,O8,O9,O',Pa,e0,Pb,Pc,Pe,Pf,Pg,Ph,Pi,Pj,w0⟩:=Rm t0
 have e0:oC=#[Dy,Dz,.int .i64 x0.log.next,.int .i64 x0.log.dP,.int .i64 x0.book.tick,.int .i64 x0.book.next,.int .i64 x0.book.aA,O6,O7,O8,.int .i64 x0.ia.last,O9,O',Pa]:=Array.ext' (by simpa[Value.cells]using e0)
 subst e0
 obtain⟨Yx,Yy,rfl⟩:∃a c,Dy=Value.slice a x0.log.bT.cells.length c:=let ⟨a,c,h,_⟩:=Pb;⟨a,c,h⟩
 obtain⟨Yz,YA,rfl⟩:∃a c,Dz=Value.slice a x0.log.bT.bu.length c:=let ⟨a,c,h,_⟩:=Pc;⟨a,c,h⟩
 obtain⟨YB,YC,rfl⟩:∃a c,O6=Value.slice a x0.book.ag.length c:=let ⟨a,c,h,_⟩:=Pe;⟨a,c,h⟩
 obtain⟨YD,YE,rfl⟩:∃a c,O7=Value.slice a x0.book.an.length c:=let ⟨a,c,h,_⟩:=Pf;⟨a,c,h⟩
 obtain⟨YF,YG,rfl⟩:∃a c,O8=Value.slice a x0.book.aq.length c:=let ⟨a,c,h,_⟩:=Pg;⟨a,c,h⟩
 obtain⟨YH,YI,rfl⟩:∃a c,O9=Value.slice a x0.ia.lines.length c:=let ⟨a,c,h,_⟩:=Ph;⟨a,c,h⟩
 obtain⟨YJ,YK,rfl⟩:∃a c,O'=Value.slice a x0.wait.length c:=let ⟨a,c,h,_⟩:=Pi;⟨a,c,h⟩
 obtain⟨YL,YM,rfl⟩:∃a c,Pa=Value.slice a x0.f9.length c:=let ⟨a,c,h,_⟩:=Pj;⟨a,c,h⟩
 clear O5 O2
 simp only[List.append_nil]at O4
 refine(Yw x0 Yx Yy Yz YA YB YC YD YE YF YG YH YI YJ YK YL YM W Pb Pc Pe Pf Pg Ph Pi Pj w0).mono fun e W' ⟨he,hg⟩=>?_
 subst he
 exact⟨_,rfl,_,_,_,_,_,[],O4,trodAll_mk1 (shut_bool Tryz.underlying4 true),
  Pk laid hg.below (readable) hB,rfl,hg.below.frame _,fun h=>by cases h⟩
theorem YN:(Rows.fnExactHubOkRow.inPlace==Tryz.pinned.checked.prog.inPlace 6)=true:=by kernel_rfl
theorem YO:(Rows.fnExactHubOkRow.unfollowed==Tryz.pinned.checked.prog.unfollowed 6)=true:=by kernel_rfl
theorem YP:(Rows.fnExactHubOkRow.recurses==Tryz.pinned.checked.prog.recurses 6)=true:=by kernel_rfl
theorem YQ:(Rows.fnExactHubOkRow.named==Tryz.pinned.checked.prog.varsNamed 6)=true:=by kernel_rfl
theorem YR:Tryz.pinned.checked.prog.funcNamed Rows.fnExactHubOkRow.func=some 6:=by kernel_rfl
theorem closed:joinedFacts Tryz.pinned.checked.prog 6 Tryz.f6 Rows.fnExactHubOkSpec Rows.fnExactHubOkRow=true:=by
 unfold joinedFacts;rw[YN,YO,YP,YQ];kernel_rfl
theorem YS:Rows.fnExactHubOkRow.holds Tryz.pinned (OpenSpec.ofChange Rows.fnExactHubOkSpec):=
 OpenClaim.holds_of_wide 6 Tryz.f6 rfl rfl rfl rfl rfl rfl rfl ⟨rfl,rfl,rfl,rfl,rfl⟩ rfl rfl rfl rfl rfl YR Tryz.func6 closed
  (of_decide_eq_true (by kernel_rfl)) (by unfold Func.isWrapper;first|(rw[if_pos (by decide +kernel)];kernel_rfl)|(rw[if_neg (by decide +kernel)];exact⟨rfl,rfl⟩))
  (fun os started H enc _=>lifted os started H enc)
theorem proved:Rows.FnExactHubOkSaid:=
 YS
#print axioms proved
end Go.Proofs.YtflhgkmhmcfimaaGreat.fnExactHubOk

