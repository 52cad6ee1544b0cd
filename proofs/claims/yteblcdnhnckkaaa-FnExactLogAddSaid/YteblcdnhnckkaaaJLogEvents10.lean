/- FnExactLogAdd is proved: the given statement holds with no condition. Texts joined: LdRV, LFnExactLogAdd, CFnExactLogAdd. -/
import Derived.Test.YteblcdnhnckkaaaJLogEvents7
import Derived.Test.YteblcdnhnckkaaaJLogEvents6
import Derived.Test.YteblcdnhnckkaaaJLogEvents9
import Derived.Test.YteblcdnhnckkaaaRows
import Derived.Test.YteblcdnhnckkaaaKOpn
namespace Go.Proofs.Yteblcdnhnckkaaa
open Go.RowKit
set_option linter.unusedSimpArgs false
set_option linter.unusedVariables false
theorem SlR.eachD{α:Type}{sz:Nat}{rep:World→Nat→Nat→List Value→α→Prop}{w:World}{lo hi:Nat}{v:Value}{xs:List α}{p:α→Prop}(h:SlR sz rep w lo hi v xs)(hp:∀lo hi cs x,rep w lo hi cs x→p x):∀x∈xs,p x:=by
 obtain⟨a,cap,rfl,c1,c2,hsl⟩:=h
 intro x hx
 rcases hsl with hz|⟨b,off,rfl,b1,b2,hel⟩
 ·subst hz;simp at hx
 ·obtain⟨i,hi,rfl⟩:=List.getElem_of_mem hx
  obtain⟨cs,h1,_⟩:=hel i hi
  exact hp _ _ _ _ h1
theorem SlR.short{α:Type}{sz:Nat}{rep:World→Nat→Nat→List Value→α→Prop}{w:World}{lo hi:Nat}{v:Value}{xs:List α}(h:SlR sz rep w lo hi v xs):xs.length≤9223372036854775807:=by
 obtain⟨a,c,_,k1,k2,_⟩:=h
 unfold maxLen at k2
 omega
theorem byteRW{w:World}{lo hi:Nat}{v:Value}{b:List Int}(h:SlR 1 repByte w lo hi v b)(hh:hi≤w.heap.size):∃fp,RW w false (lstB b) v fp:=by
 have:=RV.of_slr (L:=fun _=>False) (ρ:=fun _=>undef) (H:=ofO []) (e:=5) h (fun cs x q=>(show cs=encU x from q.1)) (fun _=>rfl) (by intro c u hu;simp[encU]at hu;subst hu;rfl) hh (fun _ _ _=>no_live)
 rw[RV]at this
 obtain⟨fp,q,_⟩:=this
 exact⟨fp,q⟩
theorem byteOk{w:World}{lo hi:Nat}{v:Value}{b:List Int}(h:SlR 1 repByte w lo hi v b):BytesOk b:=fun x hx=>(h.eachD fun _ _ _ _ q=>q.2) x hx
theorem cellRW{w:World}{lo hi:Nat}(hh:hi≤w.heap.size){cs:List Value}{x:Cell}(h:repCell w lo hi cs x):cs.length=1∧∃fp,RWL w false [lstB x.bytes] cs fp:=by
 obtain⟨v0,rfl,q,_⟩:=h
 obtain⟨fp,k⟩:=byteRW q hh
 refine⟨rfl,fp++[],?_⟩
 rw[RWL]
 exact⟨v0,[],fp,[],rfl,rfl,k,by rw[RWL];exact⟨rfl,rfl⟩⟩
theorem writeRW{w:World}{lo hi:Nat}(hh:hi≤w.heap.size){cs:List Value}{x:Write}(h:repWrite w lo hi cs x):cs.length=2∧∃fp,RWL w false [.v (.int .i64 x.at_),lstB x.bytes] cs fp:=by
 obtain⟨v0,rfl,q,_⟩:=h
 obtain⟨fp,k⟩:=byteRW q hh
 refine⟨rfl,[]++(fp++[]),?_⟩
 rw[RWL]
 refine⟨_,[v0],[],fp++[],rfl,rfl,by rw[RW];exact⟨rfl,rfl,rfl⟩,?_⟩
 rw[RWL]
 exact⟨v0,[],fp,[],rfl,rfl,k,by rw[RWL];exact⟨rfl,rfl⟩⟩
structure DkR(d:Disk):Prop where
 hb:DkB d
 lc:d.cells.length≤9223372036854775807
 bc:∀c∈d.cells,c.bytes.length≤9223372036854775807
 lw:d.dirty.length≤9223372036854775807
 bw:∀c∈d.dirty,c.bytes.length≤9223372036854775807
theorem DkR.of{d:Disk}{w:World}{v0 v1:Value}(h0:SlR 1 repCell w 0 w.heap.size v0 d.cells)(h1:SlR 2 repWrite w 0 w.heap.size v1 d.dirty):DkR d:=
 ⟨⟨fun c hc=>(h0.eachD (p:=fun c=>BytesOk c.bytes) fun _ _ _ _ ⟨_,_,q,_⟩=>byteOk q) c hc,fun c hc=>(h1.eachD (p:=fun c=>BytesOk c.bytes) fun _ _ _ _ ⟨_,_,q,_⟩=>byteOk q) c hc⟩,h0.short,fun c hc=>(h0.eachD (p:=fun c=>c.bytes.length≤9223372036854775807) fun _ _ _ _ ⟨_,_,q,_⟩=>q.short) c hc,h1.short,fun c hc=>(h1.eachD (p:=fun c=>c.bytes.length≤9223372036854775807) fun _ _ _ _ ⟨_,_,q,_⟩=>q.short) c hc⟩
theorem cellsRV{e:TypeId}{d:List Cell}{w:World}{v:Value}(h:SlR 1 repCell w 0 w.heap.size v d):RV (fun _=>False) (fun _=>undef) (ofO []) w (.p (.lst e 1 (rowsC d))) v:=by
 obtain⟨fp,q⟩:=RV.of_slrD (e:=e) (row:=fun c:Cell=>[lstB c.bytes]) h (fun cs x k=>cellRW (Nat.le_refl _) k) (fun _=>rfl) (Nat.le_refl _)
 rw[RV]
 exact⟨fp,q,fun _ _=>no_live⟩
theorem writesRV{e:TypeId}{d:List Write}{w:World}{v:Value}(h:SlR 2 repWrite w 0 w.heap.size v d):RV (fun _=>False) (fun _=>undef) (ofO []) w (.p (.lst e 2 (rowsW d))) v:=by
 obtain⟨fp,q⟩:=RV.of_slrD (e:=e) (row:=fun c:Write=>[.v (.int .i64 c.at_),lstB c.bytes]) h (fun cs x k=>writeRW (Nat.le_refl _) k) (fun _=>rfl) (Nat.le_refl _)
 rw[RV]
 exact⟨fp,q,fun _ _=>no_live⟩
theorem logRV{e1 e2:TypeId}{l:Log}{w:World}{v0 v1:Value}(h0:SlR 1 repCell w 0 w.heap.size v0 l.disk.cells)(h1:SlR 2 repWrite w 0 w.heap.size v1 l.disk.dirty):RV (fun _=>False) (fun _=>undef) (ofO []) w (.agg [.p (.lst e1 1 (rowsC l.disk.cells)),.p (.lst e2 2 (rowsW l.disk.dirty)),int l.next,int l.epoch]) (.agg #[v0,v1,.int .i64 l.next,.int .i64 l.epoch]):=by
 rw[RV]
 refine⟨[v0,v1,.int .i64 l.next,.int .i64 l.epoch],rfl,?_⟩
 simp only[RVL]
 exact⟨_,_,rfl,cellsRV h0,_,_,rfl,writesRV h1,_,_,rfl,RV.v_mk rfl,_,_,rfl,RV.v_mk rfl,rfl⟩

theorem FnExactLogAdd_walk(x:Log)(a0:Option Addr)(c0:Nat)(a1:Option Addr)(c1:Nat)(e:Event)(w:World)(h0:SlR 1 repCell w 0 w.heap.size (.slice a0 x.disk.cells.length c0) x.disk.cells)(h1:SlR 2 repWrite w 0 w.heap.size (.slice a1 x.disk.dirty.length c1) x.disk.dirty)(wf0:wfLog x)(wf1:wfEvent e) :
 Calls Try.prog 3 #[.agg #[.slice a0 x.disk.cells.length c0,.slice a1 x.disk.dirty.length c1,.int .i64 x.next,.int .i64 x.epoch],.agg #[.int .i64 e.kind,.int .i64 e.key,.int .i64 e.ch,.int .i64 e.to,.int .i64 e.amt,.int .i64 e.fee,.bool e.yes]] w fun r w'=>r=.returned (.bool true)∧Grow w w':=
 let k:=DkR.of h0 h1
 GC.calls (cs:=[_,_]) rfl (FnExactLogAdd_e x e k.hb k.lc k.bc k.lw k.bw) (by
  simp only[RVL]
  refine⟨_,_,rfl,logRV h0 h1,_,_,rfl,?_,rfl⟩
  rw[RV]
  refine⟨[.int .i64 e.kind,.int .i64 e.key,.int .i64 e.ch,.int .i64 e.to,.int .i64 e.amt,.int .i64 e.fee,.bool e.yes],rfl,?_⟩
  simp only[RVL]
  exact⟨_,_,rfl,RV.v_mk rfl,_,_,rfl,RV.v_mk rfl,_,_,rfl,RV.v_mk rfl,_,_,rfl,RV.v_mk rfl,_,_,rfl,RV.v_mk rfl,_,_,rfl,RV.v_mk rfl,_,_,rfl,RV.v_mk rfl,rfl⟩)
end Go.Proofs.Yteblcdnhnckkaaa

namespace Go.Proofs.Yteblcdnhnckkaaa.fnExactLogAdd
open Go.ChangeShapes Go.WideShapes Go.ChangeAt Go.RowKit Go.Proofs.Yteblcdnhnckkaaa
set_option maxHeartbeats 16000000
set_option maxRecDepth 100000
set_option linter.unusedVariables false
theorem own:ownKnob Try.prog.godebug=none:=by kernel_rfl
theorem laid:laidOutB Try.prog=true:=by kernel_rfl
theorem readable:∀t∈[27,29],Try.prog.readableRec t=true∧t<Try.prog.types.size:=by
 intro t ht
 simp only[List.mem_cons,List.not_mem_nil,or_false]at ht
 rcases ht with rfl|rfl
 all_goals exact⟨by kernel_rfl,of_decide_eq_true (by kernel_rfl)⟩
theorem lifted(os:Os)(started:os.Started)(H:Type)(enc:TypeId×Value→H) :
 ReturnsInHanded {} Try.checked os 3 .any (Rows.fnExactLogAddSpec.pre6 enc Try.prog Try.f3 Rows.fnExactLogAddRow.domain false) (Rows.fnExactLogAddSpec.post enc Try.prog Try.f3 false true false false):=by
 refine returnsInHanded_of_change (C:=Try.checked) own started (by kernel_rfl) Try.func3
  (ChangeSpec.witness6 (enc:=enc) (C:=Try.checked) false ⟨#[],#[.agg #[.slice none 0 0,.slice none 0 0,.int .i64 0,.int .i64 0],.agg #[.int .i64 0,.int .i64 0,.int .i64 0,.int .i64 0,.int .i64 0,.int .i64 0,.bool false]],[]⟩ 8 (by kernel_rfl) (by kernel_rfl) (by kernel_rfl) (by kernel_rfl)) ?_
 intro W base args ds gs before hval0 hW hcnd _
 have hval:∀(j:Nat) t v,Try.f3.params[j]? = some t→args[j]? = some v→Value.okWide Try.prog W .any base t v:=hval0
 have hW':=hW
 obtain⟨p,q,hA0,hV,rfl,hfz,hnd⟩:=hW
 have hA:DataW.TrodAll enc Try.prog W 0 (fun _=>true) true Try.f3.params.toList args.toList ds p:=hA0
 rw[Try.params3]at hA hval
 have hB:=hA
 obtain⟨v0,vs0,d0,ds0,p0,q0,hargs,rfl,rfl,h0,r0⟩:=trodAll_cons hA
 obtain⟨v1,vs1,d1,ds1,p1,q1,rfl,rfl,rfl,h1,r1⟩:=trodAll_cons r0
 obtain⟨rfl,rfl,rfl⟩:=trodAll_nil r1
 obtain rfl:args=#[v0,v1]:=by cases args;simp_all
 obtain⟨rfl,rfl⟩:=trodVars_none hV
 obtain⟨cs0,rfl,_⟩:=okWide_struct Try.underlying27 (hval 0 27 v0 rfl rfl)
 obtain⟨fu0,t0⟩:=h0
 obtain⟨x0,u0_0,u0_1,e0,s0_0,s0_1,w0⟩:=trodLog t0
 have e0:cs0=#[u0_0,u0_1,.int .i64 x0.next,.int .i64 x0.epoch]:=Array.ext' (by simpa[Value.cells]using e0)
 subst e0
 obtain⟨a0_0,c0_0,rfl⟩:∃a c,u0_0=Value.slice a x0.disk.cells.length c:=let ⟨a,c,h,_⟩:=s0_0;⟨a,c,h⟩
 obtain⟨a0_1,c0_1,rfl⟩:∃a c,u0_1=Value.slice a x0.disk.dirty.length c:=let ⟨a,c,h,_⟩:=s0_1;⟨a,c,h⟩
 obtain⟨cs1,rfl,_⟩:=okWide_struct Try.underlying29 (hval 1 29 v1 rfl rfl)
 obtain⟨fu1,t1⟩:=h1
 obtain⟨x1,e1,w1⟩:=trodEvent t1
 have e1:cs1=#[.int .i64 x1.kind,.int .i64 x1.key,.int .i64 x1.ch,.int .i64 x1.to,.int .i64 x1.amt,.int .i64 x1.fee,.bool x1.yes]:=Array.ext' (by simpa[Value.cells,encEvent]using e1)
 subst e1
 clear hA0 hval0
 simp only[List.append_nil]at hW'
 refine(FnExactLogAdd_walk x0 a0_0 c0_0 a0_1 c0_1 x1 W s0_0 s0_1 w0 w1).mono fun e W' ⟨he,hg⟩=>?_
 subst he
 exact⟨_,rfl,_,_,_,_,_,[],hW',trodAll_mk1 (shut_bool Try.underlying4 true),
  trodAll_below laid hg.below (readable) hB,rfl,hg.below.frame _,fun h=>by cases h⟩
theorem over:Rows.fnExactLogAddRow.holds Try.pinned (OpenSpec.ofChange Rows.fnExactLogAddSpec):=
 OpenClaim.holds_of_wide 3 Try.f3 rfl rfl rfl rfl rfl rfl rfl ⟨rfl,rfl,rfl,rfl,rfl⟩ rfl rfl rfl rfl rfl (by kernel_rfl) Try.func3 (by kernel_rfl)
  (of_decide_eq_true (by kernel_rfl)) (by unfold Func.isWrapper;first|(rw[if_pos (by decide +kernel)];kernel_rfl)|(rw[if_neg (by decide +kernel)];exact⟨rfl,rfl⟩))
  (fun os started H enc _=>lifted os started H enc)
theorem proved:Rows.FnExactLogAddSaid:=
 over
#print axioms proved
end Go.Proofs.Yteblcdnhnckkaaa.fnExactLogAdd

