/- Texts of the proof of FnSizes, joined: E14, E15, E16, E17, E18, E19, E20, EZ, E21, E22, E23, E24, Cur1, ET, ED1, EA1. -/
import Derived.Test.YtogkbcmfoalpiaaGreatJSizes1
import Derived.Test.YtogkbcmfoalpiaaGreatKNum
namespace Go.Proofs.YtogkbcmfoalpiaaGreat
open Go.RowKit
set_option linter.unusedSimpArgs false
set_option linter.unusedVariables false
theorem no_live {b : Nat} : ¬ live (fun _ => False) (fun _ => undef) (ofO []) b := by
  rintro (h | ⟨id,h,_⟩)
  · exact h
  · cases h
def pvsOf (H : Nat → AO) : List AV → Option (List PV)
  | [] => some []
  | .p x :: l => (pvsOf H l).map (x :: ·)
  | .own id :: l => match H id with | .arr e sz rows => (pvsOf H l).map (.lst e.ty sz rows :: ·) | _ => none
  | _ :: _ => none
def lendP (H : Nat → AO) (id r k : Nat) : AV :=
  match H id with
  | .box _ _ cells => match r,pvsOf H cells with | 0,some l => .rp (l.drop k) | _,_ => .bad
  | .arr _ _ rows => match rows[r]? with | some row => .rp (row.drop k) | none => .bad
  | .gone => .bad
-- What a pure callee may read of a value.
mutual
def lend (H : Nat → AO) : AV → AV
  | .own id => match H id with | .arr e sz rows => .p (.lst e.ty sz rows) | _ => .bad
  | .sub id off len => match H id with | .arr e sz rows => .p (.lst e.ty sz ((rows.drop off).take len)) | _ => .bad
  | .ptr id r k => lendP H id r k
  | .agg l => .agg (lendL H l)
  | .tup l => .tup (lendL H l)
  | .clo fn f l => .clo fn (lendL H f) (lendL H l)
  | x => x
def lendL (H : Nat → AO) : List AV → List AV
  | [] => []
  | x :: l => lend H x :: lendL H l
end
abbrev L0 : Nat → Prop := fun _ => False
abbrev ρ0 : Nat → Value := fun _ => undef
section
variable {L O : Nat → Prop} {w0 : World} {N : Nat} {τ : Nat → AV} {H : Nat → AO} {ρ : Nat → Value} {fp : Nat → List Nat} {a : Act} {w : World}
theorem OB.reads {v : Value} {f : List Nat} {e : Pin} {sz : Nat} {rows : List (List PV)} (h : OB L ρ H w v f (.arr e sz rows)) : RV L0 ρ0 (ofO []) w (.p (.lst e.ty sz rows)) v := by
  obtain ⟨xs,fr,b1,b2,b3,b4,_⟩ := h
  rw [RV]
  rcases b3.2 with ⟨q,q2⟩ | ⟨g,cap,cur,q,_,hg,hnc,hcm,_⟩
  · refine ⟨[] ++ fr,?_,fun b hb => no_live⟩
    rw [RW]
    refine ⟨xs,[],fr,b1,?_,rfl⟩
    unfold SlAt
    simp only [Bool.false_eq_true,if_false]
    exact ⟨none,0,by rw [q,q2],by omega,by simp [maxLen],.inl ⟨q2,trivial⟩⟩
  · have b3' := b3
    rw [q] at b3'
    refine ⟨[g] ++ fr,?_,fun b hb => no_live⟩
    rw [RW]
    refine ⟨xs,[g],fr,b1,?_,rfl⟩
    unfold SlAt
    simp only [Bool.false_eq_true,if_false]
    exact ⟨_,cap,q,hnc,hcm,.inr ⟨g,0,rfl,cellsAt_of_own b3',(Array.getElem?_eq_some_iff.1 hg).1,rfl⟩⟩
theorem OB.part {v : Value} {f : List Nat} {e : Pin} {sz off len : Nat} {rows : List (List PV)} {b : Option Addr} {cap : Nat} (h : OB L ρ H w v f (.arr e sz rows)) (h1 : off + len ≤ rows.length) (c1 : len ≤ cap) (c2 : cap ≤ maxLen) (h2 : 0 < len → ∃ g m cap',v = .slice (some ⟨g,0,none⟩) m cap' ∧ b = some ⟨g,off * sz,none⟩) :
    RV L0 ρ0 (ofO []) w (.p (.lst e.ty sz ((rows.drop off).take len))) (.slice b len cap) := by
  obtain ⟨xs,fr,k1,k2,k3,_⟩ := h
  obtain ⟨g1,t1,t2⟩ := k1.drop off
  obtain ⟨g2,t3,t4⟩ := t1.take len
  have hl : ((rows.drop off).take len).length = len := by rw [List.length_take,List.length_drop];omega
  rw [RV]
  by_cases hz : len = 0
  · refine ⟨[] ++ g2,?_,fun b hb => no_live⟩
    rw [RW]
    refine ⟨_,[],g2,t3,?_,rfl⟩
    unfold SlAt
    simp only [Bool.false_eq_true,if_false]
    exact ⟨b,cap,by rw [hl],by omega,c2,.inl ⟨by omega,trivial⟩⟩
  · obtain ⟨g,m,cap',e2,e3⟩ := h2 (by omega)
    rw [e2] at k3
    have hm : m = rows.length := by
      rcases k3.2 with ⟨q,_⟩ | ⟨g',cap',cur,q,_⟩
      · cases q
      · injection q
    subst hm
    refine ⟨[g] ++ g2,?_,fun b hb => no_live⟩
    rw [RW]
    refine ⟨_,[g],g2,t3,?_,rfl⟩
    unfold SlAt
    simp only [Bool.false_eq_true,if_false]
    refine ⟨b,cap,by rw [hl],by omega,c2,.inr ⟨g,off * sz,e3,?_,?_,rfl⟩⟩
    · have := (cellsAt_of_own k3).drop (off * sz)
      rw [Nat.zero_add] at this
      intro i v hi
      rw [List.getElem?_take] at hi
      split at hi
      · exact this i v hi
      · cases hi
    · exact (k3.lt g (by simp [Value.ownBlock])).2
theorem OB.readsW {v : Value} {f : List Nat} {e : Pin} {sz : Nat} {rows : List (List PV)} (h : OB L ρ H w v f (.arr e sz rows)) : ∃ fp,RW w false (.lst e.ty sz rows) v fp := by
  have := h.reads
  rw [RV] at this
  obtain ⟨fp,h1,_⟩ := this
  exact ⟨fp,h1⟩
theorem RWL.of_pvs (hob : ∀ id,∃ f,OB L ρ H w (ρ id) f (H id)) : ∀ {cells : List AV} {l : List PV} {xs : List Value},pvsOf H cells = some l → RVL L ρ H w cells xs → ∃ fp,RWL w false l xs fp
  | [],l,xs,h,h2 => by
    injection h with h
    subst h
    rw [RVL] at h2
    exact ⟨[],by rw [RWL];exact ⟨h2,rfl⟩⟩
  | x :: cells,l,xs,h,h2 => by
    rw [RVL] at h2
    obtain ⟨c,r,rfl,h3,h4⟩ := h2
    cases x with
    | p y =>
      unfold pvsOf at h
      cases hq : pvsOf H cells with
      | none => rw [hq] at h;cases h
      | some m =>
        rw [hq] at h
        injection h with h
        subst h
        obtain ⟨f2,q2⟩ := RWL.of_pvs hob hq h4
        rw [RV] at h3
        obtain ⟨f1,q1,_⟩ := h3
        exact ⟨f1 ++ f2,by rw [RWL];exact ⟨c,r,f1,f2,rfl,rfl,q1,q2⟩⟩
    | own id =>
      unfold pvsOf at h
      obtain ⟨f,ho⟩ := hob id
      cases hH : H id with
      | arr e sz rows =>
        rw [hH] at h ho
        dsimp only at h
        cases hq : pvsOf H cells with
        | none => rw [hq] at h;cases h
        | some m =>
          rw [hq] at h
          injection h with h
          subst h
          obtain ⟨f2,q2⟩ := RWL.of_pvs hob hq h4
          rw [RV,hH] at h3
          obtain ⟨f1,q1⟩ := ho.readsW
          rw [← h3.2 rfl] at q1
          exact ⟨f1 ++ f2,by rw [RWL];exact ⟨c,r,f1,f2,rfl,rfl,q1,q2⟩⟩
      | box T p cs => rw [hH] at h;cases h
      | gone => rw [hH] at h;cases h
    | sub _ _ _ => cases h
    | ptr _ _ _ => cases h
    | rp _ => cases h
    | agg _ => cases h
    | tup _ => cases h
    | clo _ _ _ => cases h
    | dead => cases h
    | bad => cases h
theorem RV.lendP (hob : ∀ id,∃ f,OB L ρ H w (ρ id) f (H id)) {id r k : Nat} {c : Value} (h : RV L ρ H w (.ptr id r k) c) : RV L0 ρ0 (ofO []) w (_root_.Go.Proofs.YtogkbcmfoalpiaaGreat.lendP H id r k) c := by
  unfold _root_.Go.Proofs.YtogkbcmfoalpiaaGreat.lendP
  rw [RV] at h
  obtain ⟨f,ho⟩ := hob id
  cases hH : H id with
  | gone => dsimp only;rw [RV];trivial
  | box T p cells =>
    rw [hH] at h ho
    dsimp only
    obtain ⟨h0,g,m,cap,e1,e2⟩ := h.2 rfl
    split
    · rename_i l hl
      obtain ⟨xs,k1,k2,k3,k4,_⟩ := ho
      obtain ⟨hc,hlt⟩ := own_at (fp := f) k3 e1
      obtain ⟨fp,q⟩ := RWL.of_pvs hob hl k1
      obtain ⟨fd,d1,d2⟩ := RWL.drop k q
      rw [RV]
      exact ⟨g,0 + k,xs.drop k,fd,by rw [e2];simp,d1,hc.drop k,hlt,no_live,fun b hb => no_live⟩
    · rw [RV];trivial
  | arr e sz rows =>
    rw [hH] at h ho
    dsimp only
    obtain ⟨h0,g,m,cap,e1,e2⟩ := h.2 rfl
    split
    · rename_i row hrow
      obtain ⟨xs,fr,k1,k2,k3,k4,_⟩ := ho
      obtain ⟨hc,hlt⟩ := own_at (fp := f) k3 e1
      obtain ⟨c1,cr,c2,f1,f2,f3,p1,p2,p3,p4,p5,_⟩ := RWR.row k1 hrow
      rw [p1] at hc
      have hc2 := (hc.mid p3).drop k
      obtain ⟨fd,d1,d2⟩ := RWL.drop k p5
      rw [RV]
      exact ⟨g,0 + r * sz + k,cr.drop k,fd,by rw [e2];simp [AO.sz],d1,hc2,hlt,no_live,fun b hb => no_live⟩
    · rw [RV];trivial
mutual
theorem RV.lend (hob : ∀ id,∃ f,OB L ρ H w (ρ id) f (H id)) : ∀ (x : AV) {c : Value},RV L ρ H w x c → RV L0 ρ0 (ofO []) w (_root_.Go.Proofs.YtogkbcmfoalpiaaGreat.lend H x) c
  | .p x,c,h => by
    rw [_root_.Go.Proofs.YtogkbcmfoalpiaaGreat.lend] <;> try (intros;contradiction)
    rw [RV] at *
    obtain ⟨fp,h1,h2⟩ := h
    exact ⟨fp,h1,fun b hb => no_live⟩
  | .own id,c,h => by
    rw [_root_.Go.Proofs.YtogkbcmfoalpiaaGreat.lend]
    rw [RV] at h
    obtain ⟨f,ho⟩ := hob id
    cases hH : H id with
    | arr e sz rows =>
      rw [hH] at h ho
      rw [h.2 rfl]
      exact ho.reads
    | box T p cells => dsimp only;rw [RV];trivial
    | gone => dsimp only;rw [RV];trivial
  | .sub id off len,c,h => by
    rw [_root_.Go.Proofs.YtogkbcmfoalpiaaGreat.lend]
    rw [RV] at h
    obtain ⟨f,ho⟩ := hob id
    cases hH : H id with
    | arr e sz rows =>
      rw [hH] at h ho
      obtain ⟨h1,b,cap,rfl,c1,c2,h2⟩ := h.2 rfl
      exact ho.part h1 c1 c2 h2
    | box T p cells => dsimp only;rw [RV];trivial
    | gone => dsimp only;rw [RV];trivial
  | .ptr id r k,c,h => by rw [_root_.Go.Proofs.YtogkbcmfoalpiaaGreat.lend];exact RV.lendP hob h
  | .rp cells,c,h => by
    rw [_root_.Go.Proofs.YtogkbcmfoalpiaaGreat.lend] <;> try (intros;contradiction)
    rw [RV] at *
    obtain ⟨b,off,cs,fp,rfl,h1,h2,h3,h4,h5⟩ := h
    exact ⟨b,off,cs,fp,rfl,h1,h2,h3,no_live,fun b hb => no_live⟩
  | .agg l,c,h => by
    rw [_root_.Go.Proofs.YtogkbcmfoalpiaaGreat.lend]
    rw [RV] at *
    obtain ⟨cs,rfl,h1⟩ := h
    exact ⟨cs,rfl,RVL.lend hob l h1⟩
  | .tup l,c,h => by
    rw [_root_.Go.Proofs.YtogkbcmfoalpiaaGreat.lend]
    rw [RV] at *
    obtain ⟨cs,rfl,h1⟩ := h
    exact ⟨cs,rfl,RVL.lend hob l h1⟩
  | .clo fn f l,c,h => by
    rw [_root_.Go.Proofs.YtogkbcmfoalpiaaGreat.lend]
    rw [RV] at *
    obtain ⟨fs,cs,rfl,h1,h2⟩ := h
    exact ⟨fs,cs,rfl,RVL.lend hob f h1,RVL.lend hob l h2⟩
  | .dead,c,h => by
    rw [_root_.Go.Proofs.YtogkbcmfoalpiaaGreat.lend] <;> try (intros;contradiction)
    rw [RV] at *;exact h
  | .bad,c,h => by
    rw [_root_.Go.Proofs.YtogkbcmfoalpiaaGreat.lend] <;> try (intros;contradiction)
    rw [RV];trivial
theorem RVL.lend (hob : ∀ id,∃ f,OB L ρ H w (ρ id) f (H id)) : ∀ (x : List AV) {c : List Value},RVL L ρ H w x c → RVL L0 ρ0 (ofO []) w (lendL H x) c
  | [],c,h => by rw [lendL];rw [RVL] at *;exact h
  | x :: xs,c,h => by
    rw [lendL]
    rw [RVL] at *
    obtain ⟨c,r,rfl,h1,h2⟩ := h
    exact ⟨c,r,rfl,RV.lend hob x h1,RVL.lend hob xs h2⟩
end
end
-- A value that refers to no memory.
mutual
def flatA : AV → Bool
  | .p (.v _) => true
  | .agg l => flatL l
  | .tup l => flatL l
  | _ => false
def flatL : List AV → Bool
  | [] => true
  | x :: l => flatA x && flatL l
end
section
variable {L L' : Nat → Prop} {H H' : Nat → AO} {ρ ρ' : Nat → Value} {w w' : World}
mutual
theorem RV.flat : ∀ (x : AV) {c : Value},flatA x = true → RV L ρ H w x c → RV L' ρ' H' w' x c
  | .p (.v v),c,_,h => by
    rw [RV] at *
    obtain ⟨fp,h1,_⟩ := h
    rw [RW] at h1
    obtain ⟨h1,rfl,h2⟩ := h1
    exact ⟨[],by rw [RW];exact ⟨h1,rfl,h2⟩,by simp⟩
  | .agg l,c,hf,h => by
    unfold flatA at hf
    rw [RV] at *
    obtain ⟨cs,rfl,h1⟩ := h
    exact ⟨cs,rfl,RVL.flat l hf h1⟩
  | .tup l,c,hf,h => by
    unfold flatA at hf
    rw [RV] at *
    obtain ⟨cs,rfl,h1⟩ := h
    exact ⟨cs,rfl,RVL.flat l hf h1⟩
  | .p (.lst _ _ _),_,hf,_ => by simp [flatA] at hf
  | .own _,_,hf,_ => by simp [flatA] at hf
  | .sub _ _ _,_,hf,_ => by simp [flatA] at hf
  | .ptr _ _ _,_,hf,_ => by simp [flatA] at hf
  | .rp _,_,hf,_ => by simp [flatA] at hf
  | .clo _ _ _,_,hf,_ => by simp [flatA] at hf
  | .dead,_,hf,_ => by simp [flatA] at hf
  | .bad,_,hf,_ => by simp [flatA] at hf
theorem RVL.flat : ∀ (x : List AV) {c : List Value},flatL x = true → RVL L ρ H w x c → RVL L' ρ' H' w' x c
  | [],c,_,h => by rw [RVL] at *;exact h
  | x :: xs,c,hf,h => by
    unfold flatL at hf
    simp only [Bool.and_eq_true] at hf
    rw [RVL] at *
    obtain ⟨c,r,rfl,h1,h2⟩ := h
    exact ⟨c,r,rfl,RV.flat x hf.1 h1,RVL.flat xs hf.2 h2⟩
end
end
section
variable {P : Program} {L O : Nat → Prop} {w0 : World} {N : Nat} {τ : Nat → AV} {H : Nat → AO} {Q : AQ} {ops : Array Oper} {l : List Oper} {o : Oper}
theorem RR.grow {ρ : Nat → Value} {fp : Nat → List Nat} {a : Act} {w w' : World} (h : RR L O w0 N τ H ρ fp a w) (hc : Chg (fun _ => False) w w') : RR L O w0 N τ H ρ fp a w' :=
  have E : Env L ρ ρ H H w w' noK := ⟨hc.size,fun b hb hn => ⟨hc.block b hb (fun q => q),hn⟩,fun _ _ h => ⟨h,rfl,rfl,rfl⟩⟩
  ⟨h.chg.step (X := fun _ => False) hc.os hc.tape hc.output hc.size hc.block (fun _ q => q.elim) (fun b o hb hlt => hc.nf b o hb hlt),h.size,h.defers,fun t => by have := RV.env E _ (h.tm t);rwa [kil_no] at this,fun id => by
    have := (h.ob id).env E (fun b hb => hc.block b ((h.ob id).lt b hb) (fun q => q))
    rwa [AO.kil_no] at this,h.dj,h.own,h.lo⟩
theorem St.lend {y : Operand} {l : List Operand} {ts : Array TypeId} {f : FuncId} {fn : Func} {args : List AV} {x : AV} (ho : o.op = .call { callee := .value y,args := l.toArray,argTypes := ts }) (ht : ∀ s,o.dst = some s → s < N)
    (hy : ev τ y = .clo (.func f) [] []) (hf : P.funcs[f]? = some fn) (hf1 : (fn.name == "runtime.NumGoroutine") = false) (hf2 : fn.body.isNone = false) (hc : GC P f args [] x []) (hx : flatA x = true) (ha : lendL H (l.map (ev τ)) = args) :
    St P o N τ H [] (updo τ o.dst x) H := by
  refine ⟨?_⟩
  intro L O w0 ρ fp a w K Q hrr hk
  have ey := hrr.ev y
  rw [hy,RV] at ey
  obtain ⟨cf,cc,ey,e1,e2⟩ := ey
  rw [RVL] at e1 e2
  subst e1 e2
  have hv := RVL.lend (fun id => ⟨_,hrr.ob id⟩) _ (RVL.map (fun z => hrr.ev z) l)
  rw [ha] at hv
  have hcall := hc L0 w (l.map a.eval) ρ0 (fun _ => []) (fun _ q => q.elim) hv (fun i => rfl) (by simp) (by simp)
  have hrun : (execOp a.eval o).run P w = .ok (.enter f (l.map a.eval).toArray) w := by
    simp only [execOp,ho,resolve,Deferred.ofValue,ey,invoke,callFunc,Sem.run_bind,Sem.run_pure,Result.andThen_ok,run_program,hf,hf1,hf2,Bool.false_eq_true,if_false,List.map_toArray,List.append_toArray,List.nil_append,List.append_nil]
  unfold Oper.wp
  rw [hrun]
  show Calls P f _ w _
  refine Calls.mono hcall ?_
  rintro e w' ⟨_,_,⟨rfl,rfl⟩,v,ρ',fp',rfl,g1,g2,g3⟩
  have hg : Chg (fun _ => False) w w' := ⟨g1.os,g1.tape,g1.output,g1.size,fun b hb _ => g1.block b hb (by simp),fun b o hb hlt => g1.nf b o (by simpa using hb) hlt⟩
  refine hk _ _ _ _ ((hrr.grow hg).puto o.dst (RV.flat _ hx g2) ht) (fun X hX => ⟨⟨hg.size,fun b hb _ => hg.block b hb (fun q => q)⟩,fun j h1 h2 b h3 => .inr ⟨j,h1,h2,h3⟩⟩)
theorem end_xret {rs : List RVar} {R : AV → List (Nat × AO) → Prop} (x : AV) (ob1 : List (Nat × AO)) (hR : R x ob1) (h1 : retX τ H rs = some x) (h2 : allO ob1 H) : EndsX rs R .ret τ H := ⟨x,ob1,hR,h1,h2⟩
theorem NP.endsX {rs : List RVar} {R : AV → List (Nat × AO) → Prop} : NP (EndsX rs R) := fun _ _ _ h => h
theorem GX.gc {f : FuncId} {args : List AV} {ob0 ob1 : List (Nat × AO)} {x : AV} {R : AV → List (Nat × AO) → Prop} (h : GX P f args ob0 R) (hR : ∀ y o,R y o → y = x ∧ o = ob1) : GC P f args ob0 x ob1 := h.mono hR
theorem AW.seqE (K : List (Nat × AV)) (KO : List (Nat × AO)) {D : Type} (T : D → List (Nat × AV)) (B : D → List (Nat × AO)) (I : D → Prop) {x y : Code} (_ : allT K τ) (_ : allO KO H)
    (h : AW P L O w0 N x τ H (Q.andThen fun τ H => ∃ d,I d ∧ allT (T d) τ ∧ allO (B d) H ∧ allT K τ ∧ allO KO H)) (h2 : ∀ d,I d → AW P L O w0 N y (ofT (T d ++ K)) (ofO (B d ++ KO)) Q) : AW P L O w0 N (.seq x y) τ H Q :=
  AW.seqJ (fun d => T d ++ K) (fun d => B d ++ KO) I (h.mono fun e τ H q => by
    cases e <;> first | exact q | (obtain ⟨d,q1,q2,q3,q4,q5⟩ := q;exact ⟨d,q1,allT.app q2 q4,allO.app q3 q5⟩)) h2
theorem rd_nilc {x : Operand} {id r k : Nat} {X : Nat → Bool} (ho : o.op = .nilCheck x) (hx : ev τ x = .ptr id r k) (hh : (H id).here = true) : Rd P o τ H X (.ptr id r k) := by
  refine Rd.pure fun {L ρ a w} he _ => ⟨a.eval x,hx ▸ he x,fun W => ?_⟩
  have h := he x
  rw [hx,RV] at h
  obtain ⟨_,g,m,cap,_,e⟩ := h.2 hh
  simp [execOp,ho,e]
theorem rd_nilc_rp {x : Operand} {cells : List PV} {X : Nat → Bool} (ho : o.op = .nilCheck x) (hx : ev τ x = .rp cells) : Rd P o τ H X (.rp cells) := by
  refine Rd.pure fun {L ρ a w} he _ => ⟨a.eval x,hx ▸ he x,fun W => ?_⟩
  have h := he x
  rw [hx,RV] at h
  obtain ⟨b,off,cs,fp,e,_⟩ := h
  simp [execOp,ho,e]
theorem upd_ob {ρ : Nat → Value} {fp : Nat → List Nat} {w : World} {id : Nat} {o' : AO} (h : ∀ j,OB L ρ H w (ρ j) (fp j) (H j)) (h1 : o'.here = (H id).here) (h2 : o'.len = (H id).len) (h3 : o'.sz = (H id).sz) (hob : OB L ρ (upd H id o') w (ρ id) (fp id) o') : ∀ j,OB L ρ (upd H id o') w (ρ j) (fp j) (upd H id o' j) := fun j => by
  by_cases e : j = id
  · subst e;rw [upd_same];exact hob
  · rw [upd_ne _ _ e]
    have E : Env L ρ ρ H (upd H id o') w w noK := ⟨Nat.le_refl _,fun b _ hn => ⟨rfl,fun hl => hn (by
      rcases hl with hl | ⟨i,q1,q2⟩
      · exact .inl hl
      · by_cases ei : i = id
        · subst ei;rw [upd_same,h1] at q1;exact .inr ⟨i,q1,q2⟩
        · rw [upd_ne _ _ ei] at q1;exact .inr ⟨i,q1,q2⟩)⟩,fun i _ hi => by
      by_cases ei : i = id
      · subst ei;rw [upd_same] at hi ⊢;exact ⟨h1 ▸ hi,rfl,h2,h3⟩
      · rw [upd_ne _ _ ei] at hi ⊢;exact ⟨hi,rfl,rfl,rfl⟩⟩
    have := (h j).env E (fun _ _ => rfl)
    rwa [AO.kil_no] at this
theorem upd_env {ρ : Nat → Value} {w : World} {id : Nat} {o' : AO} (h1 : o'.here = (H id).here) (h2 : o'.len = (H id).len) (h3 : o'.sz = (H id).sz) : Env L ρ ρ H (upd H id o') w w noK :=
  ⟨Nat.le_refl _,fun b _ hn => ⟨rfl,fun hl => hn (by
      rcases hl with hl | ⟨i,q1,q2⟩
      · exact .inl hl
      · by_cases ei : i = id
        · subst ei;rw [upd_same,h1] at q1;exact .inr ⟨i,q1,q2⟩
        · rw [upd_ne _ _ ei] at q1;exact .inr ⟨i,q1,q2⟩)⟩,fun i _ hi => by
      by_cases ei : i = id
      · subst ei;rw [upd_same] at hi ⊢;exact ⟨h1 ▸ hi,rfl,h2,h3⟩
      · rw [upd_ne _ _ ei] at hi ⊢;exact ⟨hi,rfl,rfl,rfl⟩⟩
theorem RR.pinB {ρ : Nat → Value} {fp : Nat → List Nat} {a : Act} {w : World} (h : RR L O w0 N τ H ρ fp a w) {id : Nat} {T : TypeId} {cells : List AV} {p : Option Value} (hH : H id = .box T p cells) : RR L O w0 N τ (upd H id (.box T (some (ρ id)) cells)) ρ fp a w := by
  have e1 : (AO.box T (some (ρ id)) cells).here = (H id).here := by rw [hH];rfl
  have e2 : (AO.box T (some (ρ id)) cells).len = (H id).len := by rw [hH];rfl
  have e3 : (AO.box T (some (ρ id)) cells).sz = (H id).sz := by rw [hH];rfl
  have E := upd_env (L := L) (ρ := ρ) (w := w) e1 e2 e3
  refine ⟨h.chg,h.size,h.defers,fun t => by have := RV.env E _ (h.tm t);rwa [kil_no] at this,upd_ob h.ob e1 e2 e3 ?_,h.dj,h.own,h.lo⟩
  have hob := (h.ob id).env E (fun _ _ => rfl)
  rw [AO.kil_no,hH] at hob
  obtain ⟨xs,k1,k2,k3,k4,k5⟩ := hob
  exact ⟨xs,k1,k2,k3,k4,fun g hg => by injection hg⟩
theorem RR.pinA {ρ : Nat → Value} {fp : Nat → List Nat} {a : Act} {w : World} (h : RR L O w0 N τ H ρ fp a w) {id : Nat} {e : Pin} {sz : Nat} {rows : List (List PV)} (hH : H id = .arr e sz rows) (pt : Option Value) (hp : ∀ u,pt = some u → u = ρ id) : RR L O w0 N τ (upd H id (.arr ⟨e.ty,pt⟩ sz rows)) ρ fp a w := by
  have e1 : (AO.arr ⟨e.ty,pt⟩ sz rows).here = (H id).here := by rw [hH];rfl
  have e2 : (AO.arr ⟨e.ty,pt⟩ sz rows).len = (H id).len := by rw [hH];rfl
  have e3 : (AO.arr ⟨e.ty,pt⟩ sz rows).sz = (H id).sz := by rw [hH];rfl
  have E := upd_env (L := L) (ρ := ρ) (w := w) e1 e2 e3
  refine ⟨h.chg,h.size,h.defers,fun t => by have := RV.env E _ (h.tm t);rwa [kil_no] at this,upd_ob h.ob e1 e2 e3 ?_,h.dj,h.own,h.lo⟩
  have hob := (h.ob id).env E (fun _ _ => rfl)
  rw [AO.kil_no,hH] at hob
  obtain ⟨xs,fr,k1,k2,k3,k4,k5⟩ := hob
  exact ⟨xs,fr,k1,k2,k3,k4,fun g hg => (hp g hg).symm⟩
theorem AW.pinB (id : Nat) {T : TypeId} {cells : List AV} {p : Option Value} {c : Code} (hH : H id = .box T p cells) (h : ∀ g,AW P L O w0 N c τ (upd H id (.box T (some g) cells)) Q) : AW P L O w0 N c τ H Q := fun ρ fp a w hr => h (ρ id) ρ fp a w (hr.pinB hH)
theorem AW.pinA (id : Nat) {e : Pin} {sz : Nat} {rows : List (List PV)} {c : Code} (hH : H id = .arr e sz rows) (h : ∀ g,AW P L O w0 N c τ (upd H id (.arr ⟨e.ty,some g⟩ sz rows)) Q) : AW P L O w0 N c τ H Q := fun ρ fp a w hr => h (ρ id) ρ fp a w (hr.pinA hH _ (fun u hu => by injection hu with hu;exact hu.symm))
theorem AL.pinB (id : Nat) {T : TypeId} {cells : List AV} {p : Option Value} (hH : H id = .box T p cells) (h : ∀ g,AL P L O w0 N ops l τ (upd H id (.box T (some g) cells)) Q) : AL P L O w0 N ops l τ H Q := fun ρ fp a w hr => h (ρ id) ρ fp a w (hr.pinB hH)
theorem AL.pinA (id : Nat) {e : Pin} {sz : Nat} {rows : List (List PV)} (hH : H id = .arr e sz rows) (h : ∀ g,AL P L O w0 N ops l τ (upd H id (.arr ⟨e.ty,some g⟩ sz rows)) Q) : AL P L O w0 N ops l τ H Q := fun ρ fp a w hr => h (ρ id) ρ fp a w (hr.pinA hH _ (fun u hu => by injection hu with hu;exact hu.symm))
theorem AW.unpin (id : Nat) {e : Pin} {sz : Nat} {rows : List (List PV)} {c : Code} (hH : H id = .arr e sz rows) (h : AW P L O w0 N c τ (upd H id (.arr ⟨e.ty,none⟩ sz rows)) Q) : AW P L O w0 N c τ H Q := fun ρ fp a w hr => h ρ fp a w (hr.pinA hH none (fun u hu => by cases hu))
theorem AL.unpin (id : Nat) {e : Pin} {sz : Nat} {rows : List (List PV)} (hH : H id = .arr e sz rows) (h : AL P L O w0 N ops l τ (upd H id (.arr ⟨e.ty,none⟩ sz rows)) Q) : AL P L O w0 N ops l τ H Q := fun ρ fp a w hr => h ρ fp a w (hr.pinA hH none (fun u hu => by cases hu))
def Imp (x y : AV) : Prop := ∀ {L : Nat → Prop} {ρ : Nat → Value} {H : Nat → AO} {w : World} {c : Value},RV L ρ H w x c → RV L ρ H w y c
def ImpL (x y : List AV) : Prop := ∀ {L : Nat → Prop} {ρ : Nat → Value} {H : Nat → AO} {w : World} {c : List Value},RVL L ρ H w x c → RVL L ρ H w y c
theorem Imp.refl (x : AV) : Imp x x := fun h => h
theorem Imp.nil (e : TypeId) (sz : Nat) : Imp (.p (.v (.slice none 0 0))) (.p (.lst e sz [])) := fun {L ρ H w c} h => by
  have := h.v_eq
  subst this
  rw [RV]
  refine ⟨[],?_,by simp⟩
  rw [RW]
  refine ⟨[],[],[],by simp [RWR],?_,rfl⟩
  unfold SlAt
  simp only [Bool.false_eq_true,if_false]
  exact ⟨none,0,rfl,Nat.le_refl _,by simp [maxLen],.inl ⟨rfl,trivial⟩⟩
theorem ImpL.nil : ImpL [] [] := fun h => h
theorem ImpL.cons {x y : AV} {l m : List AV} (h : Imp x y) (h2 : ImpL l m) : ImpL (x :: l) (y :: m) := fun {L ρ H w c} q => by
  rw [RVL] at *
  obtain ⟨c,r,rfl,q1,q2⟩ := q
  exact ⟨c,r,rfl,h q1,h2 q2⟩
theorem Imp.agg {l m : List AV} (h : ImpL l m) : Imp (.agg l) (.agg m) := fun {L ρ H w c} q => by
  rw [RV] at *
  obtain ⟨cs,rfl,q⟩ := q
  exact ⟨cs,rfl,h q⟩
theorem Imp.tup {l m : List AV} (h : ImpL l m) : Imp (.tup l) (.tup m) := fun {L ρ H w c} q => by
  rw [RV] at *
  obtain ⟨cs,rfl,q⟩ := q
  exact ⟨cs,rfl,h q⟩
theorem GX.imp {f : FuncId} {args : List AV} {ob0 : List (Nat × AO)} {R R' : AV → List (Nat × AO) → Prop} (h : GX P f args ob0 R) (hR : ∀ x ob1,R x ob1 → ∃ x',Imp x x' ∧ R' x' ob1) : GX P f args ob0 R' := fun L w cs ρ fp h1 h2 h3 h4 h5 =>
  Calls.mono (h L w cs ρ fp h1 h2 h3 h4 h5) fun e w' ⟨x,ob1,q,v,ρ',fp',q1,q2,q3,q4⟩ => by
    obtain ⟨x',i1,i2⟩ := hR x ob1 q
    exact ⟨x',ob1,i2,v,ρ',fp',q1,q2,i1 q3,q4⟩
theorem AW.imp (t : Nat) {x y : AV} {c : Code} (hx : τ t = x) (hi : Imp x y) (h : AW P L O w0 N c (upd τ t y) H Q) : AW P L O w0 N c τ H Q := fun ρ fp a w hr => by
  refine h ρ fp a w ⟨hr.chg,hr.size,hr.defers,fun s => ?_,hr.ob,hr.dj,hr.own,hr.lo⟩
  by_cases e : s = t
  · subst e;rw [upd_same];exact hi (hx ▸ hr.tm s)
  · rw [upd_ne _ _ e];exact hr.tm s
theorem AL.imp (t : Nat) {x y : AV} (hx : τ t = x) (hi : Imp x y) (h : AL P L O w0 N ops l (upd τ t y) H Q) : AL P L O w0 N ops l τ H Q := fun ρ fp a w hr => by
  refine h ρ fp a w ⟨hr.chg,hr.size,hr.defers,fun s => ?_,hr.ob,hr.dj,hr.own,hr.lo⟩
  by_cases e : s = t
  · subst e;rw [upd_same];exact hi (hx ▸ hr.tm s)
  · rw [upd_ne _ _ e];exact hr.tm s
end

section
variable {P : Program} {o : Oper} {τ : Nat → AV} {H : Nat → AO} {X : Nat → Bool}
theorem rd_val {op : BinOp} {T yT : TypeId} {x y : Operand} {vx vy v : Value} (ho : o.op = .binOp op T x y yT) (hx : ev τ x = .p (.v vx)) (hy : ev τ y = .p (.v vy)) (h : ∀ W,(do eqGuard op T x y vx vy;binOp op T vx vy : Sem Value).run P W = .ok v W) (hv : v.oneCell' = true) : Rd P o τ H X (.p (.v v)) := by
  apply Rd.pure;intro L ρ a w he _
  have e1 := he x
  have e2 := he y
  rw [hx] at e1
  rw [hy] at e2
  refine ⟨v,RV.v_mk hv,fun W => ?_⟩
  have : execOp a.eval o = (do let v ← (do eqGuard op T x y (a.eval x) (a.eval y);binOp op T (a.eval x) (a.eval y));pure (.value v)) := by simp only [execOp,ho]
  rw [this,e1.v_eq,e2.v_eq,Sem.run_bind,h]
  rfl
variable {T : TypeId} {x y : Operand} {k k' : IntKind} {a b r : Int}
theorem run_addw (hr : k.wrap (a + b) = r) : ∀ W,(do eqGuard .add T x y (.int k a) (.int k b);binOp .add T (.int k a) (.int k b) : Sem Value).run P W = .ok (.int k r) W := fun W => by simp [eqGuard,binOp,Op.intArith,hr]
theorem run_subw (hr : k.wrap (a - b) = r) : ∀ W,(do eqGuard .sub T x y (.int k a) (.int k b);binOp .sub T (.int k a) (.int k b) : Sem Value).run P W = .ok (.int k r) W := fun W => by simp [eqGuard,binOp,Op.intArith,hr]
theorem run_mulw (hr : k.wrap (a * b) = r) : ∀ W,(do eqGuard .mul T x y (.int k a) (.int k b);binOp .mul T (.int k a) (.int k b) : Sem Value).run P W = .ok (.int k r) W := fun W => by simp [eqGuard,binOp,Op.intArith,hr]
theorem run_and (hr : bits .and k a b = r) : ∀ W,(do eqGuard .and T x y (.int k a) (.int k b);binOp .and T (.int k a) (.int k b) : Sem Value).run P W = .ok (.int k r) W := fun W => by simp [eqGuard,binOp,intBits_and,hr]
theorem run_or (hr : bits .or k a b = r) : ∀ W,(do eqGuard .or T x y (.int k a) (.int k b);binOp .or T (.int k a) (.int k b) : Sem Value).run P W = .ok (.int k r) W := fun W => by simp [eqGuard,binOp,intBits_or,hr]
theorem run_xor (hr : bits .xor k a b = r) : ∀ W,(do eqGuard .xor T x y (.int k a) (.int k b);binOp .xor T (.int k a) (.int k b) : Sem Value).run P W = .ok (.int k r) W := fun W => by simp [eqGuard,binOp,intBits_xor,hr]
theorem run_shl (hk : k.bits = 64) (h0 : 0 ≤ b) (h1 : b ≤ 64) (hr : k.wrap (a * 2 ^ b.toNat) = r) : ∀ W,(do eqGuard .shl T x y (.int k a) (.int k' b);binOp .shl T (.int k a) (.int k' b) : Sem Value).run P W = .ok (.int k r) W := fun W => by
  have q1 : ¬ b < 0 := by omega
  have q2 : min b.toNat 64 = b.toNat := by omega
  simp [eqGuard,binOp,Op.shift,q1,hk,q2,hr]
theorem run_shr (hk : k.bits = 64) (h0 : 0 ≤ b) (h1 : b ≤ 64) (hr : a / 2 ^ b.toNat = r) : ∀ W,(do eqGuard .shr T x y (.int k a) (.int k' b);binOp .shr T (.int k a) (.int k' b) : Sem Value).run P W = .ok (.int k r) W := fun W => by
  have q1 : ¬ b < 0 := by omega
  have q2 : min b.toNat 64 = b.toNat := by omega
  simp [eqGuard,binOp,Op.shift,q1,hk,q2]
  first | exact hr | (rw [Int.fdiv_eq_ediv_of_nonneg _ (Int.le_of_lt (Int.pow_pos (by decide)))];exact hr)
end
theorem wrap_u64 {n : Int} (h0 : 0 ≤ n) (h1 : n < 18446744073709551616) : IntKind.u64.wrap n = n := by
  have e : IntKind.u64.wrap n = n % 18446744073709551616 := by simp [IntKind.wrap,IntKind.signed,IntKind.bits]
  rw [e];omega
theorem bits_or_add {a b : Int} (m : Nat) (h0 : 0 ≤ a) (h1 : a < 18446744073709551616) (h2 : a % 2 ^ m = 0) (h3 : 0 ≤ b) (h4 : b < 2 ^ m) (h5 : a + b < 18446744073709551616) : bits .or .u64 a b = a + b := by
  unfold bits
  have e : IntKind.u64.bits = 64 := rfl
  obtain ⟨A,rfl⟩ := Int.eq_ofNat_of_zero_le h0
  obtain ⟨B,rfl⟩ := Int.eq_ofNat_of_zero_le h3
  have hA : A < 18446744073709551616 := by omega
  have hB : B < 2 ^ m := by exact_mod_cast h4
  have hAm : A % 2 ^ m = 0 := by exact_mod_cast h2
  have hBb : B < 18446744073709551616 := by omega
  dsimp only
  rw [e]
  have n1 : (BitVec.ofInt 64 (A : Int)).toNat = A := by rw [BitVec.toNat_ofInt];omega
  have n2 : (BitVec.ofInt 64 (B : Int)).toNat = B := by rw [BitVec.toNat_ofInt];omega
  rw [BitVec.toNat_or,n1,n2]
  obtain ⟨q,hq⟩ : ∃ q,A = 2 ^ m * q := ⟨A / 2 ^ m,by have := Nat.div_add_mod A (2 ^ m);omega⟩
  rw [hq,← Nat.two_pow_add_eq_or_of_lt hB q,← hq]
  rw [wrap_u64 (by omega) (by omega)]
  omega
theorem bits_and_mask {a : Int} (h0 : 0 ≤ a) (h1 : a < 18446744073709551616) : bits .and .u64 a 4294967295 = a % 4294967296 := by
  unfold bits
  have e : IntKind.u64.bits = 64 := rfl
  obtain ⟨A,rfl⟩ := Int.eq_ofNat_of_zero_le h0
  dsimp only
  rw [e]
  have n1 : (BitVec.ofInt 64 (A : Int)).toNat = A := by rw [BitVec.toNat_ofInt];omega
  have n2 : (BitVec.ofInt 64 (4294967295 : Int)).toNat = 2 ^ 32 - 1 := by decide
  rw [BitVec.toNat_and,n1,n2,Nat.and_two_pow_sub_one_eq_mod]
  rw [wrap_u64 (by omega) (by omega)]
  omega
theorem GC.of_vals {P : Program} {f : FuncId} {args : List AV} {x : AV} {r : Value} {vs : List Value} (hr : ∀ {L : Nat → Prop} {ρ : Nat → Value} {w : World},RV L ρ (ofO []) w x r) (hv : vals args = some vs) (h : ∀ w,Calls P f vs.toArray w fun e w' => e = .returned r ∧ Grow w w') : GC P f args [] x [] := by
  intro L w cs ρ fp hL hargs hob hdj hLf
  have hcs := vals_eq hv hargs
  subst hcs
  refine Calls.mono (h w) ?_
  rintro e w' ⟨rfl,g⟩
  refine ⟨x,[],⟨rfl,rfl⟩,r,ρ,fun _ => [],rfl,⟨g.below.os,g.below.tape,g.below.output,g.size,fun b hb _ => g.below.block b hb,fun b o hb hlt => ?_⟩,hr,fun i => rfl,by simp,by simp⟩
  rcases hb with ⟨i,hi⟩ | hb
  · have := (hob i).only hi
    cases this.1
  · exact g.nf b o hb hlt
theorem RV.tupv {L : Nat → Prop} {ρ : Nat → Value} {H : Nat → AO} {w : World} : ∀ {l : List AV} {cs : List Value},l = cs.map (fun c => .p (.v c)) → cs.all (·.oneCell') = true → RV L ρ H w (.tup l) (.tuple cs.toArray) := fun {l cs} h1 h2 => by
  subst h1
  rw [RV]
  exact ⟨cs,rfl,RVL.pv cs h2⟩

def swp (a b i : Nat) : Nat := if i = a then b else if i = b then a else i
theorem swp_swp (a b i : Nat) : swp a b (swp a b i) = i := by
  unfold swp
  split
  · rename_i h;subst h
    by_cases e : b = i
    · subst e;simp
    · rw [if_neg e,if_pos rfl]
  · rename_i h
    split
    · rename_i h2;subst h2;simp
    · rename_i h2;first | rfl | rw [if_neg h,if_neg h2]
theorem swp_inj {a b i j : Nat} (h : swp a b i = swp a b j) : i = j := by rw [← swp_swp a b i,h,swp_swp]
mutual
def per (a b : Nat) : AV → AV
  | .own id => .own (swp a b id)
  | .sub id off len => .sub (swp a b id) off len
  | .ptr id r k => .ptr (swp a b id) r k
  | .agg l => .agg (perL a b l)
  | .tup l => .tup (perL a b l)
  | .clo fn f l => .clo fn (perL a b f) (perL a b l)
  | x => x
def perL (a b : Nat) : List AV → List AV
  | [] => []
  | x :: l => per a b x :: perL a b l
end
def AO.per (a b : Nat) : AO → AO
  | .box T p cells => .box T p (perL a b cells)
  | o => o
theorem perL_length (a b : Nat) : ∀ l,(perL a b l).length = l.length
  | [] => rfl
  | x :: xs => by rw [perL,List.length_cons,perL_length a b xs,List.length_cons]
theorem AO.per_here (a b : Nat) (o : AO) : (o.per a b).here = o.here := by cases o <;> rfl
theorem AO.per_len (a b : Nat) (o : AO) : (o.per a b).len = o.len := by cases o <;> rfl
theorem AO.per_sz (a b : Nat) (o : AO) : (o.per a b).sz = o.sz := by
  cases o with
  | box T p cells => exact perL_length a b cells
  | _ => rfl
theorem per_cell (a b : Nat) (x : AV) (h : x.cell = true) : (per a b x).cell = true := by
  cases x <;> simp only [AV.cell,Bool.false_eq_true] at h <;> simp only [per] <;> rfl
theorem perL_cell (a b : Nat) : ∀ (l : List AV),(∀ x ∈ l,x.cell = true) → ∀ x ∈ perL a b l,x.cell = true
  | [],h => h
  | y :: l,h => by
    rw [perL]
    intro x hx
    rcases List.mem_cons.1 hx with rfl | hx
    · exact per_cell a b y (h y (by simp))
    · exact perL_cell a b l (fun z hz => h z (by simp [hz])) x hx
section
variable {a b : Nat} {L : Nat → Prop} {ρ : Nat → Value} {H : Nat → AO} {w : World}
theorem live_per {x : Nat} : live L (fun j => ρ (swp a b j)) (fun j => (H (swp a b j)).per a b) x ↔ live L ρ H x := by
  unfold live
  constructor
  · rintro (h | ⟨j,h1,h2⟩)
    · exact .inl h
    · rw [AO.per_here] at h1;exact .inr ⟨_,h1,h2⟩
  · rintro (h | ⟨j,h1,h2⟩)
    · exact .inl h
    · refine .inr ⟨swp a b j,?_,?_⟩
      · rw [AO.per_here,swp_swp];exact h1
      · show (ρ (swp a b (swp a b j))).ownBlock = some x
        rw [swp_swp];exact h2
mutual
theorem RV.per : ∀ (x : AV) {c : Value},RV L ρ H w x c → RV L (fun j => ρ (swp a b j)) (fun j => (H (swp a b j)).per a b) w (_root_.Go.Proofs.YtogkbcmfoalpiaaGreat.per a b x) c
  | .p x,c,h => by
    rw [_root_.Go.Proofs.YtogkbcmfoalpiaaGreat.per] <;> try (intros;contradiction)
    rw [RV] at *
    obtain ⟨fp,h1,h2⟩ := h
    exact ⟨fp,h1,fun b hb hl => h2 b hb (live_per.1 hl)⟩
  | .own j,c,h => by
    rw [_root_.Go.Proofs.YtogkbcmfoalpiaaGreat.per]
    rw [RV] at *
    rw [swp_swp,AO.per_here]
    exact h
  | .sub j off len,c,h => by
    rw [_root_.Go.Proofs.YtogkbcmfoalpiaaGreat.per]
    rw [RV] at *
    rw [swp_swp,AO.per_here,AO.per_len,AO.per_sz]
    exact h
  | .ptr j i kk,c,h => by
    rw [_root_.Go.Proofs.YtogkbcmfoalpiaaGreat.per]
    rw [RV] at *
    rw [swp_swp,AO.per_here,AO.per_len,AO.per_sz]
    exact h
  | .rp cells,c,h => by
    rw [_root_.Go.Proofs.YtogkbcmfoalpiaaGreat.per] <;> try (intros;contradiction)
    rw [RV] at *
    obtain ⟨b,off,cs,fp,rfl,h1,h2,h3,h4,h5⟩ := h
    exact ⟨b,off,cs,fp,rfl,h1,h2,h3,fun hl => h4 (live_per.1 hl),fun b hb hl => h5 b hb (live_per.1 hl)⟩
  | .agg l,c,h => by
    rw [_root_.Go.Proofs.YtogkbcmfoalpiaaGreat.per]
    rw [RV] at *
    obtain ⟨cs,rfl,h1⟩ := h
    exact ⟨cs,rfl,RVL.per l h1⟩
  | .tup l,c,h => by
    rw [_root_.Go.Proofs.YtogkbcmfoalpiaaGreat.per]
    rw [RV] at *
    obtain ⟨cs,rfl,h1⟩ := h
    exact ⟨cs,rfl,RVL.per l h1⟩
  | .clo fn f l,c,h => by
    rw [_root_.Go.Proofs.YtogkbcmfoalpiaaGreat.per]
    rw [RV] at *
    obtain ⟨fs,cs,rfl,h1,h2⟩ := h
    exact ⟨fs,cs,rfl,RVL.per f h1,RVL.per l h2⟩
  | .dead,c,h => by
    rw [_root_.Go.Proofs.YtogkbcmfoalpiaaGreat.per] <;> try (intros;contradiction)
    rw [RV] at *;exact h
  | .bad,c,h => by
    rw [_root_.Go.Proofs.YtogkbcmfoalpiaaGreat.per] <;> try (intros;contradiction)
    rw [RV];trivial
theorem RVL.per : ∀ (x : List AV) {c : List Value},RVL L ρ H w x c → RVL L (fun j => ρ (swp a b j)) (fun j => (H (swp a b j)).per a b) w (perL a b x) c
  | [],c,h => by rw [perL];rw [RVL] at *;exact h
  | x :: xs,c,h => by
    rw [perL]
    rw [RVL] at *
    obtain ⟨c,r,rfl,h1,h2⟩ := h
    exact ⟨c,r,rfl,RV.per x h1,RVL.per xs h2⟩
end
end
section
variable {P : Program} {L O : Nat → Prop} {w0 : World} {N : Nat} {τ : Nat → AV} {H : Nat → AO} {Q : AQ} {ops : Array Oper} {l : List Oper}
theorem RR.swap {ρ : Nat → Value} {fp : Nat → List Nat} {act : Act} {w : World} (h : RR L O w0 N τ H ρ fp act w) (a b : Nat) : RR L O w0 N (fun t => per a b (τ t)) (fun j => (H (swp a b j)).per a b) (fun j => ρ (swp a b j)) (fun j => fp (swp a b j)) act w := by
  refine ⟨h.chg,h.size,h.defers,fun t => RV.per _ (h.tm t),fun j => ?_,fun i j hij x hx => h.dj _ _ (fun e => hij (swp_inj e)) x hx,fun j => h.own _,h.lo⟩
  have := h.ob (swp a b j)
  cases hj : H (swp a b j) with
  | box T p cells =>
    rw [hj] at this
    obtain ⟨xs,h1,h2,h3,h4,h5⟩ := this
    exact ⟨xs,RVL.per cells h1,perL_cell a b cells h2,by rw [perL_length];exact h3,h4,h5⟩
  | arr e sz rows =>
    rw [hj] at this
    obtain ⟨xs,fr,h1,h2,h3,h4,h5⟩ := this
    exact ⟨xs,fr,h1,fun b hb hl => h2 b hb (live_per.1 hl),h3,h4,h5⟩
  | gone => rw [hj] at this;exact this
theorem AW.swap (a b : Nat) {c : Code} (h : AW P L O w0 N c (fun t => per a b (τ t)) (fun j => (H (swp a b j)).per a b) Q) : AW P L O w0 N c τ H Q := fun ρ fp act w hr => h _ _ act w (hr.swap a b)
theorem AL.swap (a b : Nat) (h : AL P L O w0 N ops l (fun t => per a b (τ t)) (fun j => (H (swp a b j)).per a b) Q) : AL P L O w0 N ops l τ H Q := fun ρ fp act w hr => h _ _ act w (hr.swap a b)
theorem QQ.swap {e : Exit} (a b : Nat) (h : Q e (fun t => per a b (τ t)) (fun j => (H (swp a b j)).per a b)) {ρ : Nat → Value} {fp : Nat → List Nat} {act : Act} {w : World} (hr : RR L O w0 N τ H ρ fp act w) : QQ L O w0 N Q e act w := ⟨_,_,_,_,hr.swap a b,h⟩
end

section
variable {P : Program} {L O : Nat → Prop} {w0 : World} {N : Nat} {τ τ' : Nat → AV} {H H' : Nat → AO} {Q : AQ} {ops : Array Oper} {o : Oper}
def AG1 (P : Program) (L O : Nat → Prop) (w0 : World) (N : Nat) (ops : Array Oper) (f : Nat) (X : Nat → Bool) (n : Nat) (listed : Array Bool) (i : Nat) (τ : Nat → AV) (H : Nat → AO) (Q : AQ) : Prop :=
  ∀ ρ fp a w,RR L O w0 N τ H ρ fp a w → wpOp P ops (QQ L O w0 N Q) i (fun a' w' => (i ≠ f → Keep X ρ H w w') ∧ wpAnyG P .any ops (QQ L O w0 N Q) (Keep X ρ H w) f n (listed.setIfInBounds i true) a' w') a w
theorem AG.two {f i j : Nat} {X : Nat → Bool} {n : Nat} {listed : Array Bool} (hr : Region.ready .any ops listed = [i,j]) (h1 : AG1 P L O w0 N ops f X n listed i τ H Q) (h2 : AG1 P L O w0 N ops f X n listed j τ H Q) : AG P L O w0 N ops f X (n + 1) listed τ H Q := fun ρ fp a w hrr => by
  refine ⟨fun h0 => (by rw [hr] at h0;cases h0),fun k hk => ?_⟩
  rw [hr] at hk
  simp only [List.mem_cons,List.not_mem_nil,or_false] at hk
  rcases hk with rfl | rfl
  · exact h1 ρ fp a w hrr
  · exact h2 ρ fp a w hrr
theorem AG1.st {f i : Nat} {X : Nat → Bool} {n : Nat} {listed : Array Bool} {E : List Nat} (ho : ops[i]? = some o) (hs : St P o N τ H E τ' H') (hX : ∀ id ∈ E,X id = true) (hg : gv τ ops o = some true)
    (h : AG P L O w0 N ops f X n (listed.setIfInBounds i true) τ' H' Q) : AG1 P L O w0 N ops f X n listed i τ H Q := fun ρ fp a w hrr =>
  wpOp_step ho fun K hK => by
    rw [hrr.wanted hg,if_pos rfl]
    exact hs.run hrr (fun a' w' ρ' fp' hr' hmv => hK _ _ ⟨fun _ => (hmv X hX).1,wpAnyG_mono (fun W hW => (hmv X hX).keep hW) _ _ _ _ (h ρ' fp' a' w' hr')⟩)
theorem AG1.stx {f i : Nat} {X : Nat → Bool} {n : Nat} {listed : Array Bool} {E : List Nat} {Z : (Nat → AV) → (Nat → AO) → Prop} (ho : ops[i]? = some o) (hs : StX P o N τ H E Z) (hX : ∀ id ∈ E,X id = true) (hg : gv τ ops o = some true)
    (h : ∀ τ' H',Z τ' H' → AG P L O w0 N ops f X n (listed.setIfInBounds i true) τ' H' Q) : AG1 P L O w0 N ops f X n listed i τ H Q := fun ρ fp a w hrr =>
  wpOp_step ho fun K hK => by
    rw [hrr.wanted hg,if_pos rfl]
    exact hs.run hrr (fun τ' H' a' w' ρ' fp' hz hr' hmv => hK _ _ ⟨fun _ => (hmv X hX).1,wpAnyG_mono (fun W hW => (hmv X hX).keep hW) _ _ _ _ (h τ' H' hz ρ' fp' a' w' hr')⟩)
def sameX (B : List (Nat × AO)) (H : Nat → AO) : List Nat → Prop
  | [] => True
  | i :: l => ofO B i = H i ∧ sameX B H l
theorem sameX.at {B : List (Nat × AO)} : ∀ {X : List Nat},sameX B H X → ∀ i ∈ X,ofO B i = H i
  | [],_,i,hi => by cases hi
  | j :: l,h,i,hi => by
    rcases List.mem_cons.1 hi with rfl | hi
    · exact h.1
    · exact sameX.at h.2 i hi
theorem AG.tidyX (T : List (Nat × AV)) (B : List (Nat × AO)) {X : List Nat} {f n : Nat} {listed : Array Bool} (h1 : allT T τ) (h2 : allO B H) (hX : sameX B H X) (h : AG P L O w0 N ops f (inK X) n listed (ofT T) (ofO B) Q) : AG P L O w0 N ops f (inK X) n listed τ H Q := fun ρ fp a w hr => by
  obtain ⟨fp',hr',_⟩ := hr.weak h1.weak h2.weak
  have e : Keep (inK X) ρ (ofO B) w = Keep (inK X) ρ H w := by
    funext W
    unfold Keep
    have hh : ∀ id,inK X id = true → ofO B id = H id := fun id hid => hX.at id (by unfold inK at hid;rwa [List.contains_iff_mem] at hid)
    refine propext ⟨fun q => ⟨q.1,fun b hb hn => q.2 b hb fun id h3 h4 => hn id h3 (by rw [← hh id h3];exact h4)⟩,fun q => ⟨q.1,fun b hb hn => q.2 b hb fun id h3 h4 => hn id h3 (by rw [hh id h3];exact h4)⟩⟩
  rw [← e]
  exact h ρ fp' a w hr'
end

theorem RWL.flat_fp {w : World} {st : Bool} : ∀ {x : List PV} {c : List Value} {fp : List Nat},RWL w st x c fp → (∀ p ∈ x,∃ v,p = PV.v v) → fp = []
  | [],c,fp,h,_ => by rw [RWL] at h;exact h.2
  | x :: xs,c,fp,h,hf => by
    rw [RWL] at h
    obtain ⟨c,r,f1,f2,rfl,rfl,h1,h2⟩ := h
    obtain ⟨v,rfl⟩ := hf x (by simp)
    rw [RW] at h1
    rw [h1.2.1,RWL.flat_fp h2 (fun p hp => hf p (by simp [hp]))]
    rfl
theorem RWR.flat_fp {w : World} {st : Bool} {sz : Nat} : ∀ {x : List (List PV)} {c : List Value} {fp : List Nat},RWR w st sz x c fp → (∀ r ∈ x,∀ p ∈ r,∃ v,p = PV.v v) → fp = []
  | [],c,fp,h,_ => by rw [RWR] at h;exact h.2
  | x :: xs,c,fp,h,hf => by
    rw [RWR] at h
    obtain ⟨hl,c,r,f1,f2,rfl,rfl,h1,h2⟩ := h
    rw [h1.flat_fp (hf x (by simp)),RWR.flat_fp h2 (fun r hr => hf r (by simp [hr]))]
    rfl
theorem flat_rowsOf {α : Type} {enc : α → List Value} {l : List α} : ∀ r ∈ rowsOf enc l,∀ p ∈ r,∃ v,p = PV.v v := fun r hr p hp => by
  unfold rowsOf at hr
  obtain ⟨a,_,rfl⟩ := List.mem_map.1 hr
  obtain ⟨v,_,rfl⟩ := List.mem_map.1 hp
  exact ⟨v,rfl⟩
section
variable {P : Program} {N : Nat} {τ : Nat → AV} {H : Nat → AO} {o : Oper}
theorem St.lendO (id : Nat) {y : Operand} {l : List Operand} {ts : Array TypeId} {f : FuncId} {fn : Func} {args : List AV} {i sz : Nat} {e : TypeId} {rows : List (List PV)} (ho : o.op = .call { callee := .value y,args := l.toArray,argTypes := ts }) (ht : ∀ s,o.dst = some s → s < N)
    (hy : ev τ y = .clo (.func f) [] []) (hf : P.funcs[f]? = some fn) (hf1 : (fn.name == "runtime.NumGoroutine") = false) (hf2 : fn.body.isNone = false) (hc : GC P f args [] (.own i) [(i,.arr ⟨e,none⟩ sz rows)]) (hfl : ∀ r ∈ rows,∀ p ∈ r,∃ v,p = PV.v v) (ha : lendL H (l.map (ev τ)) = args) :
    St P o N τ H [] (updo (fun t => kil (one? id) (τ t)) o.dst (.own id)) (upd (fun j => (H j).kil (one? id)) id (.arr ⟨e,none⟩ sz rows)) := by
  refine ⟨?_⟩
  intro L O w0 ρ fp a w K Q hrr hk
  have ey := hrr.ev y
  rw [hy,RV] at ey
  obtain ⟨cf,cc,ey,e1,e2⟩ := ey
  rw [RVL] at e1 e2
  subst e1 e2
  have hv := RVL.lend (fun id => ⟨_,hrr.ob id⟩) _ (RVL.map (fun z => hrr.ev z) l)
  rw [ha] at hv
  have hcall := hc L0 w (l.map a.eval) ρ0 (fun _ => []) (fun _ q => q.elim) hv (fun i => rfl) (by simp) (by simp)
  have hrun : (execOp a.eval o).run P w = .ok (.enter f (l.map a.eval).toArray) w := by
    simp only [execOp,ho,resolve,Deferred.ofValue,ey,invoke,callFunc,Sem.run_bind,Sem.run_pure,Result.andThen_ok,run_program,hf,hf1,hf2,Bool.false_eq_true,if_false,List.map_toArray,List.append_toArray,List.nil_append,List.append_nil]
  unfold Oper.wp
  rw [hrun]
  show Calls P f _ w _
  refine Calls.mono hcall ?_
  rintro e w' ⟨_,_,⟨rfl,rfl⟩,v,ρ',fp',rfl,g1,g2,g3,g4,g5⟩
  have hg : Chg (fun _ => False) w w' := ⟨g1.os,g1.tape,g1.output,g1.size,fun b hb _ => g1.block b hb (by simp),fun b o hb hlt => g1.nf b o (by simpa using hb) hlt⟩
  have ho1 : ofO [(i,AO.arr ⟨e,none⟩ sz rows)] i = .arr ⟨e,none⟩ sz rows := by simp [ofO]
  have gi := g3 i
  rw [ho1] at gi
  rw [RV,ho1] at g2
  have hve : v = ρ' i := g2.2 rfl
  obtain ⟨xs,fr,k1,k2,k3,k4,_⟩ := gi
  have hfr := k1.flat_fp hfl
  subst hfr
  have hnew : ∀ b ∈ fp' i,w.heap.size ≤ b := fun b hb => by
    rcases (g5 i b hb).1 with ⟨j,q⟩ | q
    · cases q
    · exact q
  have hlt0 : w0.heap.size ≤ w.heap.size := hrr.chg.size
  have hr' := hrr.turnK (one? id) (id := id) (o' := .arr ⟨e,none⟩ sz rows) (v' := ρ' i) (f' := fp' i) (hrr.grow hg).chg hg.size (fun b hb _ => hg.block b hb (fun q => q))
    (fun hk => by simp [one?] at hk) (fun _ b hb => .inl (hnew b (by rw [k4];simpa [Option.mem_toList] using hb)))
    (fun E => ⟨xs,[],k1,by simp,k3,k4,fun u hu => by cases hu⟩)
    (fun b hb => ⟨.inr (Nat.le_trans hlt0 (hnew b hb)),fun hL => by have := hrr.lo b hL;have := hnew b hb;omega⟩)
    (fun j hj b hb hbj => by have := (hrr.ob j).lt b hbj;have := hnew b hb;omega)
  refine hk _ _ _ _ (hr'.puto o.dst (c := v) ?_ ht) (fun X hX => ⟨⟨hg.size,fun b hb _ => hg.block b hb (fun q => q)⟩,fun j hj hh b hb => ?_⟩)
  · rw [RV,upd_same,upd_same]
    exact ⟨g2.1,fun _ => hve⟩
  · by_cases ej : j = id
    · subst ej
      rw [upd_same] at hb
      exact .inl (hnew b (by rw [k4];simpa [Option.mem_toList] using hb))
    · rw [upd_ne _ _ ej] at hb hh
      rw [AO.kil_here] at hh
      exact .inr ⟨j,hj,hh,hb⟩
end

def KeepA (w W : World) : Prop := w.heap.size ≤ W.heap.size ∧ ∀ b,b < w.heap.size → W.heap[b]? = w.heap[b]?
theorem KeepA.refl (w : World) : KeepA w w := ⟨Nat.le_refl _,fun _ _ => rfl⟩
theorem KeepA.trans {u v w : World} (h : KeepA u v) (h2 : KeepA v w) : KeepA u w := ⟨Nat.le_trans h.1 h2.1,fun b hb => by rw [h2.2 b (Nat.lt_of_lt_of_le hb h.1),h.2 b hb]⟩
theorem KeepA.of {ρ : Nat → Value} {H : Nat → AO} {w W : World} (h : Keep (fun _ => false) ρ H w W) : KeepA w W := ⟨h.1,fun b hb => h.2 b hb fun id q => by cases q⟩
theorem KeepA.to {ρ : Nat → Value} {H : Nat → AO} {w W : World} (h : KeepA w W) : Keep (fun _ => false) ρ H w W := ⟨h.1,fun b hb _ => h.2 b hb⟩
section
variable {P : Program} {ops : Array Oper} {Q : Exit → Act → World → Prop} {md : Region.Mode} {F : List Nat}
def wpAnyF (P : Program) (md : Region.Mode) (ops : Array Oper) (Q : Exit → Act → World → Prop) (F : List Nat) : Nat → Array Bool → Act → World → Prop
  | 0,listed,a,w => Region.ready md ops listed = [] ∧ Q .normal a w
  | fuel + 1,listed,a,w =>
    (Region.ready md ops listed = [] → Q .normal a w) ∧
    ∀ i ∈ Region.ready md ops listed,wpOp P ops Q i (fun a' w' => (F.contains i = false → KeepA w w') ∧ wpAnyF P md ops Q F fuel (listed.setIfInBounds i true) a' w') a w
theorem wpAny_of_F : ∀ (fuel : Nat) (listed : Array Bool) (a : Act) (w : World),wpAnyF P md ops Q F fuel listed a w → wpAny P md ops Q fuel listed a w
  | 0,_,_,_,h => h
  | fuel + 1,_,_,_,h => ⟨h.1,fun i hi => wpOp_mono (fun a' w' h' => wpAny_of_F fuel _ a' w' h'.2) (h.2 i hi)⟩
def reachF (md : Region.Mode) (ops : Array Oper) (F : List Nat) (listed : Array Bool) (i : Nat) : Bool := F.all fun j => listed.getD j true || (reachB md ops j).getD i false
theorem YieldsIf.less {S S' : World → Prop} {o : Oper} {v : Value} {a : Act} (h : YieldsIf P ops S o v a) (hs : ∀ w,S' w → S w) : YieldsIf P ops S' o v a := by
  rcases h with ⟨h1,h2⟩ | h
  · exact .inl ⟨h1,fun w hw => h2 w (hs w hw)⟩
  · exact .inr h
theorem wpAnyF_first {i : Nat} {oi : Oper} {v : Value} (hi : ops[i]? = some oi) (hsel : ∀ (j : Nat) (o : Oper) cs b,ops[j]? = some o → o.op ≠ .select cs b)
    (hQ : ∀ c a w,Q (.panic c) (a.put oi.dst v) w → Q (.panic c) a w) :
    ∀ (fuel : Nat) (listed : Array Bool) (a : Act) (w : World),
      (∀ j oj,ops[j]? = some oj → j ≠ i → listed.getD j true = false → (∀ e ∈ oj.after,Region.binds md e = true → e.on ≠ i) → oi.apart ops oj = true) →
      (∀ j,F.contains j = true → listed.getD j true = false → (reachB md ops j).getD i false = true) →
      Closed md ops listed → i ∈ Region.ready md ops listed → YieldsIf P ops (KeepA w) oi v a →
      wpAnyF P md ops Q F fuel (listed.setIfInBounds i true) (a.put oi.dst v) w → wpAnyF P md ops Q F (fuel + 1) listed a w := by
  intro fuel
  induction fuel with
  | zero =>
    intro listed a w _ _ _ hr hy H
    refine ⟨fun h => (by rw [h] at hr;cases hr),fun j hj => ?_⟩
    by_cases hji : j = i
    · subst hji;exact hy.wpOp hi (KeepA.refl w) ⟨fun _ => KeepA.refl w,H⟩
    · have := ready_mono hj hji
      rw [H.1] at this
      cases this
  | succ fuel ih =>
    intro listed a w hfree hF hcl hr hy H
    refine ⟨fun h => (by rw [h] at hr;cases hr),fun j hj => ?_⟩
    by_cases hji : j = i
    · subst hji;exact hy.wpOp hi (KeepA.refl w) ⟨fun _ => KeepA.refl w,H⟩
    · have h1 := H.2 j (ready_mono hj hji)
      obtain ⟨hjun,oj,hoj,hall⟩ := mem_ready.1 hj
      have hnot : ∀ e ∈ oj.after,Region.binds md e = true → e.on ≠ i := fun e he hb heq => by
        have h1 := hall e he hb
        have h0 := (mem_ready.1 hr).1
        rw [heq] at h1
        rcases Nat.lt_or_ge i listed.size with h' | h'
        · simp [h'] at h0 h1;rw [h0] at h1;cases h1
        · simp [Array.getElem?_eq_none h'] at h1
      have h2 := wpOp_putIf hoj (hfree j oj hoj hji hjun hnot) (fun cs b => hsel i oi cs b hi) (fun cs b => hsel j oj cs b hoj) hQ hy h1
      have hun' : ∀ k,(listed.setIfInBounds j true).getD k true = false → listed.getD k true = false := fun k hun => by
        by_cases hjk : j = k
        · subst hjk;exact hjun
        · rw [getD_set_ne true hjk] at hun;exact hun
      have hjf : F.contains j = false := by
        rcases q : F.contains j with _ | _
        · rfl
        · exfalso
          have hl := reachB_listed hcl (fun of_ hof e he hb => by rw [hoj] at hof;injection hof with hof;subst hof;exact hall e he hb) (hF j q hjun)
          rcases hl with hl | hl
          · exact hji hl.symm
          · have h0 := (mem_ready.1 hr).1
            rcases Nat.lt_or_ge i listed.size with h' | h'
            · simp [h'] at h0 hl;rw [h0] at hl;cases hl
            · simp [Array.getElem?_eq_none h'] at hl
      refine wpOp_mono (fun a' w' h3 => ⟨fun _ => h3.2.1 hjf,ih (listed.setIfInBounds j true) a' w' (fun k ok hk hki hun hno => hfree k ok hk hki (hun' k hun) hno) (fun k hk hun => hF k hk (hun' k hun)) (hcl.set hj) (ready_mono hr (Ne.symm hji)) (YieldsIf.less h3.1 fun W hW => (h3.2.1 hjf).trans hW) ?_⟩) h2
      rw [Array.setIfInBounds_comm _ _ hji]
      exact h3.2.2
theorem wpAnyF_firstP {i : Nat} {oi : Oper} {v : Value} (hi : ops[i]? = some oi) (hsel : ∀ (j : Nat) (o : Oper) cs b,ops[j]? = some o → o.op ≠ .select cs b)
    (hQ : ∀ c a w,Q (.panic c) (a.put oi.dst v) w → Q (.panic c) a w) :
    ∀ (fuel : Nat) (listed : Array Bool) (a : Act) (w : World),
      (∀ j oj,ops[j]? = some oj → j ≠ i → listed.getD j true = false → (∀ e ∈ oj.after,Region.binds md e = true → e.on ≠ i) → oi.apart ops oj = true) →
      Closed md ops listed → i ∈ Region.ready md ops listed → YieldsIf P ops (fun _ => True) oi v a →
      wpAnyF P md ops Q F fuel (listed.setIfInBounds i true) (a.put oi.dst v) w → wpAnyF P md ops Q F (fuel + 1) listed a w := by
  intro fuel
  induction fuel with
  | zero =>
    intro listed a w _ _ hr hy H
    refine ⟨fun h => (by rw [h] at hr;cases hr),fun j hj => ?_⟩
    by_cases hji : j = i
    · subst hji;exact hy.wpOp hi trivial ⟨fun _ => KeepA.refl w,H⟩
    · have := ready_mono hj hji
      rw [H.1] at this
      cases this
  | succ fuel ih =>
    intro listed a w hfree hcl hr hy H
    refine ⟨fun h => (by rw [h] at hr;cases hr),fun j hj => ?_⟩
    by_cases hji : j = i
    · subst hji;exact hy.wpOp hi trivial ⟨fun _ => KeepA.refl w,H⟩
    · have h1 := H.2 j (ready_mono hj hji)
      obtain ⟨hjun,oj,hoj,hall⟩ := mem_ready.1 hj
      have hnot : ∀ e ∈ oj.after,Region.binds md e = true → e.on ≠ i := fun e he hb heq => by
        have h1 := hall e he hb
        have h0 := (mem_ready.1 hr).1
        rw [heq] at h1
        rcases Nat.lt_or_ge i listed.size with h' | h'
        · simp [h'] at h0 h1;rw [h0] at h1;cases h1
        · simp [Array.getElem?_eq_none h'] at h1
      have h2 := wpOp_putIf hoj (hfree j oj hoj hji hjun hnot) (fun cs b => hsel i oi cs b hi) (fun cs b => hsel j oj cs b hoj) hQ hy h1
      have hun' : ∀ k,(listed.setIfInBounds j true).getD k true = false → listed.getD k true = false := fun k hun => by
        by_cases hjk : j = k
        · subst hjk;exact hjun
        · rw [getD_set_ne true hjk] at hun;exact hun
      refine wpOp_mono (fun a' w' h3 => ⟨h3.2.1,ih (listed.setIfInBounds j true) a' w' (fun k ok hk hki hun hno => hfree k ok hk hki (hun' k hun) hno) (hcl.set hj) (ready_mono hr (Ne.symm hji)) h3.1 ?_⟩) h2
      rw [Array.setIfInBounds_comm _ _ hji]
      exact h3.2.2
theorem wpAnyF_take {i : Nat} {oi : Oper} {v : Value} {fuel : Nat} {listed : Array Bool} {a : Act} {w : World} (hi : ops[i]? = some oi)
    (hs : Region.noSelect ops = true) (hf : Region.free md ops listed i = true) (hr : (Region.ready md ops listed).contains i = true) (hw : reachF md ops F listed i = true) (hc : closedB md ops listed = true)
    (hQ : ∀ c a w,Q (.panic c) (a.put oi.dst v) w → Q (.panic c) a w) (hy : YieldsIf P ops (KeepA w) oi v a)
    (h : wpAnyF P md ops Q F fuel (listed.setIfInBounds i true) (a.put oi.dst v) w) : wpAnyF P md ops Q F (fuel + 1) listed a w :=
  wpAnyF_first hi (Region.noSelect_spec hs) hQ fuel listed a w (Region.free_spec hi hf) (fun j hj hun => by
    have := List.all_eq_true.1 hw j (List.contains_iff_mem.1 hj)
    rw [hun,Bool.false_or] at this
    exact this) (Closed.of hc) (by simpa using hr) hy h
theorem wpAnyF_takeP {i : Nat} {oi : Oper} {v : Value} {fuel : Nat} {listed : Array Bool} {a : Act} {w : World} (hi : ops[i]? = some oi)
    (hs : Region.noSelect ops = true) (hf : Region.free md ops listed i = true) (hr : (Region.ready md ops listed).contains i = true) (hc : closedB md ops listed = true)
    (hQ : ∀ c a w,Q (.panic c) (a.put oi.dst v) w → Q (.panic c) a w) (hy : YieldsIf P ops (fun _ => True) oi v a)
    (h : wpAnyF P md ops Q F fuel (listed.setIfInBounds i true) (a.put oi.dst v) w) : wpAnyF P md ops Q F (fuel + 1) listed a w :=
  wpAnyF_firstP hi (Region.noSelect_spec hs) hQ fuel listed a w (Region.free_spec hi hf) (Closed.of hc) (by simpa using hr) hy h
theorem wpAnyF_one {i : Nat} {o : Oper} {fuel : Nat} {listed : Array Bool} {a : Act} {w : World} (ho : ops[i]? = some o) (hr : Region.ready md ops listed = [i])
    (h : ∀ K' : Act → World → Prop,(∀ a w',(F.contains i = false → KeepA w w') → wpAnyF P md ops Q F fuel (listed.setIfInBounds i true) a w' → K' a w') → if Region.wanted o (yielded ops a.tmps) = true then Oper.wp P o a w K' Q else K' (a.put o.dst undef) w) :
    wpAnyF P md ops Q F (fuel + 1) listed a w := by
  refine ⟨fun h0 => (by rw [hr] at h0;cases h0),fun j hj => ?_⟩
  rw [hr] at hj
  obtain rfl := List.mem_singleton.1 hj
  exact wpOp_step ho (fun K' hK => h K' (fun a w h1 h2 => hK a w ⟨h1,h2⟩))
theorem wpAnyF_done {listed : Array Bool} {a : Act} {w : World} (hr : Region.ready md ops listed = []) (h : Q .normal a w) : ∀ fuel,wpAnyF P md ops Q F fuel listed a w
  | 0 => ⟨hr,h⟩
  | _ + 1 => ⟨fun _ => h,by rw [hr];simp⟩
theorem wp_region_F {id : Nat} {a : Act} {w : World} (hm : P.follows .mixedOrders = true) (h : wpAnyF P .any ops Q F ops.size (Array.replicate ops.size false) a w.drew) : (Code.region id ops true).wp P Q a w :=
  wp_region_any hm (wpAny_of_F _ _ _ _ h)
end
structure Pd (P : Program) (o : Oper) (τ : Nat → AV) (H : Nat → AO) (x : AV) : Prop where
  run : ∀ {L O : Nat → Prop} {w0 : World} {N : Nat} {ρ : Nat → Value} {fp : Nat → List Nat} {a : Act} {w : World},RR L O w0 N τ H ρ fp a w →
    ∃ c,RV L ρ H w x c ∧ ∀ W,(execOp a.eval o).run P W = .ok (.value c) W
section
variable {P : Program} {o : Oper} {τ : Nat → AV} {H : Nat → AO}
theorem Pd.pure {x : AV} (h : ∀ {L : Nat → Prop} {ρ : Nat → Value} {a : Act} {w : World},(∀ y,RV L ρ H w (ev τ y) (a.eval y)) → ∃ c,RV L ρ H w x c ∧ ∀ W,(execOp a.eval o).run P W = .ok (.value c) W) : Pd P o τ H x :=
  ⟨fun hr => h (fun y => hr.ev y)⟩
theorem pd_mvx {x : Operand} {v : AV} (ho : o.op = .move x ∨ o.op = .assign x) (hv : ev τ x = v) : Pd P o τ H v := by
  subst hv
  refine Pd.pure fun {L ρ a w} he => ⟨a.eval x,he x,fun W => ?_⟩
  rcases ho with ho | ho <;> simp [execOp,ho]
theorem pd_faddr_rp {t : TypeId} {x : Operand} {k off : Nat} {ft : TypeId} {cells : List PV} (ho : o.op = .fieldAddr t x k) (hf : fldA P t k = some (off,ft)) (h0 : P.cellsOf ft ≠ 0) (hd : (P.underlying ft).isSome = true) (hx : ev τ x = .rp cells) : Pd P o τ H (.rp (cells.drop off)) := by
  apply Pd.pure;intro L ρ a w he
  have h := he x
  rw [hx,RV] at h
  obtain ⟨b,c,cs,fp,e,p1,p2,p3,p4,p5⟩ := h
  obtain ⟨f2,q1,q2⟩ := RWL.drop off p1
  exact ⟨_,by rw [RV];exact ⟨b,_,_,f2,rfl,q1,p2.drop off,p3,p4,fun b hb => p5 b (q2 hb)⟩,faddr_run ho hf h0 hd e⟩
theorem pd_faddr {t : TypeId} {x : Operand} {k off : Nat} {ft : TypeId} {id i j : Nat} (ho : o.op = .fieldAddr t x k) (hf : fldA P t k = some (off,ft)) (h0 : P.cellsOf ft ≠ 0) (hd : (P.underlying ft).isSome = true) (hx : ev τ x = .ptr id i j) (hH : (H id).here = true) : Pd P o τ H (.ptr id i (j + off)) := by
  apply Pd.pure;intro L ρ a w he
  have h := he x
  rw [hx,RV] at h
  obtain ⟨p1,g,m,cap,p2,p3⟩ := h.2 hH
  refine ⟨_,?_,faddr_run ho hf h0 hd p3⟩
  rw [RV]
  exact ⟨rfl,fun _ => ⟨p1,g,m,cap,p2,by rw [Nat.add_assoc]⟩⟩
theorem pd_nilc {x : Operand} {id r k : Nat} (ho : o.op = .nilCheck x) (hx : ev τ x = .ptr id r k) (hh : (H id).here = true) : Pd P o τ H (.ptr id r k) := by
  refine Pd.pure fun {L ρ a w} he => ⟨a.eval x,hx ▸ he x,fun W => ?_⟩
  have h := he x
  rw [hx,RV] at h
  obtain ⟨_,g,m,cap,_,e⟩ := h.2 hh
  simp [execOp,ho,e]
end
def AF (P : Program) (L O : Nat → Prop) (w0 : World) (N : Nat) (ops : Array Oper) (F : List Nat) (n : Nat) (listed : Array Bool) (τ : Nat → AV) (H : Nat → AO) (Q : AQ) : Prop :=
  ∀ ρ fp a w,RR L O w0 N τ H ρ fp a w → wpAnyF P .any ops (QQ L O w0 N Q) F n listed a w
section
variable {P : Program} {L O : Nat → Prop} {w0 : World} {N : Nat} {τ τ' : Nat → AV} {H H' : Nat → AO} {Q : AQ} {ops : Array Oper} {o : Oper} {F : List Nat} {n : Nat} {listed : Array Bool}
theorem AW.drawF {id : Nat} (F : List Nat) (hm : P.follows .mixedOrders = true) (h : AF P L O w0 N ops F ops.size (Array.replicate ops.size false) τ H Q) : AW P L O w0 N (.region id ops true) τ H Q := fun ρ fp a w hr =>
  wp_region_F hm (h ρ fp a w.drew hr.drew)
theorem AF.done (hr : Region.ready .any ops listed = []) (h : Q .normal τ H) : AF P L O w0 N ops F n listed τ H Q := fun ρ fp a w hrr =>
  wpAnyF_done hr ⟨τ,H,ρ,fp,hrr,h⟩ n
theorem AF.rd {i : Nat} {x : AV} {t : Nat} (ho : ops[i]? = some o) (hr : Region.ready .any ops listed = [i]) (hrd : Rd P o τ H (fun _ => false) x) (hg : gv τ ops o = some true) (hd : o.dst = some t) (ht : t < N)
    (h : AF P L O w0 N ops F n (listed.setIfInBounds i true) (upd τ t x) H Q) : AF P L O w0 N ops F (n + 1) listed τ H Q := fun ρ fp a w hrr =>
  wpAnyF_one ho hr fun K hK => by
    rw [hrr.wanted hg,if_pos rfl]
    obtain ⟨c,h1,h2⟩ := hrd.run hrr
    unfold Oper.wp
    rw [h2 w (Keep.refl _ _ _ _)]
    refine hK _ _ (fun _ => KeepA.refl _) (h ρ fp _ w ?_)
    rw [hd]
    exact hrr.put h1 ht
theorem AF.no {i : Nat} {t : Nat} (ho : ops[i]? = some o) (hr : Region.ready .any ops listed = [i]) (hg : gv τ ops o = some false) (hd : o.dst = some t) (ht : t < N)
    (h : AF P L O w0 N ops F n (listed.setIfInBounds i true) (upd τ t (.tup [])) H Q) : AF P L O w0 N ops F (n + 1) listed τ H Q := fun ρ fp a w hrr =>
  wpAnyF_one ho hr fun K hK => by
    rw [hrr.wanted hg,if_neg (by simp)]
    refine hK _ _ (fun _ => KeepA.refl _) (h ρ fp _ w ?_)
    rw [hd]
    exact hrr.put (by rw [RV];exact ⟨[],rfl,by simp [RVL]⟩) ht
theorem AF.take {i : Nat} {x : AV} {t : Nat} (ho : ops[i]? = some o) (hr : (Region.ready .any ops listed).contains i = true) (hs : Region.noSelect ops = true) (hfr : Region.free .any ops listed i = true)
    (hb : reachF .any ops F listed i = true) (hc : closedB .any ops listed = true) (hrd : Rd P o τ H (fun _ => false) x) (hg : gv τ ops o = some true) (hd : o.dst = some t) (ht : t < N) (hnp : ∀ c τ H,¬ Q (.panic c) τ H)
    (h : AF P L O w0 N ops F n (listed.setIfInBounds i true) (upd τ t x) H Q) : AF P L O w0 N ops F (n + 1) listed τ H Q := fun ρ fp a w hrr => by
  obtain ⟨c,h1,h2⟩ := hrd.run hrr
  refine wpAnyF_take (v := c) ho hs hfr hr hb hc (fun c a w ⟨τ,H,_,_,_,q⟩ => absurd q (hnp c τ H)) (.inl ⟨hrr.wanted hg,fun W hW => h2 W hW.to⟩) (h ρ fp _ w ?_)
  rw [hd]
  exact hrr.put h1 ht
theorem AF.takeP {i : Nat} {x : AV} {t : Nat} (ho : ops[i]? = some o) (hr : (Region.ready .any ops listed).contains i = true) (hs : Region.noSelect ops = true) (hfr : Region.free .any ops listed i = true)
    (hc : closedB .any ops listed = true) (hrd : Pd P o τ H x) (hg : gv τ ops o = some true) (hd : o.dst = some t) (ht : t < N) (hnp : ∀ c τ H,¬ Q (.panic c) τ H)
    (h : AF P L O w0 N ops F n (listed.setIfInBounds i true) (upd τ t x) H Q) : AF P L O w0 N ops F (n + 1) listed τ H Q := fun ρ fp a w hrr => by
  obtain ⟨c,h1,h2⟩ := hrd.run hrr
  refine wpAnyF_takeP (v := c) ho hs hfr hr hc (fun c a w ⟨τ,H,_,_,_,q⟩ => absurd q (hnp c τ H)) (.inl ⟨hrr.wanted hg,fun W _ => h2 W⟩) (h ρ fp _ w ?_)
  rw [hd]
  exact hrr.put h1 ht
theorem AF.skip {i : Nat} {t : Nat} (ho : ops[i]? = some o) (hr : (Region.ready .any ops listed).contains i = true) (hs : Region.noSelect ops = true) (hfr : Region.free .any ops listed i = true)
    (hc : closedB .any ops listed = true) (hg : gv τ ops o = some false) (hd : o.dst = some t) (ht : t < N) (hnp : ∀ c τ H,¬ Q (.panic c) τ H)
    (h : AF P L O w0 N ops F n (listed.setIfInBounds i true) (upd τ t (.tup [])) H Q) : AF P L O w0 N ops F (n + 1) listed τ H Q := fun ρ fp a w hrr => by
  refine wpAnyF_takeP (v := undef) ho hs hfr hr hc (fun c a w ⟨τ,H,_,_,_,q⟩ => absurd q (hnp c τ H)) (.inr ⟨hrr.wanted hg,rfl⟩) (h ρ fp _ w ?_)
  rw [hd]
  exact hrr.put (by rw [RV];exact ⟨[],rfl,by simp [RVL]⟩) ht
theorem keepA_of {E : List Nat} {i : Nat} (hF : F.contains i = true ∨ E = []) {ρ ρ' : Nat → Value} {w w' : World} (hmv : ∀ X : Nat → Bool,(∀ id ∈ E,X id = true) → Mv X ρ H w ρ' H' w') : F.contains i = false → KeepA w w' := fun q => by
  rcases hF with hF | rfl
  · rw [hF] at q;cases q
  · exact KeepA.of (hmv (fun _ => false) (by simp)).1
theorem AF.st {i : Nat} {E : List Nat} (ho : ops[i]? = some o) (hr : Region.ready .any ops listed = [i]) (hs : St P o N τ H E τ' H') (hF : F.contains i = true ∨ E = []) (hg : gv τ ops o = some true)
    (h : AF P L O w0 N ops F n (listed.setIfInBounds i true) τ' H' Q) : AF P L O w0 N ops F (n + 1) listed τ H Q := fun ρ fp a w hrr =>
  wpAnyF_one ho hr fun K hK => by
    rw [hrr.wanted hg,if_pos rfl]
    exact hs.run hrr (fun a' w' ρ' fp' hr' hmv => hK _ _ (keepA_of hF hmv) (h ρ' fp' a' w' hr'))
theorem AF.stx {i : Nat} {E : List Nat} {Z : (Nat → AV) → (Nat → AO) → Prop} (ho : ops[i]? = some o) (hr : Region.ready .any ops listed = [i]) (hs : StX P o N τ H E Z) (hF : F.contains i = true ∨ E = []) (hg : gv τ ops o = some true)
    (h : ∀ τ' H',Z τ' H' → AF P L O w0 N ops F n (listed.setIfInBounds i true) τ' H' Q) : AF P L O w0 N ops F (n + 1) listed τ H Q := fun ρ fp a w hrr =>
  wpAnyF_one ho hr fun K hK => by
    rw [hrr.wanted hg,if_pos rfl]
    exact hs.run hrr (fun τ' H' a' w' ρ' fp' hz hr' hmv => hK _ _ (keepA_of hF hmv) (h τ' H' hz ρ' fp' a' w' hr'))
def AF1 (P : Program) (L O : Nat → Prop) (w0 : World) (N : Nat) (ops : Array Oper) (F : List Nat) (n : Nat) (listed : Array Bool) (i : Nat) (τ : Nat → AV) (H : Nat → AO) (Q : AQ) : Prop :=
  ∀ ρ fp a w,RR L O w0 N τ H ρ fp a w → wpOp P ops (QQ L O w0 N Q) i (fun a' w' => (F.contains i = false → KeepA w w') ∧ wpAnyF P .any ops (QQ L O w0 N Q) F n (listed.setIfInBounds i true) a' w') a w
theorem AF.two {i j : Nat} (hr : Region.ready .any ops listed = [i,j]) (h1 : AF1 P L O w0 N ops F n listed i τ H Q) (h2 : AF1 P L O w0 N ops F n listed j τ H Q) : AF P L O w0 N ops F (n + 1) listed τ H Q := fun ρ fp a w hrr => by
  refine ⟨fun h0 => (by rw [hr] at h0;cases h0),fun k hk => ?_⟩
  rw [hr] at hk
  simp only [List.mem_cons,List.not_mem_nil,or_false] at hk
  rcases hk with rfl | rfl
  · exact h1 ρ fp a w hrr
  · exact h2 ρ fp a w hrr
theorem AF1.st {i : Nat} {E : List Nat} (ho : ops[i]? = some o) (hs : St P o N τ H E τ' H') (hF : F.contains i = true ∨ E = []) (hg : gv τ ops o = some true)
    (h : AF P L O w0 N ops F n (listed.setIfInBounds i true) τ' H' Q) : AF1 P L O w0 N ops F n listed i τ H Q := fun ρ fp a w hrr =>
  wpOp_step ho fun K hK => by
    rw [hrr.wanted hg,if_pos rfl]
    exact hs.run hrr (fun a' w' ρ' fp' hr' hmv => hK _ _ ⟨keepA_of hF hmv,h ρ' fp' a' w' hr'⟩)
theorem AF.bool {b : Bool} {t : Nat} (ht : τ t = .p (.v (.bool b))) (h1 : b = true → AF P L O w0 N ops F n listed (upd τ t (.p (.v (.bool true)))) H Q) (h2 : b = false → AF P L O w0 N ops F n listed (upd τ t (.p (.v (.bool false)))) H Q) : AF P L O w0 N ops F n listed τ H Q := by
  cases b
  · have := h2 rfl;rwa [upd_self ht] at this
  · have := h1 rfl;rwa [upd_self ht] at this
theorem AF.slot (t : Nat) (x : AV) (ht : τ t = x) (h : AF P L O w0 N ops F n listed (upd τ t x) H Q) : AF P L O w0 N ops F n listed τ H Q := by rwa [upd_self ht] at h
theorem AF.obj (i : Nat) (x : AO) (ht : H i = x) (h : AF P L O w0 N ops F n listed τ (upd H i x) Q) : AF P L O w0 N ops F n listed τ H Q := by rwa [upd_self ht] at h
theorem AF.freeze (id : Nat) {e : Pin} {sz : Nat} {rows : List (List PV)} (hH : H id = .arr e sz rows) (h : AF P L O w0 N ops F n listed (fun t => frz id (.lst e.ty sz rows) (τ t)) (frzH id (.lst e.ty sz rows) H) Q) : AF P L O w0 N ops F n listed τ H Q :=
  fun ρ fp a w hr => h ρ _ a w (hr.freeze id hH)
theorem AF.pinB (id : Nat) {T : TypeId} {cells : List AV} {p : Option Value} (hH : H id = .box T p cells) (h : ∀ g,AF P L O w0 N ops F n listed τ (upd H id (.box T (some g) cells)) Q) : AF P L O w0 N ops F n listed τ H Q := fun ρ fp a w hr => h (ρ id) ρ fp a w (hr.pinB hH)
theorem AF.pinA (id : Nat) {e : Pin} {sz : Nat} {rows : List (List PV)} (hH : H id = .arr e sz rows) (h : ∀ g,AF P L O w0 N ops F n listed τ (upd H id (.arr ⟨e.ty,some g⟩ sz rows)) Q) : AF P L O w0 N ops F n listed τ H Q := fun ρ fp a w hr => h (ρ id) ρ fp a w (hr.pinA hH _ (fun u hu => by injection hu with hu;exact hu.symm))
end

-- A value of own rows and of what refers to no memory.
mutual
def ownA : AV → Bool
  | .p (.v _) => true
  | .own _ => true
  | .agg l => ownAL l
  | .tup l => ownAL l
  | _ => false
def ownAL : List AV → Bool
  | [] => true
  | x :: l => ownA x && ownAL l
end
section
variable {L L' : Nat → Prop} {H H' : Nat → AO} {ρ ρ' : Nat → Value} {w w' : World}
mutual
def ownN : AV → List Nat
  | .own id => [id]
  | .agg l => ownNL l
  | .tup l => ownNL l
  | _ => []
def ownNL : List AV → List Nat
  | [] => []
  | x :: l => ownN x ++ ownNL l
end
mutual
theorem RV.owned : ∀ (x : AV) {c : Value},ownA x = true → RV L ρ H w x c → (∀ id ∈ ownN x,(H id).here = true ∧ ρ' id = ρ id) → RV L' ρ' H' w' x c
  | .p (.v v),c,_,h,_ => by
    rw [RV] at *
    obtain ⟨fp,h1,_⟩ := h
    rw [RW] at h1
    obtain ⟨h1,rfl,h2⟩ := h1
    exact ⟨[],by rw [RW];exact ⟨h1,rfl,h2⟩,by simp⟩
  | .own id,c,_,h,k => by
    rw [RV] at *
    obtain ⟨q1,q2⟩ := k id (by simp [ownN])
    exact ⟨h.1,fun q => by rw [h.2 q1,q2]⟩
  | .agg l,c,hf,h,k => by
    unfold ownA at hf
    rw [RV] at *
    obtain ⟨cs,rfl,h1⟩ := h
    exact ⟨cs,rfl,RVL.owned l hf h1 fun id hid => k id (by unfold ownN;exact hid)⟩
  | .tup l,c,hf,h,k => by
    unfold ownA at hf
    rw [RV] at *
    obtain ⟨cs,rfl,h1⟩ := h
    exact ⟨cs,rfl,RVL.owned l hf h1 fun id hid => k id (by unfold ownN;exact hid)⟩
  | .p (.lst _ _ _),_,hf,_,_ => by simp [ownA] at hf
  | .sub _ _ _,_,hf,_,_ => by simp [ownA] at hf
  | .ptr _ _ _,_,hf,_,_ => by simp [ownA] at hf
  | .rp _,_,hf,_,_ => by simp [ownA] at hf
  | .clo _ _ _,_,hf,_,_ => by simp [ownA] at hf
  | .dead,_,hf,_,_ => by simp [ownA] at hf
  | .bad,_,hf,_,_ => by simp [ownA] at hf
theorem RVL.owned : ∀ (x : List AV) {c : List Value},ownAL x = true → RVL L ρ H w x c → (∀ id ∈ ownNL x,(H id).here = true ∧ ρ' id = ρ id) → RVL L' ρ' H' w' x c
  | [],c,_,h,_ => by rw [RVL] at *;exact h
  | x :: xs,c,hf,h,k => by
    unfold ownAL at hf
    simp only [Bool.and_eq_true] at hf
    rw [RVL] at *
    obtain ⟨c,r,rfl,h1,h2⟩ := h
    exact ⟨c,r,rfl,RV.owned x hf.1 h1 (fun id hid => k id (by unfold ownNL;exact List.mem_append_left _ hid)),RVL.owned xs hf.2 h2 (fun id hid => k id (by unfold ownNL;exact List.mem_append_right _ hid))⟩
end
end
def inO (l : List (Nat × AO)) (i : Nat) : Bool := (l.map Prod.fst).contains i
theorem ofO_app {l m : List (Nat × AO)} {i : Nat} : ofO (l ++ m) i = if inO l i = true then ofO l i else ofO m i := by
  induction l with
  | nil => simp [inO]
  | cons p l ih =>
    obtain ⟨j,o⟩ := p
    by_cases e : j = i
    · subst e
      simp [ofO,inO]
    · have e' : ¬ i = j := fun q => e q.symm
      have h1 : inO ((j,o) :: l) i = inO l i := by simp [inO,e']
      rw [h1]
      simp only [List.cons_append,ofO,if_neg e']
      exact ih
theorem ofO_out {l : List (Nat × AO)} {i : Nat} (h : inO l i = false) : ofO l i = .gone := by
  induction l with
  | nil => rfl
  | cons p l ih =>
    obtain ⟨j,o⟩ := p
    by_cases e : i = j
    · subst e;simp [inO] at h
    · have h1 : inO ((j,o) :: l) i = inO l i := by simp [inO,e]
      rw [h1] at h
      simp only [ofO,if_neg e]
      exact ih h
def flatO : AO → Prop
  | .arr e sz rows => e.pt = none ∧ ∀ r ∈ rows,∀ p ∈ r,∃ v,p = PV.v v
  | _ => False
def arrO : AO → Bool
  | .arr _ _ _ => true
  | _ => false
theorem ofO_mem {l : List (Nat × AO)} {i : Nat} (h : inO l i = true) : ∃ o,(i,o) ∈ l ∧ ofO l i = o := by
  induction l with
  | nil => simp [inO] at h
  | cons p l ih =>
    obtain ⟨j,o⟩ := p
    by_cases e : i = j
    · subst e;exact ⟨o,by simp,by simp [ofO]⟩
    · have h1 : inO ((j,o) :: l) i = inO l i := by simp [inO,e]
      rw [h1] at h
      obtain ⟨o',q1,q2⟩ := ih h
      exact ⟨o',List.mem_cons_of_mem _ q1,by simp only [ofO,if_neg e];exact q2⟩
theorem GC.lent {P : Program} {f : FuncId} {args args' : List AV} {x : AV} {ob0 ob1 : List (Nat × AO)} (hc : GC P f args [] x ob1) (hl : lendL (ofO ob0) args' = args) (hx : ownA x = true) (hn : ∀ id ∈ ownN x,inO ob1 id = true) (h0 : ∀ p ∈ ob0,arrO p.2 = true) (h1 : ∀ p ∈ ob1,flatO p.2) (hd : ∀ p ∈ ob0,inO ob1 p.1 = false) :
    GC P f args' ob0 x (ob1 ++ ob0) := by
  intro L w cs ρ fp hL hargs hob hdj hLf
  have hv := RVL.lend (fun id => ⟨_,hob id⟩) args' hargs
  rw [hl] at hv
  refine Calls.mono (hc L0 w cs ρ0 (fun _ => []) (fun _ q => q.elim) hv (fun i => rfl) (by simp) (by simp)) ?_
  rintro e w' ⟨y,o,⟨hy,ho⟩,v,ρ',fp',rfl,g1,g2,g3,g4,g5⟩
  replace hy := hy.symm
  replace ho := ho.symm
  subst hy ho
  have hnew : ∀ i,∀ b ∈ fp' i,w.heap.size ≤ b := fun i b hb => by
    rcases (g5 i b hb).1 with ⟨j,q⟩ | q
    · cases q
    · exact q
  have hsame : ∀ b,b < w.heap.size → w'.heap[b]? = w.heap[b]? := fun b hb => g1.block b hb (by simp)
  generalize hρ2 : (fun i => if inO ob1 i = true then ρ' i else ρ i) = ρ2
  generalize hf2 : (fun i => if inO ob1 i = true then fp' i else fp i) = f2
  have eρ1 : ∀ {i},inO ob1 i = true → ρ2 i = ρ' i := fun {i} h => by rw [← hρ2];simp only [h,if_true]
  have eρ0 : ∀ {i},inO ob1 i = false → ρ2 i = ρ i := fun {i} h => by rw [← hρ2];simp [h]
  have ef1 : ∀ {i},inO ob1 i = true → f2 i = fp' i := fun {i} h => by rw [← hf2];simp only [h,if_true]
  have ef0 : ∀ {i},inO ob1 i = false → f2 i = fp i := fun {i} h => by rw [← hf2];simp [h]
  have eH1 : ∀ {i},inO ob1 i = true → ofO (ob1 ++ ob0) i = ofO ob1 i := fun {i} h => by rw [ofO_app,if_pos h]
  have eH0 : ∀ {i},inO ob1 i = false → ofO (ob1 ++ ob0) i = ofO ob0 i := fun {i} h => by rw [ofO_app,if_neg (by simp [h])]
  have hlive : ∀ b,b < w.heap.size → ¬ live L ρ (ofO ob0) b → ¬ live L ρ2 (ofO (ob1 ++ ob0)) b := by
    rintro b hb hn (hl | ⟨i,q1,q2⟩)
    · exact hn (.inl hl)
    · rcases hi : inO ob1 i with _ | _
      · rw [eH0 hi] at q1;rw [eρ0 hi] at q2;exact hn (.inr ⟨i,q1,q2⟩)
      · rw [eH1 hi] at q1;rw [eρ1 hi] at q2
        have := hnew i b ((g3 i).top q1 q2)
        omega
  have E : Env L ρ ρ2 (ofO ob0) (ofO (ob1 ++ ob0)) w w' (inO ob1) := ⟨g1.size,fun b hb hn => ⟨hsame b hb,hlive b hb hn⟩,fun i hk hi => by
    rw [eH0 hk] at hi ⊢
    exact ⟨hi,eρ0 hk,rfl,rfl⟩⟩
  refine ⟨x,ob1 ++ ob0,⟨rfl,rfl⟩,v,ρ2,f2,rfl,⟨g1.os,g1.tape,g1.output,g1.size,fun b hb _ => hsame b hb,fun b o hb hlt => ?_⟩,?_,fun i => ?_,fun i j hij b hb hb' => ?_,fun i b hb => ?_⟩
  · rcases Nat.lt_or_ge b w.heap.size with hb2 | hb2
    · rcases hb with ⟨i,hi⟩ | hb
      · rw [World.frozen?_of_block (w := w) (hsame b hb2)]
        exact (hob i).frozen b hi o
      · omega
    · exact g1.nf b o (.inr hb2) hlt
  · refine RV.owned x hx g2 fun id hid => ?_
    obtain ⟨o,q1,q2⟩ := ofO_mem (hn id hid)
    have hfl := h1 _ q1
    refine ⟨?_,eρ1 (hn id hid)⟩
    rw [q2]
    cases o with
    | arr e sz rows => rfl
    | box T p c => exact hfl.elim
    | gone => exact hfl.elim
  · rcases hi : inO ob1 i with _ | _
    · rw [eH0 hi,eρ0 hi,ef0 hi]
      have h := (hob i).env E (fun b hb => hsame b ((hob i).lt b hb))
      have ek : (ofO ob0 i).kil (inO ob1) = ofO ob0 i := by
        rcases hj : inO ob0 i with _ | _
        · rw [ofO_out hj];rfl
        · obtain ⟨o,q1,q2⟩ := ofO_mem hj
          have := h0 _ q1
          rw [q2]
          cases o with
          | arr e sz rows => rfl
          | box T p c => cases this
          | gone => rfl
      rwa [ek] at h
    · rw [eH1 hi,eρ1 hi,ef1 hi]
      obtain ⟨o,q1,q2⟩ := ofO_mem hi
      have hfl := h1 _ q1
      have h := g3 i
      rw [q2] at h ⊢
      cases o with
      | arr e sz rows =>
        obtain ⟨xs,fr,k1,k2,k3,k4,k5⟩ := h
        have hfr := k1.flat_fp hfl.2
        subst hfr
        exact ⟨xs,[],k1,by simp,k3,k4,k5⟩
      | box T p c => exact hfl.elim
      | gone => exact hfl.elim
  · rcases hi : inO ob1 i with _ | _ <;> rcases hj : inO ob1 j with _ | _
    · rw [ef0 hi] at hb;rw [ef0 hj] at hb';exact hdj i j hij b hb hb'
    · rw [ef0 hi] at hb;rw [ef1 hj] at hb'
      have := (hob i).lt b hb
      have := hnew j b hb'
      omega
    · rw [ef1 hi] at hb;rw [ef0 hj] at hb'
      have := (hob j).lt b hb'
      have := hnew i b hb
      omega
    · rw [ef1 hi] at hb;rw [ef1 hj] at hb';exact g4 i j hij b hb hb'
  · rcases hi : inO ob1 i with _ | _
    · rw [ef0 hi] at hb;exact ⟨.inl ⟨i,hb⟩,hLf i b hb⟩
    · rw [ef1 hi] at hb
      have := hnew i b hb
      exact ⟨.inr this,fun hl => by have := hL b hl;omega⟩
section
variable {P : Program} {L O : Nat → Prop} {w0 : World} {N : Nat} {τ : Nat → AV} {H : Nat → AO} {Q : AQ} {ops : Array Oper} {F : List Nat} {n : Nat} {listed : Array Bool}
end

class CNP (Q : AQ) : Prop where
  np : NP Q
section
variable {K : (Nat → AV) → (Nat → AO) → Prop} {Q : AQ} {τ : Nat → AV} {H : Nat → AO} {id i : Nat}
instance [h : CNP Q] : CNP (AQ.andThen K Q) := ⟨h.np⟩
instance [h : CNP Q] : CNP (AQ.inBlock id Q) := ⟨h.np⟩
instance [h : CNP Q] : CNP (AQ.noGoto Q) := ⟨h.np⟩
instance {rs : List RVar} {x : AV} {ob1 : List (Nat × AO)} : CNP (Ends rs x ob1) := ⟨NP.ends⟩
instance {rs : List RVar} {R : AV → List (Nat × AO) → Prop} : CNP (EndsX rs R) := ⟨NP.endsX⟩
theorem gT (h : K τ H) : AQ.andThen K Q .normal τ H := h
theorem eT (h : Q (.exit i) τ H) : AQ.andThen K Q (.exit i) τ H := h
theorem rT (h : Q .ret τ H) : AQ.andThen K Q .ret τ H := h
theorem gB (h : Q .normal τ H) : AQ.inBlock id Q .normal τ H := h
theorem eB (h : Q .normal τ H) : AQ.inBlock id Q (.exit id) τ H := ex_block h
theorem rB (h : Q .ret τ H) : AQ.inBlock id Q .ret τ H := h
end
theorem Z {α : Sort _} {a : α} : a = a := rfl
theorem iq {a b : Int} {x : AV} (h1 : x = .p (.v (.int .i64 a))) (h : a = b := by omega) : x = .p (.v (.int .i64 b)) := by rw [h1,h]
theorem zb1 {b : Bool} : ((!b) = true) = (b = false) := by cases b <;> simp
theorem zb2 {b : Bool} : ((!b) = false) = (b = true) := by cases b <;> simp
theorem zb3 {p : Prop} [Decidable p] : (decide p = false) = ¬ p := by simp
theorem zb4 {p : Prop} [Decidable p] : (decide p = true) = p := by simp
abbrev vI (k : IntKind) (n : Int) : AV := .p (.v (.int k n))
abbrev vB (b : Bool) : AV := .p (.v (.bool b))
abbrev vV (v : Value) : AV := .p (.v v)
abbrev vL (e : TypeId) (sz : Nat) (l : List (List PV)) : AV := .p (.lst e sz l)
theorem nN {α : Type} {x : List α} (h : x = []) : x = [] := h
theorem nC {α : Type} (x : α) {l r q : List α} (h : l = x :: r) (k : r = q) : l = x :: q := by rw [h,k]
theorem nU {l r q : List AV} {c d : List AV} (h : l = .agg c :: r) (e : c = d) (k : r = q) : l = .agg d :: q := by rw [h,e,k]
theorem nT {l r q : List AV} {c d : List AV} (h : l = .tup c :: r) (e : c = d) (k : r = q) : l = .tup d :: q := by rw [h,e,k]
theorem nK {l r q : List AV} {f : Fn} {a c d : List AV} (h : l = .clo f a c :: r) (e : c = d) (k : r = q) : l = .clo f a d :: q := by rw [h,e,k]
theorem nB {l r q : List AO} {T : TypeId} {p : Option Value} {c d : List AV} (h : l = .box T p c :: r) (e : c = d) (k : r = q) : l = .box T p d :: q := by rw [h,e,k]
theorem nz {α : Type} {x y : List α} (h : x = y := by repeat' (first | exact nN rfl | apply nC (vI _ _) rfl | apply nC (AV.ptr _ _ _) rfl | apply nC (vB _) rfl | apply nC (AV.own _) rfl | apply nC (vL _ _ _) rfl | apply nC (vV _) rfl | apply nU rfl | apply nC (AV.rp _) rfl | apply nC AV.dead rfl | apply nB rfl | apply nC (AO.arr _ _ _) rfl | apply nC (AV.tup []) rfl | apply nT rfl | apply nK rfl | apply nC (AV.sub _ _ _) rfl | apply nC (AV.p _) rfl | apply nC _ rfl)) : x = y := h
def ofK : List (Nat × AV) → (Nat → AV) → Nat → AV
  | [],f,t => f t
  | (s,x) :: l,f,t => if t = s then x else ofK l f t
def ofH : List (Nat × AO) → (Nat → AO) → Nat → AO
  | [],f,t => f t
  | (s,x) :: l,f,t => if t = s then x else ofH l f t
def of2 {α : Type} (z : α) : List Nat → List α → Nat → α
  | s :: l,x :: r,t => if t = s then x else of2 z l r t
  | _,_,_ => z
def at2 {α : Type} (τ : Nat → α) : List Nat → List α
  | [] => []
  | s :: l => τ s :: at2 τ l
theorem at2.weak {α : Type} {z : α} {τ : Nat → α} : ∀ {l : List Nat} {v : List α},at2 τ l = v → ∀ t,of2 z l v t = z ∨ of2 z l v t = τ t
  | [],_,h,t => .inl (by subst h;rfl)
  | s :: l,v,h,t => by
    subst h
    show (if t = s then τ s else of2 z l (at2 τ l) t) = z ∨ (if t = s then τ s else of2 z l (at2 τ l) t) = τ t
    split
    · rename_i q;subst q;exact .inr rfl
    · exact at2.weak rfl t
def dstOk (o : Option Nat) (N : Nat) : Bool := match o with | some t => Nat.blt t N | none => true
theorem dstOk.at {o : Option Nat} {N : Nat} (h : dstOk o N = true) : ∀ s,o = some s → s < N := fun s e => by subst e;exact Nat.le_of_ble_eq_true h
def allv (r : List (Nat × Nat)) (H : Nat → AO) : List (Nat × AO) → List (Option AO)
  | [] => []
  | (i,_) :: l => (rn r i).map (fun j => (H j).ren (sw r)) :: allv r H l
def allw : List (Nat × AO) → List (Option AO)
  | [] => []
  | (_,o) :: l => some o :: allw l
theorem allv.all0 {r : List (Nat × Nat)} {H : Nat → AO} : ∀ {l : List (Nat × AO)},allv r H l = allw l → all0 r H l
  | [],_ => trivial
  | (i,o) :: l,h => by
    unfold allv allw at h
    injection h with h1 h2
    refine ⟨?_,allv.all0 h2⟩
    cases e : rn r i with
    | none => rw [e] at h1;cases h1
    | some j => rw [e] at h1;injection h1 with h1;exact ⟨j,rfl,h1⟩
section
variable {P : Program} {L O : Nat → Prop} {w0 : World} {N : Nat} {τ τ' : Nat → AV} {H H' : Nat → AO} {Q : AQ}
theorem aS {x y : Code} (h : AW P L O w0 N x τ H (Q.andThen fun τ H => AW P L O w0 N y τ H Q)) : AW P L O w0 N (.seq x y) τ H Q := AW.seq h
theorem aL {id : Nat} {l : List Oper} (h : AL P L O w0 N l.toArray l τ H Q) : AW P L O w0 N (.region id l.toArray false) τ H Q := AW.list h
theorem aK (h : Q .normal τ H) : AW P L O w0 N .skip τ H Q := AW.skip h
theorem aR (h : Q .ret τ H) : AW P L O w0 N .ret τ H Q := AW.ret h
theorem aE {id : Nat} (h : Q (.exit id) τ H) : AW P L O w0 N (.exit id) τ H Q := AW.exit h
theorem aB {id : Nat} {c : Code} (h : AW P L O w0 N c τ H (Q.inBlock id)) : AW P L O w0 N (.block id c) τ H Q := AW.block h
theorem aY {c : Operand} {x y : Code} (hc : ev τ c = .p (.v (.bool true))) (h : AW P L O w0 N x τ H Q) : AW P L O w0 N (.cond c x y) τ H Q := AW.yes hc h
theorem aN {c : Operand} {x y : Code} (hc : ev τ c = .p (.v (.bool false))) (h : AW P L O w0 N y τ H Q) : AW P L O w0 N (.cond c x y) τ H Q := AW.no hc h
theorem aT (k i : List Nat) {v : List AV} {b : List AO} {c : Code} (h : AW P L O w0 N c (of2 .bad k v) (of2 .gone i b) Q) (h1 : at2 τ k = v := by exact nz) (h2 : at2 H i = b := by exact nz) : AW P L O w0 N c τ H Q := AW.weak (at2.weak h1) (at2.weak h2) h
variable {ops : Array Oper} {o : Oper} {l : List Oper}
theorem lN (h : Q .normal τ H) : AL P L O w0 N ops [] τ H Q := AL.nil h
theorem lno {t : Nat} (h : (gv τ ops o,o.dst,Nat.blt t N) = (some false,some t,true)) (K : AL P L O w0 N ops l (upd τ t (.tup [])) H Q) : AL P L O w0 N ops (o :: l) τ H Q := by
  simp only [Prod.mk.injEq] at h
  exact AL.no h.1 h.2.1 (Nat.le_of_ble_eq_true h.2.2) K
theorem lst {E : List Nat} (hs : St P o N τ H E τ' H') (hg : gv τ ops o = some true) (h : AL P L O w0 N ops l τ' H' Q) : AL P L O w0 N ops (o :: l) τ H Q := AL.st hs hg h
theorem lT (k i : List Nat) {v : List AV} {b : List AO} (h : AL P L O w0 N ops l (of2 .bad k v) (of2 .gone i b) Q) (h1 : at2 τ k = v := by exact nz) (h2 : at2 H i = b := by exact nz) : AL P L O w0 N ops l τ H Q := AL.weak (at2.weak h1) (at2.weak h2) h
end
section
variable {P : Program} {L O : Nat → Prop} {w0 : World} {N : Nat} {τ τ' : Nat → AV} {H H' : Nat → AO} {Q : AQ} {ops : Array Oper} {o : Oper} {F : List Nat} {n f : Nat} {X : Nat → Bool} {listed : Array Bool}
def tkG (ops : Array Oper) (f : Nat) (listed : Array Bool) (i : Nat) : Bool := (Region.ready .any ops listed).contains i && (Region.noSelect ops && (Region.free .any ops listed i && ((reachB .any ops f).getD i false && closedB .any ops listed)))
theorem and5 {a b c d e : Bool} (h : (a && (b && (c && (d && e)))) = true) : a = true ∧ b = true ∧ c = true ∧ d = true ∧ e = true := by simpa [Bool.and_eq_true] using h
theorem and4 {a b c e : Bool} (h : (a && (b && (c && e))) = true) : a = true ∧ b = true ∧ c = true ∧ e = true := by simpa [Bool.and_eq_true] using h
def tkF (ops : Array Oper) (F : List Nat) (listed : Array Bool) (i : Nat) : Bool := (Region.ready .any ops listed).contains i && (Region.noSelect ops && (Region.free .any ops listed i && (reachF .any ops F listed i && closedB .any ops listed)))
def tkP (ops : Array Oper) (listed : Array Bool) (i : Nat) : Bool := (Region.ready .any ops listed).contains i && (Region.noSelect ops && (Region.free .any ops listed i && closedB .any ops listed))
theorem aF {id : Nat} (F : List Nat) (h : AF P L O w0 N ops F ops.size (Array.replicate ops.size false) τ H Q) (hm : P.follows .mixedOrders = true := by kernel_rfl) : AW P L O w0 N (.region id ops true) τ H Q := AW.drawF F hm h
theorem aG {id : Nat} (f : Nat) (X : List Nat) (h : AG P L O w0 N ops f (inK X) ops.size (Array.replicate ops.size false) τ H Q) (hm : P.follows .mixedOrders = true := by kernel_rfl) : AW P L O w0 N (.region id ops true) τ H Q := AW.draw f (inK X) hm h
theorem fD (h : Q .normal τ H) (hr : Region.ready .any ops listed = [] := by kernel_rfl) : AF P L O w0 N ops F n listed τ H Q := AF.done hr h
theorem gD (h : Q .normal τ H) (hr : Region.ready .any ops listed = [] := by kernel_rfl) : AG P L O w0 N ops f X n listed τ H Q := AG.done hr h
theorem vst (i : Nat) {E : List Nat} (h0 : (ops[i]?,gv τ ops o) = (some o,some true)) (hs : St P o N τ H E τ' H') (hF : F.contains i = true ∨ E = []) (h : AF P L O w0 N ops F n (listed.setIfInBounds i true) τ' H' Q) (hr : Region.ready .any ops listed = [i] := by kernel_rfl) : AF P L O w0 N ops F (n + 1) listed τ H Q := by
  simp only [Prod.mk.injEq] at h0
  exact AF.st h0.1 hr hs hF h0.2 h
theorem yst (i : Nat) {E : List Nat} (h0 : (ops[i]?,gv τ ops o) = (some o,some true)) (hs : St P o N τ H E τ' H') (h : AG P L O w0 N ops f X n (listed.setIfInBounds i true) τ' H' Q) (hX : ∀ id ∈ E,X id = true := by decide) (hr : Region.ready .any ops listed = [i] := by kernel_rfl) : AG P L O w0 N ops f X (n + 1) listed τ H Q := by
  simp only [Prod.mk.injEq] at h0
  exact AG.st h0.1 hr hs hX h0.2 h
theorem yno (i : Nat) {t : Nat} (h0 : (ops[i]?,gv τ ops o,o.dst,Nat.blt t N) = (some o,some false,some t,true)) (h : AG P L O w0 N ops f X n (listed.setIfInBounds i true) (upd τ t (.tup [])) H Q) (hr : Region.ready .any ops listed = [i] := by kernel_rfl) : AG P L O w0 N ops f X (n + 1) listed τ H Q := by
  simp only [Prod.mk.injEq] at h0
  exact AG.no h0.1 hr h0.2.1 h0.2.2.1 (Nat.le_of_ble_eq_true h0.2.2.2) h
theorem vno (i : Nat) {t : Nat} (h0 : (ops[i]?,gv τ ops o,o.dst,Nat.blt t N) = (some o,some false,some t,true)) (h : AF P L O w0 N ops F n (listed.setIfInBounds i true) (upd τ t (.tup [])) H Q) (hr : Region.ready .any ops listed = [i] := by kernel_rfl) : AF P L O w0 N ops F (n + 1) listed τ H Q := by
  simp only [Prod.mk.injEq] at h0
  exact AF.no h0.1 hr h0.2.1 h0.2.2.1 (Nat.le_of_ble_eq_true h0.2.2.2) h
theorem tno [cq : CNP Q] (i : Nat) {t : Nat} (h0 : (ops[i]?,gv τ ops o,o.dst,Nat.blt t N) = (some o,some false,some t,true)) (h : AG P L O w0 N ops f X n (listed.setIfInBounds i true) (upd τ t (.tup [])) H Q) (hb : tkG ops f listed i = true := by kernel_rfl) : AG P L O w0 N ops f X (n + 1) listed τ H Q := by
  simp only [Prod.mk.injEq] at h0
  exact AG.skip h0.1 (and5 hb).1 (and5 hb).2.1 (and5 hb).2.2.1 (and5 hb).2.2.2.1 (and5 hb).2.2.2.2 h0.2.1 h0.2.2.1 (Nat.le_of_ble_eq_true h0.2.2.2) cq.np h
theorem pno [cq : CNP Q] (i : Nat) {t : Nat} (h0 : (ops[i]?,gv τ ops o,o.dst,Nat.blt t N) = (some o,some false,some t,true)) (h : AF P L O w0 N ops F n (listed.setIfInBounds i true) (upd τ t (.tup [])) H Q) (hb : tkP ops listed i = true := by kernel_rfl) : AF P L O w0 N ops F (n + 1) listed τ H Q := by
  simp only [Prod.mk.injEq] at h0
  exact AF.skip h0.1 (and4 hb).1 (and4 hb).2.1 (and4 hb).2.2.1 (and4 hb).2.2.2 h0.2.1 h0.2.2.1 (Nat.le_of_ble_eq_true h0.2.2.2) cq.np h
theorem fTv (k : List Nat) (v : List AV) (i : List Nat) (b : List AO) (h1 : at2 τ k = v) (h2 : at2 H i = b) (h : AF P L O w0 N ops F n listed (of2 .bad k v) (of2 .gone i b) Q) : AF P L O w0 N ops F n listed τ H Q := fun ρ fp a w hr => by
  obtain ⟨fp',hr',_⟩ := hr.weak (at2.weak (z := AV.bad) h1) (at2.weak (z := AO.gone) h2)
  exact h ρ fp' a w hr'
theorem fT (k i : List Nat) {v : List AV} {b : List AO} (h : AF P L O w0 N ops F n listed (of2 .bad k v) (of2 .gone i b) Q) (h1 : at2 τ k = v := by exact nz) (h2 : at2 H i = b := by exact nz) : AF P L O w0 N ops F n listed τ H Q := fTv k v i b h1 h2 h
theorem of2_zip : ∀ {k : List Nat} {v : List AV},ofT (k.zip v) = of2 .bad k v
  | [],v => funext fun t => by simp [ofT,of2]
  | s :: k,[] => funext fun t => by simp [ofT,of2]
  | s :: k,x :: v => funext fun t => by simp only [List.zip_cons_cons,ofT,of2,of2_zip]
theorem of2_zipO : ∀ {k : List Nat} {v : List AO},ofO (k.zip v) = of2 .gone k v
  | [],v => funext fun t => by simp [ofO,of2]
  | s :: k,[] => funext fun t => by simp [ofO,of2]
  | s :: k,x :: v => funext fun t => by simp only [List.zip_cons_cons,ofO,of2,of2_zipO]
theorem allT_zip : ∀ {k : List Nat} {v : List AV},at2 τ k = v → allT (k.zip v) τ
  | [],v,h => by subst h;trivial
  | s :: k,v,h => by subst h;exact ⟨rfl,allT_zip rfl⟩
theorem allO_zip : ∀ {k : List Nat} {v : List AO},at2 H k = v → allO (k.zip v) H
  | [],v,h => by subst h;trivial
  | s :: k,v,h => by subst h;exact ⟨rfl,allO_zip rfl⟩
def eqX (B H : Nat → AO) : List Nat → Prop
  | [] => True
  | i :: l => B i = H i ∧ eqX B H l
theorem eqX.to {B : List (Nat × AO)} {B' : Nat → AO} (hB : ofO B = B') : ∀ {X : List Nat},eqX B' H X → sameX B H X
  | [],_ => trivial
  | _ :: _,h => ⟨by rw [hB];exact h.1,eqX.to hB h.2⟩
theorem gXv (k : List Nat) (v : List AV) (i : List Nat) (b : List AO) {X : List Nat} (h1 : at2 τ k = v) (h2 : at2 H i = b) (hX : eqX (of2 .gone i b) H X) (h : AG P L O w0 N ops f (inK X) n listed (of2 .bad k v) (of2 .gone i b) Q) : AG P L O w0 N ops f (inK X) n listed τ H Q :=
  AG.tidyX (k.zip v) (i.zip b) (allT_zip h1) (allO_zip h2) (eqX.to of2_zipO hX) (by rw [of2_zip,of2_zipO];exact h)
theorem gX (k i : List Nat) {v : List AV} {b : List AO} {X : List Nat} (h : AG P L O w0 N ops f (inK X) n listed (of2 .bad k v) (of2 .gone i b) Q) (h1 : at2 τ k = v := by exact nz) (h2 : at2 H i = b := by exact nz) (hX : eqX (of2 .gone i b) H X := by repeat (first | exact trivial | refine ⟨rfl,?_⟩)) : AG P L O w0 N ops f (inK X) n listed τ H Q := gXv k v i b h1 h2 hX h
end
section
variable {P : Program} {o : Oper} {N : Nat} {τ : Nat → AV} {H : Nat → AO} {X : Nat → Bool}
def FA (P : Program) (T k off ft : Nat) : Prop := fldA P T k = some (off,ft) ∧ P.cellsOf ft ≠ 0 ∧ (P.underlying ft).isSome = true
theorem zfr {t k off ft : Nat} {x : Operand} {cells : List PV} (hf : FA P t k off ft) (h : (o.op,ev τ x) = (.fieldAddr t x k,.rp cells)) : Rd P o τ H X (.rp (cells.drop off)) := by
  simp only [Prod.mk.injEq] at h
  exact rd_faddr_rp h.1 hf.1 hf.2.1 hf.2.2 h.2
theorem zpfr {t k off ft : Nat} {x : Operand} {cells : List PV} (hf : FA P t k off ft) (h : (o.op,ev τ x) = (.fieldAddr t x k,.rp cells)) : Pd P o τ H (.rp (cells.drop off)) := by
  simp only [Prod.mk.injEq] at h
  exact pd_faddr_rp h.1 hf.1 hf.2.1 hf.2.2 h.2
theorem zB (id : Nat) {t T : TypeId} {x y : Operand} {k : Nat} {p : Option Value} {cells l : List AV} (hsz : P.cellsOf t = l.length) (hi : (P.info? t).isSome = true) (h : (o.op,o.dst,ev τ x,H id,cellsA (ev τ y),Nat.ble (k + l.length) cells.length) = (.store t x y,none,.ptr id 0 k,.box T p cells,some l,true)) :
    St P o N τ H [id] τ (upd H id (.box T p (cells.take k ++ l ++ cells.drop (k + l.length)))) :=
  St.storeBox (P := P) (o := o) (N := N) (τ := τ) (H := H) id (t := t) (T := T) (x := x) (y := y) (k := k) (p := p) (cells := cells) (l := l) (congrArg (·.1) h) (congrArg (·.2.1) h) (congrArg (·.2.2.1) h) (congrArg (·.2.2.2.1) h) (congrArg (·.2.2.2.2.1) h) hsz hi (Nat.le_of_ble_eq_true (congrArg (·.2.2.2.2.2) h))
theorem zA (id : Nat) {T : TypeId} {t : Nat} {zs : List Value} (hz : zeroA P T = some zs) (h : (o.op,o.dst,Nat.blt t N) = (.alloc T,some t,true)) :
    St P o N τ H [] (upd (fun s => kil (one? id) (τ s)) t (.ptr id 0 0)) (upd (fun j => (H j).kil (one? id)) id (.box T none (zs.map fun c => .p (.v c)))) :=
  St.alloc (P := P) (o := o) (N := N) (τ := τ) (H := H) id (T := T) (t := t) (zs := zs) (congrArg (·.1) h) (congrArg (·.2.1) h) (Nat.le_of_ble_eq_true (congrArg (·.2.2) h)) hz
theorem zX (id : Nat) {T : TypeId} {t : Nat} {x : Operand} {l : List AV} (h : (o.op,o.dst,Nat.blt t N,cellsA (ev τ x)) = (.box T x,some t,true,some l)) :
    St P o N τ H [] (upd (fun s => kil (one? id) (τ s)) t (.ptr id 0 0)) (upd (fun j => (H j).kil (one? id)) id (.box T none (kilL (one? id) l))) :=
  St.box (P := P) (o := o) (N := N) (τ := τ) (H := H) id (T := T) (t := t) (x := x) (l := l) (congrArg (·.1) h) (congrArg (·.2.1) h) (Nat.le_of_ble_eq_true (congrArg (·.2.2.1) h)) (congrArg (·.2.2.2) h)
theorem zC (r : List (Nat × Nat)) (kl pl : List Nat) {y : Operand} {l : List Operand} {ts : Array TypeId} {f : FuncId} {fn : Func} {fs caps args : List AV} {ob0 ob1 : List (Nat × AO)} {x : AV} (hf : P.funcs[f]? = some fn) (hc : GC P f args ob0 x ob1) (hp : pins ob0 ob1 pl)
    (h : (o.op,dstOk o.dst N,ev τ y,(fn.name == "runtime.NumGoroutine"),fn.body.isNone,renL (sw r) (fs ++ l.map (ev τ) ++ caps)) = (.call { callee := .value y,args := l.toArray,argTypes := ts },true,.clo (.func f) fs caps,false,false,args)) (h0 : allv r H ob0 = allw ob0)
    (hr : (nodupB (r.map Prod.fst) && (nodupB (r.map Prod.snd) && okK r kl pl)) = true := by decide) :
    St P o N τ H (exL r ob0) (updo (fun t => kil (inK kl) (τ t)) o.dst (ren r x)) (callH r (inK kl) ob1 H) := by
  simp only [Prod.mk.injEq] at h
  simp only [Bool.and_eq_true] at hr
  exact St.call r kl pl h.1 (dstOk.at h.2.1) h.2.2.1 hf h.2.2.2.1 h.2.2.2.2.1 hc hr (allv.all0 h0) hp h.2.2.2.2.2
theorem z5a {y : Operand} {l : List Operand} {ts : Array TypeId} {f : FuncId} {fn : Func} {fs caps args : List AV} {ob0 ob1 : List (Nat × AO)} {x : AV} (hf : P.funcs[f]? = some fn) (hc : GC P f args ob0 x ob1) (hp : pins ob0 ob1 [0])
    (h : (o.op,dstOk o.dst N,ev τ y,(fn.name == "runtime.NumGoroutine"),fn.body.isNone,renL (sw [(0,0),(1,1),(2,2),(3,3),(4,4)]) (fs ++ l.map (ev τ) ++ caps)) = (.call { callee := .value y,args := l.toArray,argTypes := ts },true,.clo (.func f) fs caps,false,false,args)) (h0 : allv [(0,0),(1,1),(2,2),(3,3),(4,4)] H ob0 = allw ob0) :
    St P o N τ H (exL [(0,0),(1,1),(2,2),(3,3),(4,4)] ob0) (updo (fun t => kil (inK [1,2,3,4]) (τ t)) o.dst (ren [(0,0),(1,1),(2,2),(3,3),(4,4)] x)) (callH [(0,0),(1,1),(2,2),(3,3),(4,4)] (inK [1,2,3,4]) ob1 H) := zC [(0,0),(1,1),(2,2),(3,3),(4,4)] [1,2,3,4] [0] hf hc hp h h0
theorem z5b {y : Operand} {l : List Operand} {ts : Array TypeId} {f : FuncId} {fn : Func} {fs caps args : List AV} {ob0 ob1 : List (Nat × AO)} {x : AV} (hf : P.funcs[f]? = some fn) (hc : GC P f args ob0 x ob1) (hp : pins ob0 ob1 [0,1])
    (h : (o.op,dstOk o.dst N,ev τ y,(fn.name == "runtime.NumGoroutine"),fn.body.isNone,renL (sw [(0,0),(1,1),(2,2),(3,3),(4,4)]) (fs ++ l.map (ev τ) ++ caps)) = (.call { callee := .value y,args := l.toArray,argTypes := ts },true,.clo (.func f) fs caps,false,false,args)) (h0 : allv [(0,0),(1,1),(2,2),(3,3),(4,4)] H ob0 = allw ob0) :
    St P o N τ H (exL [(0,0),(1,1),(2,2),(3,3),(4,4)] ob0) (updo (fun t => kil (inK [2,3,4]) (τ t)) o.dst (ren [(0,0),(1,1),(2,2),(3,3),(4,4)] x)) (callH [(0,0),(1,1),(2,2),(3,3),(4,4)] (inK [2,3,4]) ob1 H) := zC [(0,0),(1,1),(2,2),(3,3),(4,4)] [2,3,4] [0,1] hf hc hp h h0
theorem gi (t : Nat) {f : FuncId} {fn : Func} {c : Code} {args : List AV} {ob0 ob1 : List (Nat × AO)} {x : AV} (hf : P.funcs[f]? = some fn) (hb : fn.body = some c) (hn : fn.ntmps = N) (h0 : (Nat.ble args.length N,fn.results.toList) = (true,[.tmp t]))
    (h : ∀ L O w0,AW P L O w0 N c (ofL args) (ofO ob0) (Ends [.tmp t] x ob1)) : GC P f args ob0 x ob1 := GC.intro hf hb hn (Nat.le_of_ble_eq_true (congrArg (·.1) h0)) (by rw [show fn.results.toList = _ from congrArg (·.2) h0];exact ⟨rfl,trivial⟩) h
theorem zL {y : Operand} {l : List Operand} {ts : Array TypeId} {f : FuncId} {fn : Func} {args : List AV} {x : AV} (hf : P.funcs[f]? = some fn) (hc : GC P f args [] x [])
    (h : (o.op,dstOk o.dst N,ev τ y,(fn.name == "runtime.NumGoroutine"),fn.body.isNone,flatA x,lendL H (l.map (ev τ))) = (.call { callee := .value y,args := l.toArray,argTypes := ts },true,.clo (.func f) [] [],false,false,true,args)) : St P o N τ H [] (updo τ o.dst x) H := by
  simp only [Prod.mk.injEq] at h
  exact St.lend h.1 (dstOk.at h.2.1) h.2.2.1 hf h.2.2.2.1 h.2.2.2.2.1 hc h.2.2.2.2.2.1 h.2.2.2.2.2.2
end
section
variable {P : Program} {L O : Nat → Prop} {w0 : World} {N : Nat} {τ : Nat → AV} {H : Nat → AO} {Q : AQ} {ops : Array Oper} {l : List Oper} {F : List Nat} {n f : Nat} {X : Nat → Bool} {listed : Array Bool} {c : Code}
theorem lsB (t : Nat) (x : Bool) {y : Bool} (ht : τ t = boo y) (e : y = x) (h : AL P L O w0 N ops l (upd τ t (boo x)) H Q) : AL P L O w0 N ops l τ H Q := AL.slot t _ (ht.trans (congrArg boo e)) h
theorem lsN (t : Nat) (x : Int) {y : Int} (ht : τ t = int y) (e : y = x) (h : AL P L O w0 N ops l (upd τ t (int x)) H Q) : AL P L O w0 N ops l τ H Q := AL.slot t _ (ht.trans (congrArg int e)) h
theorem gsB (t : Nat) (x : Bool) {y : Bool} (ht : τ t = boo y) (e : y = x) (h : AG P L O w0 N ops f X n listed (upd τ t (boo x)) H Q) : AG P L O w0 N ops f X n listed τ H Q := AG.slot t _ (ht.trans (congrArg boo e)) h
theorem gsN (t : Nat) (x : Int) {y : Int} (ht : τ t = int y) (e : y = x) (h : AG P L O w0 N ops f X n listed (upd τ t (int x)) H Q) : AG P L O w0 N ops f X n listed τ H Q := AG.slot t _ (ht.trans (congrArg int e)) h
theorem fsB (t : Nat) (x : Bool) {y : Bool} (ht : τ t = boo y) (e : y = x) (h : AF P L O w0 N ops F n listed (upd τ t (boo x)) H Q) : AF P L O w0 N ops F n listed τ H Q := AF.slot t _ (ht.trans (congrArg boo e)) h
theorem fsN (t : Nat) (x : Int) {y : Int} (ht : τ t = int y) (e : y = x) (h : AF P L O w0 N ops F n listed (upd τ t (int x)) H Q) : AF P L O w0 N ops F n listed τ H Q := AF.slot t _ (ht.trans (congrArg int e)) h
theorem asB (t : Nat) (x : Bool) {y : Bool} (ht : τ t = boo y) (e : y = x) (h : AW P L O w0 N c (upd τ t (boo x)) H Q) : AW P L O w0 N c τ H Q := AW.slot t _ (ht.trans (congrArg boo e)) h
end
def Rdy (R : Prop) (N : Nat) (τ : Nat → AV) (ops : Array Oper) (o : Oper) (t : Nat) : Prop := R ∧ gv τ ops o = some true ∧ o.dst = some t ∧ t < N
def oAt (ops : Array Oper) (i : Nat) : Oper := ops.getD i default
theorem oAt.some {ops : Array Oper} {i : Nat} (h : Nat.blt i ops.size = true) : ops[i]? = some (oAt ops i) := by
  have h' : i < ops.size := Nat.le_of_ble_eq_true h
  unfold oAt
  rw [Array.getElem?_eq_getElem h']
  simp [Array.getD,h']
section
variable {P : Program} {L O : Nat → Prop} {w0 : World} {N : Nat} {τ : Nat → AV} {H : Nat → AO} {Q : AQ} {ops : Array Oper} {o : Oper} {l : List Oper} {F : List Nat} {n f : Nat} {X : Nat → Bool} {listed : Array Bool} {x : AV} {t : Nat}
theorem lq (r : Rdy (Rd P o τ H (fun _ => false) x) N τ ops o t) (K : AL P L O w0 N ops l (upd τ t x) H Q) : AL P L O w0 N ops (o :: l) τ H Q := AL.rd r.1 r.2.1 r.2.2.1 r.2.2.2 K
theorem lor {o1 o2 o3 : Oper} {A B : Bool} {y c z : Operand} {s1 s2 s3 : Nat} {T : TypeId} (h : (o1.op,ev τ y,o1.dst,o2.op,o2.dst,o3.op,o3.dst,Nat.blt s1 N,Nat.blt s2 N,Nat.blt s3 N) = (.move y,vB B,some s1,.unOp .not T (.tmp s1),some s2,.pick c z (.tmp s2),some s3,true,true,true))
    (h2 : (gv τ ops o1,gv (upd τ s1 (.tup [])) ops o2,gv (upd τ s1 (vB B)) ops o2,gv (upd (upd τ s1 (.tup [])) s2 (.tup [])) ops o3,gv (upd (upd τ s1 (vB B)) s2 (vB (!B))) ops o3) = (some (A == false),some (A == false),some (A == false),some true,some true))
    (h3 : (ev (upd (upd τ s1 (.tup [])) s2 (.tup [])) c,ev (upd (upd τ s1 (vB B)) s2 (vB (!B))) c,ev (upd (upd τ s1 (.tup [])) s2 (.tup [])) z,ev (upd (upd τ s1 (vB B)) s2 (vB (!B))) z,ev (upd (upd τ s1 (vB B)) s2 (vB (!B))) (.tmp s2)) = (vB A,vB A,vB true,vB true,vB (!B)))
    (K : AL P L O w0 N ops l (upd (upd (upd τ s1 .bad) s2 .bad) s3 (vB (A || !B))) H Q) : AL P L O w0 N ops (o1 :: o2 :: o3 :: l) τ H Q := by
  simp only [Prod.mk.injEq] at h h2 h3
  obtain ⟨a1,a2,a3,a4,a5,a6,a7,a8,a9,a10⟩ := h
  obtain ⟨b1,b2,b3,b4,b5⟩ := h2
  obtain ⟨c1,c2,c3,c4,c5⟩ := h3
  have l1 := Nat.le_of_ble_eq_true a8
  have l2 := Nat.le_of_ble_eq_true a9
  have l3 := Nat.le_of_ble_eq_true a10
  have wk : ∀ (u v : AV) t,upd (upd (upd τ s1 .bad) s2 .bad) s3 (vB (A || !B)) t = .bad ∨ upd (upd (upd τ s1 .bad) s2 .bad) s3 (vB (A || !B)) t = upd (upd (upd τ s1 u) s2 v) s3 (vB (A || !B)) t := fun u v t => by
    unfold upd
    by_cases e3 : t = s3
    · simp [e3]
    · by_cases e2 : t = s2
      · simp only [e3,if_false,e2,if_true];split <;> simp
      · by_cases e1 : t = s1
        · simp only [e3,e2,if_false,e1,if_true];(repeat' split) <;> simp
        · simp [e3,e2,e1]
  cases A with
  | true =>
    refine AL.no b1 a3 l1 (AL.no b2 a5 l2 (AL.rd (x := vB true) (rd_pick a6 ?_) b4 a7 l3 (AL.weak (wk _ _) (fun _ => .inr rfl) K)))
    rw [c1,c3];rfl
  | false =>
    refine AL.rd (x := vB B) (rd_mvx (.inl a1) a2) b1 a3 l1 (AL.rd (x := vB (!B)) (rd_un a4 (pre := True) ?_ trivial) b3 a5 l2 (AL.rd (x := vB (!B)) (rd_pick a6 ?_) b5 a7 l3 (AL.weak (wk _ _) (fun _ => .inr rfl) K)))
    · show unv .not (upd τ s1 (vB B) s1) = _
      rw [upd_same];rfl
    · rw [c2,c4,c5];rfl
theorem rd {X : Nat → Bool} (hr : Rd P o τ H X x) (h : (gv τ ops o,o.dst,Nat.blt t N) = (some true,some t,true)) : Rdy (Rd P o τ H X x) N τ ops o t := by
  simp only [Prod.mk.injEq] at h
  exact ⟨hr,h.1,h.2.1,Nat.le_of_ble_eq_true h.2.2⟩
theorem qd (hr : Pd P o τ H x) (h : (gv τ ops o,o.dst,Nat.blt t N) = (some true,some t,true)) : Rdy (Pd P o τ H x) N τ ops o t := by
  simp only [Prod.mk.injEq] at h
  exact ⟨hr,h.1,h.2.1,Nat.le_of_ble_eq_true h.2.2⟩
def tk1 (ops : Array Oper) (listed : Array Bool) (i : Nat) : Bool := Nat.blt i ops.size && (Region.ready .any ops listed == [i])
theorem tk1.at {i : Nat} (h : tk1 ops listed i = true) : ops[i]? = some (oAt ops i) ∧ Region.ready .any ops listed = [i] := by
  unfold tk1 at h
  rw [Bool.and_eq_true] at h
  exact ⟨oAt.some h.1,by simpa using h.2⟩
theorem yq (i : Nat) (r : Rdy (Rd P (oAt ops i) τ H (fun _ => false) x) N τ ops (oAt ops i) t) (K : AG P L O w0 N ops f X n (listed.setIfInBounds i true) (upd τ t x) H Q) (hb : tk1 ops listed i = true := by kernel_rfl) : AG P L O w0 N ops f X (n + 1) listed τ H Q :=
  AG.rd (tk1.at hb).1 (tk1.at hb).2 r.1 r.2.1 r.2.2.1 r.2.2.2 K
theorem vq (i : Nat) (r : Rdy (Rd P (oAt ops i) τ H (fun _ => false) x) N τ ops (oAt ops i) t) (K : AF P L O w0 N ops F n (listed.setIfInBounds i true) (upd τ t x) H Q) (hb : tk1 ops listed i = true := by kernel_rfl) : AF P L O w0 N ops F (n + 1) listed τ H Q :=
  AF.rd (tk1.at hb).1 (tk1.at hb).2 r.1 r.2.1 r.2.2.1 r.2.2.2 K
theorem tq [cq : CNP Q] (i : Nat) (r : Rdy (Rd P (oAt ops i) τ H X x) N τ ops (oAt ops i) t) (K : AG P L O w0 N ops f X n (listed.setIfInBounds i true) (upd τ t x) H Q) (hb : (Nat.blt i ops.size && tkG ops f listed i) = true := by kernel_rfl) : AG P L O w0 N ops f X (n + 1) listed τ H Q := by
  rw [Bool.and_eq_true] at hb
  have hc := and5 hb.2
  exact AG.take (oAt.some hb.1) hc.1 hc.2.1 hc.2.2.1 hc.2.2.2.1 hc.2.2.2.2 r.1 r.2.1 r.2.2.1 r.2.2.2 cq.np K
theorem sq [cq : CNP Q] (i : Nat) (r : Rdy (Rd P (oAt ops i) τ H (fun _ => false) x) N τ ops (oAt ops i) t) (K : AF P L O w0 N ops F n (listed.setIfInBounds i true) (upd τ t x) H Q) (hb : (Nat.blt i ops.size && tkF ops F listed i) = true := by kernel_rfl) : AF P L O w0 N ops F (n + 1) listed τ H Q := by
  rw [Bool.and_eq_true] at hb
  have hc := and5 hb.2
  exact AF.take (oAt.some hb.1) hc.1 hc.2.1 hc.2.2.1 hc.2.2.2.1 hc.2.2.2.2 r.1 r.2.1 r.2.2.1 r.2.2.2 cq.np K
theorem pq [cq : CNP Q] (i : Nat) (r : Rdy (Pd P (oAt ops i) τ H x) N τ ops (oAt ops i) t) (K : AF P L O w0 N ops F n (listed.setIfInBounds i true) (upd τ t x) H Q) (hb : (Nat.blt i ops.size && tkP ops listed i) = true := by kernel_rfl) : AF P L O w0 N ops F (n + 1) listed τ H Q := by
  rw [Bool.and_eq_true] at hb
  have hc := and4 hb.2
  exact AF.takeP (oAt.some hb.1) hc.1 hc.2.1 hc.2.2.1 hc.2.2.2 r.1 r.2.1 r.2.2.1 r.2.2.2 cq.np K
end
section
variable {P : Program} {o : Oper} {N : Nat} {τ : Nat → AV} {H : Nat → AO}
theorem zS (id : Nat) (rows : List (List PV)) {t e : TypeId} {len d sz : Nat} {parts : List (Nat × Operand)} {zs : List Value} {bp : List (Nat × Nat × AV)} (he : elA P t = some (e,sz)) (hz : zeroA P e = some zs)
    (h : (o.op,o.dst,Nat.blt d N,bparts (fun i => some (i * sz,sz)) τ parts,buildv ((List.replicate len zs).flatten.map fun c => .p (.v c)) bp,rows.length,Nat.ble (len * sz) 16777216,Nat.blt 0 sz,zs.length) = (.buildSlice t len parts.toArray,some d,true,some bp,some (rows.flatten.map AV.p),len,true,true,sz))
    (hrs : ∀ r ∈ rows,r.length = sz := by intro r hr;simp [rowsOf] at hr;subst hr;rfl) :
    St P o N τ H [] (upd (fun s => kil (one? id) (τ s)) d (.own id)) (upd (fun j => (H j).kil (one? id)) id (.arr e sz rows)) := by
  simp only [Prod.mk.injEq] at h
  obtain ⟨h1,h2,h3,h4,h5,h6,h7,h8,h9⟩ := h
  exact St.bslice id h1 h2 (Nat.le_of_ble_eq_true h3) he hz h9 h4 h5 rfl hrs h6 (Nat.le_of_ble_eq_true h7) (Nat.le_of_ble_eq_true h8)
theorem zP (id : Nat) {t e : TypeId} {s x : Operand} {d sz : Nat} {zs : List Value} {rows rows2 : List (List PV)} {pn : Option Value} (he : elA P t = some (e,sz)) (hz : zeroA P e = some zs) (hb : P.bytesOf e ≤ 512)
    (h : (o.op,o.dst,Nat.blt d N,zs.length,Nat.blt 0 sz,ev τ s,H id) = (.call { callee := .builtin .append,args := #[s,x],argTypes := #[t,t] },some d,true,sz,true,.own id,.arr ⟨e,pn⟩ sz rows)) (hsrc : Src τ H x sz rows2) (hm : rows.length + rows2.length ≤ 274877906944 := by simp [rowsOf] at *;omega) :
    St P o N τ H [id] (upd (fun s => kil (one? id) (τ s)) d (.own id)) (upd (fun j => (H j).kil (one? id)) id (.arr e sz (rows ++ rows2))) := by
  simp only [Prod.mk.injEq] at h
  obtain ⟨h1,h2,h3,h4,h5,h6,h7⟩ := h
  exact St.app id h1 h2 (Nat.le_of_ble_eq_true h3) he hz h4 (Nat.le_of_ble_eq_true h5) h6 h7 hsrc (by unfold maxLen;omega) (Nat.le_trans (Nat.mul_le_mul_left _ hb) (by omega))
theorem zQ (id : Nat) (pl : List PV) {t : TypeId} {e : Pin} {x y : Operand} {i k sz : Nat} {rows : List (List PV)} {row : List PV} (hsz : P.cellsOf t = pl.length) (hi : (P.info? t).isSome = true)
    (h : (o.op,o.dst,ev τ x,H id,cellsA (ev τ y),Nat.ble (k + pl.length) sz) = (.store t x y,none,.ptr id i k,.arr e sz rows,some (pl.map AV.p),true)) (hrow : rows[i]? = some row) :
    St P o N τ H [id] τ (upd H id (.arr e sz (rows.set i (row.take k ++ pl ++ row.drop (k + pl.length))))) := by
  simp only [Prod.mk.injEq] at h
  obtain ⟨h1,h2,h3,h4,h5,h6⟩ := h
  exact St.storeArr id h1 h2 h3 h4 hrow h5 hsz hi (Nat.le_of_ble_eq_true h6)
variable {ops : Array Oper} {X : Nat → Bool} {t : Nat}
theorem rj (i1 : Nat) {T e : TypeId} {e' : Pin} {y y2 : Operand} {k0 : IntKind} {sz id : Nat} {n1 : Int} {rows : List (List PV)} (f0 : elA P T = some (e,sz)) (h : (o.op,ev τ y,H id,ev τ y2,n1,gv τ ops o,o.dst,Nat.blt t N) = (.indexAddr T y y2,.own id,.arr e' sz rows,.p (.v (.int k0 n1)),(i1 : Int),some true,some t,true)) (hi : i1 < rows.length) : Rdy (Rd P o τ H X (.ptr id i1 0)) N τ ops o t := by
  simp only [Prod.mk.injEq] at h
  obtain ⟨h1,h2,h3,h4,h5,h6,h7,h8⟩ := h
  exact ⟨rd_iaddr_own h1 f0 h2 h3 h4 h5 hi,h6,h7,Nat.le_of_ble_eq_true h8⟩
end
section
variable {P : Program} {L O : Nat → Prop} {w0 : World} {N : Nat} {τ τ' : Nat → AV} {H H' : Nat → AO} {Q : AQ} {ops : Array Oper} {o : Oper} {F : List Nat} {n f : Nat} {X : Nat → Bool} {listed : Array Bool}
theorem v1 (i : Nat) {E : List Nat} (h0 : (ops[i]?,gv τ ops o) = (some o,some true)) (hs : St P o N τ H E τ' H') (hF : F.contains i = true ∨ E = []) (h : AF P L O w0 N ops F n (listed.setIfInBounds i true) τ' H' Q) : AF1 P L O w0 N ops F n listed i τ H Q := by
  simp only [Prod.mk.injEq] at h0
  exact AF1.st h0.1 hs hF h0.2 h
theorem yl {E : List Nat} (h0 : (ops[f]?,gv τ ops o) = (some o,some true)) (hs : St P o N τ H E τ' H') (h : Q .normal τ' H') (hr : (Region.ready .any ops listed == [f] && Region.ready .any ops (listed.setIfInBounds f true) == []) = true := by kernel_rfl) : AG P L O w0 N ops f X (n + 1) listed τ H Q := by
  simp only [Prod.mk.injEq] at h0
  simp only [Bool.and_eq_true,beq_iff_eq] at hr
  exact AG.last h0.1 hr.1 hr.2 hs h0.2 h
variable {id : Nat} {l l2 : List Oper} {y : Code}
theorem nG {K : (Nat → AV) → (Nat → AO) → Prop} (h : K τ H) : AL P L O w0 N ops [] τ H (AQ.andThen K Q) := AL.nil h
theorem sL (h : AL P L O w0 N l2.toArray l2 τ H (Q.andThen fun τ H => AW P L O w0 N y τ H Q)) : AW P L O w0 N (.seq (.region id l2.toArray false) y) τ H Q := AW.seq (AW.list h)
theorem gA (h : AL P L O w0 N l2.toArray l2 τ H (Q.andThen fun τ H => AW P L O w0 N y τ H Q)) : AQ.andThen (fun τ H => AW P L O w0 N (.seq (.region id l2.toArray false) y) τ H Q) Q .normal τ H := sL (id := id) h
theorem nA (h : AL P L O w0 N l2.toArray l2 τ H (Q.andThen fun τ H => AW P L O w0 N y τ H Q)) : AL P L O w0 N ops [] τ H (AQ.andThen (fun τ H => AW P L O w0 N (.seq (.region id l2.toArray false) y) τ H Q) Q) := AL.nil (sL (id := id) h)
end
theorem ofK_zip {k : List Nat} {v : List AV} : ∀ {l : List (Nat × AV)},ofT (l ++ k.zip v) = ofK l (of2 .bad k v)
  | [] => of2_zip
  | (s,x) :: l => funext fun t => by simp only [List.cons_append,ofT,ofK,ofK_zip (l := l)]
theorem ofH_zip {k : List Nat} {v : List AO} : ∀ {l : List (Nat × AO)},ofO (l ++ k.zip v) = ofH l (of2 .gone k v)
  | [] => of2_zipO
  | (s,x) :: l => funext fun t => by simp only [List.cons_append,ofO,ofH,ofH_zip (l := l)]
section
variable {P : Program} {L O : Nat → Prop} {w0 : World} {N : Nat} {τ : Nat → AV} {H : Nat → AO} {Q : AQ}
theorem aW (ks os : List Nat) {v : List AV} {b : List AO} {D : Type} (T : D → List (Nat × AV)) (B : D → List (Nat × AO)) (I : D → Prop) (μ : D → Nat) {c : Code} (d : D) (h0 : I d) (h1 : allT (T d) τ) (h2 : allO (B d) H)
    (round : ∀ d,I d → AW P L O w0 N c (ofK (T d) (of2 .bad ks v)) (ofH (B d) (of2 .gone os b)) (Q.andThen fun τ' H' => ∃ d',I d' ∧ μ d' < μ d ∧ allT (T d') τ' ∧ allO (B d') H' ∧ at2 τ' ks = v ∧ at2 H' os = b)) (h3 : at2 τ ks = v := by exact nz) (h4 : at2 H os = b := by exact nz) : AW P L O w0 N (.loop c) τ H Q :=
  AW.loopE (ks.zip v) (os.zip b) T B I μ d h0 h1 h2 (allT_zip h3) (allO_zip h4) fun d hI => by
    rw [ofK_zip,ofH_zip]
    exact (round d hI).mono fun e τ' H' q => by
      cases e <;> first | exact q | (obtain ⟨d',q1,q2,q3,q4,q5,q6⟩ := q;exact ⟨d',q1,q2,q3,q4,allT_zip q5,allO_zip q6⟩)
theorem aJ (ks os : List Nat) {v : List AV} {b : List AO} {D : Type} (T : D → List (Nat × AV)) (B : D → List (Nat × AO)) (I : D → Prop) {x y : Code}
    (h : AW P L O w0 N x τ H (Q.andThen fun τ H => ∃ d,I d ∧ allT (T d) τ ∧ allO (B d) H ∧ at2 τ ks = v ∧ at2 H os = b)) (h2 : ∀ d,I d → AW P L O w0 N y (ofK (T d) (of2 .bad ks v)) (ofH (B d) (of2 .gone os b)) Q) (h3 : at2 τ ks = v := by exact nz) (h4 : at2 H os = b := by exact nz) : AW P L O w0 N (.seq x y) τ H Q :=
  AW.seqE (ks.zip v) (os.zip b) T B I (allT_zip h3) (allO_zip h4) (h.mono fun e τ' H' q => by
      cases e <;> first | exact q | (obtain ⟨d',q1,q3,q4,q5,q6⟩ := q;exact ⟨d',q1,q3,q4,allT_zip q5,allO_zip q6⟩)) fun d hI => by
    rw [ofK_zip,ofH_zip]
    exact h2 d hI
end
theorem eBo {τ : Nat → AV} {H : Nat → AO} {rs : List RVar} {b c : Bool} {ob1 : List (Nat × AO)} (h2 : allO ob1 H) (h : b = c) (h1 : retX τ H rs = some (boo b) := by rfl) : Ends rs (boo c) ob1 .ret τ H := ⟨by rw [h1,h],h2⟩
theorem lX {P : Program} {L O : Nat → Prop} {w0 : World} {N : Nat} {ops : Array Oper} {o : Oper} {os : List Oper} {τ : Nat → AV} {H : Nat → AO} {Q : AQ} (r : List (Nat × Nat)) (kl pl : List Nat) {y : Operand} {l : List Operand} {ts : Array TypeId} {f : FuncId} {fn : Func} {fs caps args : List AV} {ob0 : List (Nat × AO)} {R : AV → List (Nat × AO) → Prop} (hf : P.funcs[f]? = some fn) (hc : GX P f args ob0 R) (h0 : all0 r H ob0) (hp : ∀ x ob1,R x ob1 → pins ob0 ob1 pl)
    (h1 : (o.op,ev τ y,renL (sw r) (fs ++ l.map (ev τ) ++ caps)) = (.call { callee := .value y,args := l.toArray,argTypes := ts },.clo (.func f) fs caps,args))
    (h : ∀ x ob1,R x ob1 → AL P L O w0 N ops os (updo (fun t => kil (inK kl) (τ t)) o.dst (ren r x)) (callH r (inK kl) ob1 H) Q)
    (ht : ∀ s,o.dst = some s → s < N := by intro s hs;cases hs;decide) (hf1 : (fn.name == "runtime.NumGoroutine") = false := by rfl) (hf2 : fn.body.isNone = false := by rfl) (hr : nodupB (r.map Prod.fst) = true ∧ nodupB (r.map Prod.snd) = true ∧ okK r kl pl = true := by exact ⟨rfl,rfl,rfl⟩) (hg : gv τ ops o = some true := by rfl) : AL P L O w0 N ops (o :: os) τ H Q :=
  AL.stx (St.callX r kl pl (Prod.mk.inj h1).1 ht (Prod.mk.inj (Prod.mk.inj h1).2).1 hf hf1 hf2 hc hr h0 hp (Prod.mk.inj (Prod.mk.inj h1).2).2) hg (by rintro _ _ ⟨x,ob,hR,rfl,rfl⟩;exact h x ob hR)
abbrev Hm (o : Oper) (N : Nat) (τ : Nat → AV) (H : Nat → AO) (X : Nat → Bool) (ops : Array Oper) (t : Nat) (x : AV) (y : Operand) : Prop := (o.op,ev τ y,gv τ ops o,o.dst,Nat.blt t N) = (.move y,x,some true,some t,true)
abbrev Ha (o : Oper) (N : Nat) (τ : Nat → AV) (H : Nat → AO) (X : Nat → Bool) (ops : Array Oper) (t : Nat) (x : AV) (y : Operand) : Prop := (o.op,ev τ y,gv τ ops o,o.dst,Nat.blt t N) = (.assign y,x,some true,some t,true)
abbrev Hb (o : Oper) (N : Nat) (τ : Nat → AV) (H : Nat → AO) (X : Nat → Bool) (ops : Array Oper) (t : Nat) (x : AV) (op : BinOp) (T yT : TypeId) (y y2 : Operand) (A : IntKind) : Prop := (o.op,binv op (ev τ y) (ev τ y2),gv τ ops o,o.dst,Nat.blt t N) = (.binOp op T y y2 yT,some ((A = A),x),some true,some t,true)
abbrev Hk (o : Oper) (N : Nat) (τ : Nat → AV) (H : Nat → AO) (X : Nat → Bool) (ops : Array Oper) (t : Nat) (x : AV) (c y y2 : Operand) : Prop := (o.op,pickv (ev τ c) (ev τ y) (ev τ y2),gv τ ops o,o.dst,Nat.blt t N) = (.pick c y y2,some x,some true,some t,true)
abbrev Hu (o : Oper) (N : Nat) (τ : Nat → AV) (H : Nat → AO) (X : Nat → Bool) (ops : Array Oper) (t : Nat) (x : AV) (uop : UnOp) (T : TypeId) (y : Operand) : Prop := (o.op,unv uop (ev τ y),gv τ ops o,o.dst,Nat.blt t N) = (.unOp uop T y,some (True,x),some true,some t,true)
abbrev Hx (o : Oper) (N : Nat) (τ : Nat → AV) (H : Nat → AO) (X : Nat → Bool) (ops : Array Oper) (t : Nat) (x : AV) (y : Operand) (k : Nat) : Prop := (o.op,extv (ev τ y) k,gv τ ops o,o.dst,Nat.blt t N) = (.extract y k,some x,some true,some t,true)
abbrev Hn (o : Oper) (N : Nat) (τ : Nat → AV) (H : Nat → AO) (X : Nat → Bool) (ops : Array Oper) (t : Nat) (x : AV) (y : Operand) (T : TypeId) : Prop := (o.op,lenv H (ev τ y),gv τ ops o,o.dst,Nat.blt t N) = (.call { callee := .builtin .len,args := #[y],argTypes := #[T] },some x,some true,some t,true)
abbrev Ho (o : Oper) (N : Nat) (τ : Nat → AV) (H : Nat → AO) (X : Nat → Bool) (ops : Array Oper) (t : Nat) (x : AV) (y : Operand) (T T2 : TypeId) (n0 : Option Nat) (id k : Nat) (p : Option Value) (cells : List AV) : Prop := (o.op,ev τ y,H id,X id,ldA n0 (cells.drop k),gv τ ops o,o.dst,Nat.blt t N) = (.load T y,.ptr id 0 k,.box T2 p cells,false,some x,some true,some t,true)
abbrev Hr (o : Oper) (N : Nat) (τ : Nat → AV) (H : Nat → AO) (X : Nat → Bool) (ops : Array Oper) (t : Nat) (x : AV) (y : Operand) (T : TypeId) (n0 : Option Nat) (cellp : List PV) : Prop := (o.op,ev τ y,ldA n0 (cellp.map AV.p),gv τ ops o,o.dst,Nat.blt t N) = (.load T y,.rp cellp,some x,some true,some t,true)
abbrev Hh (o : Oper) (N : Nat) (τ : Nat → AV) (H : Nat → AO) (X : Nat → Bool) (ops : Array Oper) (t : Nat) (x : AV) (op : BinOp) (T yT : TypeId) (y y2 : Operand) (pre : Prop) : Prop := (o.op,binv op (ev τ y) (ev τ y2),gv τ ops o,o.dst,Nat.blt t N) = (.binOp op T y y2 yT,some (pre,x),some true,some t,true)
abbrev Hg (o : Oper) (N : Nat) (τ : Nat → AV) (H : Nat → AO) (X : Nat → Bool) (ops : Array Oper) (t : Nat) (x : AV) (op : BinOp) (T yT : TypeId) (y y2 : Operand) (A : IntKind) (n1 : Int) : Prop := (o.op,binv op (ev τ y) (ev τ y2),gv τ ops o,o.dst,Nat.blt t N) = (.binOp op T y y2 yT,some ((A = A ∧ Fits .i64 n1),x),some true,some t,true)
abbrev Hf (o : Oper) (N : Nat) (τ : Nat → AV) (H : Nat → AO) (X : Nat → Bool) (ops : Array Oper) (t : Nat) (x : AV) (k1 : Nat) (T k off ft : Nat) (y : Operand) (id i1 j : Nat) : Prop := (o.op,ev τ y,(H id).here,j + off,gv τ ops o,o.dst,Nat.blt t N) = (.fieldAddr T y k,.ptr id i1 j,true,k1,some true,some t,true)
abbrev Hc (o : Oper) (N : Nat) (τ : Nat → AV) (H : Nat → AO) (X : Nat → Bool) (ops : Array Oper) (t : Nat) (x : AV) (y : Operand) (id i1 k1 : Nat) : Prop := (o.op,ev τ y,(H id).here,gv τ ops o,o.dst,Nat.blt t N) = (.nilCheck y,.ptr id i1 k1,true,some true,some t,true)
abbrev Hi (o : Oper) (N : Nat) (τ : Nat → AV) (H : Nat → AO) (X : Nat → Bool) (ops : Array Oper) (t : Nat) (x : AV) (i1 : Nat) (T e e2 sz : Nat) (y y2 : Operand) (k0 : IntKind) (n1 : Int) (rows : List (List PV)) (row : List PV) : Prop := (o.op,ev τ y,ev τ y2,n1,gv τ ops o,o.dst,Nat.blt t N) = (.indexAddr T y y2,.p (.lst e2 sz rows),.p (.v (.int k0 n1)),(i1 : Int),some true,some t,true)
section
variable {P : Program} {o : Oper} {N : Nat} {τ : Nat → AV} {H : Nat → AO} {X : Nat → Bool} {ops : Array Oper} {y y2 c : Operand} {op : BinOp} {uop : UnOp} {T T2 yT e e2 ft : TypeId} {A k0 : IntKind} {n0 : Option Nat} {id k t off i1 j sz k1 : Nat} {p : Option Value} {cells : List AV} {cellp : List PV} {pre : Prop} {n1 : Int} {rows : List (List PV)} {row : List PV} {xi : Int} {xb : Bool} {xv : Value} {xo xp xq xt : Nat} {xl : List (List PV)} {xr : List PV}
theorem rmX (x : AV) (h : Hm o N τ H X ops t x y) : Rdy (Rd P o τ H X x) N τ ops o t := by
  have ⟨q0,h⟩ := Prod.mk.inj h
  have ⟨q1,h⟩ := Prod.mk.inj h
  have ⟨q2,h⟩ := Prod.mk.inj h
  have ⟨q3,q4⟩ := Prod.mk.inj h
  exact ⟨rd_mvx (.inl q0) q1,q2,q3,Nat.le_of_ble_eq_true q4⟩
theorem rmI (h : Hm o N τ H X ops t (vI k0 xi) y) : Rdy (Rd P o τ H X (vI k0 xi)) N τ ops o t := rmX (vI k0 xi) h
theorem rmB (h : Hm o N τ H X ops t (vB xb) y) : Rdy (Rd P o τ H X (vB xb)) N τ ops o t := rmX (vB xb) h
theorem rmT (h : Hm o N τ H X ops t (vB true) y) : Rdy (Rd P o τ H X (vB true)) N τ ops o t := rmX (vB true) h
theorem rmZ (h : Hm o N τ H X ops t (vB false) y) : Rdy (Rd P o τ H X (vB false)) N τ ops o t := rmX (vB false) h
theorem rmO (h : Hm o N τ H X ops t (.own xo) y) : Rdy (Rd P o τ H X (.own xo)) N τ ops o t := rmX (.own xo) h
theorem rmP (h : Hm o N τ H X ops t (.ptr xo xp xq) y) : Rdy (Rd P o τ H X (.ptr xo xp xq)) N τ ops o t := rmX (.ptr xo xp xq) h
theorem rmL (h : Hm o N τ H X ops t (vL xt xo xl) y) : Rdy (Rd P o τ H X (vL xt xo xl)) N τ ops o t := rmX (vL xt xo xl) h
theorem qmX (x : AV) (h : Hm o N τ H (fun _ => false) ops t x y) : Rdy (Pd P o τ H x) N τ ops o t := by
  have ⟨q0,h⟩ := Prod.mk.inj h
  have ⟨q1,h⟩ := Prod.mk.inj h
  have ⟨q2,h⟩ := Prod.mk.inj h
  have ⟨q3,q4⟩ := Prod.mk.inj h
  exact ⟨pd_mvx (.inl q0) q1,q2,q3,Nat.le_of_ble_eq_true q4⟩
theorem qmP (h : Hm o N τ H (fun _ => false) ops t (.ptr xo xp xq) y) : Rdy (Pd P o τ H (.ptr xo xp xq)) N τ ops o t := qmX (.ptr xo xp xq) h
theorem qmL (h : Hm o N τ H (fun _ => false) ops t (vL xt xo xl) y) : Rdy (Pd P o τ H (vL xt xo xl)) N τ ops o t := qmX (vL xt xo xl) h
theorem raX (x : AV) (h : Ha o N τ H X ops t x y) : Rdy (Rd P o τ H X x) N τ ops o t := by
  have ⟨q0,h⟩ := Prod.mk.inj h
  have ⟨q1,h⟩ := Prod.mk.inj h
  have ⟨q2,h⟩ := Prod.mk.inj h
  have ⟨q3,q4⟩ := Prod.mk.inj h
  exact ⟨rd_mvx (.inr q0) q1,q2,q3,Nat.le_of_ble_eq_true q4⟩
theorem raI (h : Ha o N τ H X ops t (vI k0 xi) y) : Rdy (Rd P o τ H X (vI k0 xi)) N τ ops o t := raX (vI k0 xi) h
theorem raB (h : Ha o N τ H X ops t (vB xb) y) : Rdy (Rd P o τ H X (vB xb)) N τ ops o t := raX (vB xb) h
theorem raT (h : Ha o N τ H X ops t (vB true) y) : Rdy (Rd P o τ H X (vB true)) N τ ops o t := raX (vB true) h
theorem raZ (h : Ha o N τ H X ops t (vB false) y) : Rdy (Rd P o τ H X (vB false)) N τ ops o t := raX (vB false) h
theorem raV (h : Ha o N τ H X ops t (vV xv) y) : Rdy (Rd P o τ H X (vV xv)) N τ ops o t := raX (vV xv) h
theorem raO (h : Ha o N τ H X ops t (.own xo) y) : Rdy (Rd P o τ H X (.own xo)) N τ ops o t := raX (.own xo) h
theorem raP (h : Ha o N τ H X ops t (.ptr xo xp xq) y) : Rdy (Rd P o τ H X (.ptr xo xp xq)) N τ ops o t := raX (.ptr xo xp xq) h
theorem raL (h : Ha o N τ H X ops t (vL xt xo xl) y) : Rdy (Rd P o τ H X (vL xt xo xl)) N τ ops o t := raX (vL xt xo xl) h
theorem rbB (h : Hb o N τ H X ops t (vB xb) op T yT y y2 A) : Rdy (Rd P o τ H X (vB xb)) N τ ops o t := by
  have ⟨q0,h⟩ := Prod.mk.inj h
  have ⟨q1,h⟩ := Prod.mk.inj h
  have ⟨q2,h⟩ := Prod.mk.inj h
  have ⟨q3,q4⟩ := Prod.mk.inj h
  exact ⟨rd_bin q0 q1 rfl,q2,q3,Nat.le_of_ble_eq_true q4⟩
theorem rkX (x : AV) (h : Hk o N τ H X ops t x c y y2) : Rdy (Rd P o τ H X x) N τ ops o t := by
  have ⟨q0,h⟩ := Prod.mk.inj h
  have ⟨q1,h⟩ := Prod.mk.inj h
  have ⟨q2,h⟩ := Prod.mk.inj h
  have ⟨q3,q4⟩ := Prod.mk.inj h
  exact ⟨rd_pick q0 q1,q2,q3,Nat.le_of_ble_eq_true q4⟩
theorem rkB (h : Hk o N τ H X ops t (vB xb) c y y2) : Rdy (Rd P o τ H X (vB xb)) N τ ops o t := rkX (vB xb) h
theorem rkT (h : Hk o N τ H X ops t (vB true) c y y2) : Rdy (Rd P o τ H X (vB true)) N τ ops o t := rkX (vB true) h
theorem rkZ (h : Hk o N τ H X ops t (vB false) c y y2) : Rdy (Rd P o τ H X (vB false)) N τ ops o t := rkX (vB false) h
theorem ruB (h : Hu o N τ H X ops t (vB xb) uop T y) : Rdy (Rd P o τ H X (vB xb)) N τ ops o t := by
  have ⟨q0,h⟩ := Prod.mk.inj h
  have ⟨q1,h⟩ := Prod.mk.inj h
  have ⟨q2,h⟩ := Prod.mk.inj h
  have ⟨q3,q4⟩ := Prod.mk.inj h
  exact ⟨rd_un q0 q1 trivial,q2,q3,Nat.le_of_ble_eq_true q4⟩
theorem ruT (h : Hu o N τ H X ops t (vB true) uop T y) : Rdy (Rd P o τ H X (vB true)) N τ ops o t := by
  have ⟨q0,h⟩ := Prod.mk.inj h
  have ⟨q1,h⟩ := Prod.mk.inj h
  have ⟨q2,h⟩ := Prod.mk.inj h
  have ⟨q3,q4⟩ := Prod.mk.inj h
  exact ⟨rd_un q0 q1 trivial,q2,q3,Nat.le_of_ble_eq_true q4⟩
theorem ruZ (h : Hu o N τ H X ops t (vB false) uop T y) : Rdy (Rd P o τ H X (vB false)) N τ ops o t := by
  have ⟨q0,h⟩ := Prod.mk.inj h
  have ⟨q1,h⟩ := Prod.mk.inj h
  have ⟨q2,h⟩ := Prod.mk.inj h
  have ⟨q3,q4⟩ := Prod.mk.inj h
  exact ⟨rd_un q0 q1 trivial,q2,q3,Nat.le_of_ble_eq_true q4⟩
theorem rxX (x : AV) (h : Hx o N τ H X ops t x y k) : Rdy (Rd P o τ H X x) N τ ops o t := by
  have ⟨q0,h⟩ := Prod.mk.inj h
  have ⟨q1,h⟩ := Prod.mk.inj h
  have ⟨q2,h⟩ := Prod.mk.inj h
  have ⟨q3,q4⟩ := Prod.mk.inj h
  exact ⟨rd_ext q0 q1,q2,q3,Nat.le_of_ble_eq_true q4⟩
theorem rxI (h : Hx o N τ H X ops t (vI k0 xi) y k) : Rdy (Rd P o τ H X (vI k0 xi)) N τ ops o t := rxX (vI k0 xi) h
theorem rxB (h : Hx o N τ H X ops t (vB xb) y k) : Rdy (Rd P o τ H X (vB xb)) N τ ops o t := rxX (vB xb) h
theorem rxO (h : Hx o N τ H X ops t (.own xo) y k) : Rdy (Rd P o τ H X (.own xo)) N τ ops o t := rxX (.own xo) h
theorem rnI (f0 : isSlice P T = true) (h : Hn o N τ H X ops t (vI k0 xi) y T) : Rdy (Rd P o τ H X (vI k0 xi)) N τ ops o t := by
  have ⟨q0,h⟩ := Prod.mk.inj h
  have ⟨q1,h⟩ := Prod.mk.inj h
  have ⟨q2,h⟩ := Prod.mk.inj h
  have ⟨q3,q4⟩ := Prod.mk.inj h
  exact ⟨rd_len q0 f0 q1,q2,q3,Nat.le_of_ble_eq_true q4⟩
theorem roX (x : AV) (f0 : kindA P T = some n0) (h : Ho o N τ H X ops t x y T T2 n0 id k p cells) : Rdy (Rd P o τ H X x) N τ ops o t := by
  have ⟨q0,h⟩ := Prod.mk.inj h
  have ⟨q1,h⟩ := Prod.mk.inj h
  have ⟨q2,h⟩ := Prod.mk.inj h
  have ⟨q3,h⟩ := Prod.mk.inj h
  have ⟨q4,h⟩ := Prod.mk.inj h
  have ⟨q5,h⟩ := Prod.mk.inj h
  have ⟨q6,q7⟩ := Prod.mk.inj h
  exact ⟨rd_load_box q0 f0 q1 q2 q3 q4,q5,q6,Nat.le_of_ble_eq_true q7⟩
theorem roI (f0 : kindA P T = some n0) (h : Ho o N τ H X ops t (vI k0 xi) y T T2 n0 id k p cells) : Rdy (Rd P o τ H X (vI k0 xi)) N τ ops o t := roX (vI k0 xi) f0 h
theorem roB (f0 : kindA P T = some n0) (h : Ho o N τ H X ops t (vB xb) y T T2 n0 id k p cells) : Rdy (Rd P o τ H X (vB xb)) N τ ops o t := roX (vB xb) f0 h
theorem roO (f0 : kindA P T = some n0) (h : Ho o N τ H X ops t (.own xo) y T T2 n0 id k p cells) : Rdy (Rd P o τ H X (.own xo)) N τ ops o t := roX (.own xo) f0 h
theorem roL (f0 : kindA P T = some n0) (h : Ho o N τ H X ops t (vL xt xo xl) y T T2 n0 id k p cells) : Rdy (Rd P o τ H X (vL xt xo xl)) N τ ops o t := roX (vL xt xo xl) f0 h
theorem rrX (x : AV) (f0 : kindA P T = some n0) (h : Hr o N τ H X ops t x y T n0 cellp) : Rdy (Rd P o τ H X x) N τ ops o t := by
  have ⟨q0,h⟩ := Prod.mk.inj h
  have ⟨q1,h⟩ := Prod.mk.inj h
  have ⟨q2,h⟩ := Prod.mk.inj h
  have ⟨q3,h⟩ := Prod.mk.inj h
  have ⟨q4,q5⟩ := Prod.mk.inj h
  exact ⟨rd_load_rp q0 f0 q1 q2,q3,q4,Nat.le_of_ble_eq_true q5⟩
theorem rrI (f0 : kindA P T = some n0) (h : Hr o N τ H X ops t (vI k0 xi) y T n0 cellp) : Rdy (Rd P o τ H X (vI k0 xi)) N τ ops o t := rrX (vI k0 xi) f0 h
theorem rrL (f0 : kindA P T = some n0) (h : Hr o N τ H X ops t (vL xt xo xl) y T n0 cellp) : Rdy (Rd P o τ H X (vL xt xo xl)) N τ ops o t := rrX (vL xt xo xl) f0 h
theorem rhX (x : AV) (h : Hh o N τ H X ops t x op T yT y y2 pre) (hp : pre) : Rdy (Rd P o τ H X x) N τ ops o t := by
  have ⟨q0,h⟩ := Prod.mk.inj h
  have ⟨q1,h⟩ := Prod.mk.inj h
  have ⟨q2,h⟩ := Prod.mk.inj h
  have ⟨q3,q4⟩ := Prod.mk.inj h
  exact ⟨rd_bin q0 q1 hp,q2,q3,Nat.le_of_ble_eq_true q4⟩
theorem rhI (h : Hh o N τ H X ops t (vI k0 xi) op T yT y y2 pre) (hp : pre) : Rdy (Rd P o τ H X (vI k0 xi)) N τ ops o t := rhX (vI k0 xi) h hp
theorem rgI (h : Hg o N τ H X ops t (vI k0 xi) op T yT y y2 A n1) (hp : i64 n1) : Rdy (Rd P o τ H X (vI k0 xi)) N τ ops o t := by
  have ⟨q0,h⟩ := Prod.mk.inj h
  have ⟨q1,h⟩ := Prod.mk.inj h
  have ⟨q2,h⟩ := Prod.mk.inj h
  have ⟨q3,q4⟩ := Prod.mk.inj h
  exact ⟨rd_bin q0 q1 ⟨rfl,fits_i64 hp⟩,q2,q3,Nat.le_of_ble_eq_true q4⟩
theorem rf (k1 : Nat) (f0 : FA P T k off ft) (h : Hf o N τ H X ops t (.ptr id i1 k1) k1 T k off ft y id i1 j) : Rdy (Rd P o τ H X (.ptr id i1 k1)) N τ ops o t := by
  have ⟨q0,h⟩ := Prod.mk.inj h
  have ⟨q1,h⟩ := Prod.mk.inj h
  have ⟨q2,h⟩ := Prod.mk.inj h
  have ⟨q3,h⟩ := Prod.mk.inj h
  have ⟨q4,h⟩ := Prod.mk.inj h
  have ⟨q5,q6⟩ := Prod.mk.inj h
  subst q3
  exact ⟨rd_faddr q0 f0.1 f0.2.1 f0.2.2 q1 q2,q4,q5,Nat.le_of_ble_eq_true q6⟩
theorem qf (k1 : Nat) (f0 : FA P T k off ft) (h : Hf o N τ H (fun _ => false) ops t (.ptr id i1 k1) k1 T k off ft y id i1 j) : Rdy (Pd P o τ H (.ptr id i1 k1)) N τ ops o t := by
  have ⟨q0,h⟩ := Prod.mk.inj h
  have ⟨q1,h⟩ := Prod.mk.inj h
  have ⟨q2,h⟩ := Prod.mk.inj h
  have ⟨q3,h⟩ := Prod.mk.inj h
  have ⟨q4,h⟩ := Prod.mk.inj h
  have ⟨q5,q6⟩ := Prod.mk.inj h
  subst q3
  exact ⟨pd_faddr q0 f0.1 f0.2.1 f0.2.2 q1 q2,q4,q5,Nat.le_of_ble_eq_true q6⟩
theorem rc (h : Hc o N τ H X ops t (.ptr id i1 k1) y id i1 k1) : Rdy (Rd P o τ H X (.ptr id i1 k1)) N τ ops o t := by
  have ⟨q0,h⟩ := Prod.mk.inj h
  have ⟨q1,h⟩ := Prod.mk.inj h
  have ⟨q2,h⟩ := Prod.mk.inj h
  have ⟨q3,h⟩ := Prod.mk.inj h
  have ⟨q4,q5⟩ := Prod.mk.inj h
  exact ⟨rd_nilc q0 q1 q2,q3,q4,Nat.le_of_ble_eq_true q5⟩
theorem qc (h : Hc o N τ H (fun _ => false) ops t (.ptr id i1 k1) y id i1 k1) : Rdy (Pd P o τ H (.ptr id i1 k1)) N τ ops o t := by
  have ⟨q0,h⟩ := Prod.mk.inj h
  have ⟨q1,h⟩ := Prod.mk.inj h
  have ⟨q2,h⟩ := Prod.mk.inj h
  have ⟨q3,h⟩ := Prod.mk.inj h
  have ⟨q4,q5⟩ := Prod.mk.inj h
  exact ⟨pd_nilc q0 q1 q2,q3,q4,Nat.le_of_ble_eq_true q5⟩
theorem ri (i1 : Nat) (f0 : elA P T = some (e,sz)) (h : Hi o N τ H X ops t (.rp row) i1 T e e2 sz y y2 k0 n1 rows row) (hr : rows[i1]? = some row) : Rdy (Rd P o τ H X (.rp row)) N τ ops o t := by
  have ⟨q0,h⟩ := Prod.mk.inj h
  have ⟨q1,h⟩ := Prod.mk.inj h
  have ⟨q2,h⟩ := Prod.mk.inj h
  have ⟨q3,h⟩ := Prod.mk.inj h
  have ⟨q4,h⟩ := Prod.mk.inj h
  have ⟨q5,q6⟩ := Prod.mk.inj h
  exact ⟨rd_iaddr_p q0 f0 q1 q2 q3 hr,q4,q5,Nat.le_of_ble_eq_true q6⟩
variable {L O : Nat → Prop} {w0 : World} {Q : AQ} {l : List Oper}
theorem lmI (h : Hm o N τ H (fun _ => false) ops t (vI k0 xi) y) (K : AL P L O w0 N ops l (upd τ t (vI k0 xi)) H Q) : AL P L O w0 N ops (o :: l) τ H Q := lq (rmI h) K
theorem lmB (h : Hm o N τ H (fun _ => false) ops t (vB xb) y) (K : AL P L O w0 N ops l (upd τ t (vB xb)) H Q) : AL P L O w0 N ops (o :: l) τ H Q := lq (rmB h) K
theorem lmT (h : Hm o N τ H (fun _ => false) ops t (vB true) y) (K : AL P L O w0 N ops l (upd τ t (vB true)) H Q) : AL P L O w0 N ops (o :: l) τ H Q := lq (rmT h) K
theorem lmZ (h : Hm o N τ H (fun _ => false) ops t (vB false) y) (K : AL P L O w0 N ops l (upd τ t (vB false)) H Q) : AL P L O w0 N ops (o :: l) τ H Q := lq (rmZ h) K
theorem lmO (h : Hm o N τ H (fun _ => false) ops t (.own xo) y) (K : AL P L O w0 N ops l (upd τ t (.own xo)) H Q) : AL P L O w0 N ops (o :: l) τ H Q := lq (rmO h) K
theorem lmP (h : Hm o N τ H (fun _ => false) ops t (.ptr xo xp xq) y) (K : AL P L O w0 N ops l (upd τ t (.ptr xo xp xq)) H Q) : AL P L O w0 N ops (o :: l) τ H Q := lq (rmP h) K
theorem lmL (h : Hm o N τ H (fun _ => false) ops t (vL xt xo xl) y) (K : AL P L O w0 N ops l (upd τ t (vL xt xo xl)) H Q) : AL P L O w0 N ops (o :: l) τ H Q := lq (rmL h) K
theorem lmX (x : AV) (h : Hm o N τ H (fun _ => false) ops t x y) (K : AL P L O w0 N ops l (upd τ t x) H Q) : AL P L O w0 N ops (o :: l) τ H Q := lq (rmX x h) K
theorem laI (h : Ha o N τ H (fun _ => false) ops t (vI k0 xi) y) (K : AL P L O w0 N ops l (upd τ t (vI k0 xi)) H Q) : AL P L O w0 N ops (o :: l) τ H Q := lq (raI h) K
theorem laB (h : Ha o N τ H (fun _ => false) ops t (vB xb) y) (K : AL P L O w0 N ops l (upd τ t (vB xb)) H Q) : AL P L O w0 N ops (o :: l) τ H Q := lq (raB h) K
theorem laT (h : Ha o N τ H (fun _ => false) ops t (vB true) y) (K : AL P L O w0 N ops l (upd τ t (vB true)) H Q) : AL P L O w0 N ops (o :: l) τ H Q := lq (raT h) K
theorem laZ (h : Ha o N τ H (fun _ => false) ops t (vB false) y) (K : AL P L O w0 N ops l (upd τ t (vB false)) H Q) : AL P L O w0 N ops (o :: l) τ H Q := lq (raZ h) K
theorem laV (h : Ha o N τ H (fun _ => false) ops t (vV xv) y) (K : AL P L O w0 N ops l (upd τ t (vV xv)) H Q) : AL P L O w0 N ops (o :: l) τ H Q := lq (raV h) K
theorem laO (h : Ha o N τ H (fun _ => false) ops t (.own xo) y) (K : AL P L O w0 N ops l (upd τ t (.own xo)) H Q) : AL P L O w0 N ops (o :: l) τ H Q := lq (raO h) K
theorem laP (h : Ha o N τ H (fun _ => false) ops t (.ptr xo xp xq) y) (K : AL P L O w0 N ops l (upd τ t (.ptr xo xp xq)) H Q) : AL P L O w0 N ops (o :: l) τ H Q := lq (raP h) K
theorem laL (h : Ha o N τ H (fun _ => false) ops t (vL xt xo xl) y) (K : AL P L O w0 N ops l (upd τ t (vL xt xo xl)) H Q) : AL P L O w0 N ops (o :: l) τ H Q := lq (raL h) K
theorem lbB (h : Hb o N τ H (fun _ => false) ops t (vB xb) op T yT y y2 A) (K : AL P L O w0 N ops l (upd τ t (vB xb)) H Q) : AL P L O w0 N ops (o :: l) τ H Q := lq (rbB h) K
theorem lkB (h : Hk o N τ H (fun _ => false) ops t (vB xb) c y y2) (K : AL P L O w0 N ops l (upd τ t (vB xb)) H Q) : AL P L O w0 N ops (o :: l) τ H Q := lq (rkB h) K
theorem lkT (h : Hk o N τ H (fun _ => false) ops t (vB true) c y y2) (K : AL P L O w0 N ops l (upd τ t (vB true)) H Q) : AL P L O w0 N ops (o :: l) τ H Q := lq (rkT h) K
theorem lkZ (h : Hk o N τ H (fun _ => false) ops t (vB false) c y y2) (K : AL P L O w0 N ops l (upd τ t (vB false)) H Q) : AL P L O w0 N ops (o :: l) τ H Q := lq (rkZ h) K
theorem luB (h : Hu o N τ H (fun _ => false) ops t (vB xb) uop T y) (K : AL P L O w0 N ops l (upd τ t (vB xb)) H Q) : AL P L O w0 N ops (o :: l) τ H Q := lq (ruB h) K
theorem luT (h : Hu o N τ H (fun _ => false) ops t (vB true) uop T y) (K : AL P L O w0 N ops l (upd τ t (vB true)) H Q) : AL P L O w0 N ops (o :: l) τ H Q := lq (ruT h) K
theorem luZ (h : Hu o N τ H (fun _ => false) ops t (vB false) uop T y) (K : AL P L O w0 N ops l (upd τ t (vB false)) H Q) : AL P L O w0 N ops (o :: l) τ H Q := lq (ruZ h) K
theorem lxI (h : Hx o N τ H (fun _ => false) ops t (vI k0 xi) y k) (K : AL P L O w0 N ops l (upd τ t (vI k0 xi)) H Q) : AL P L O w0 N ops (o :: l) τ H Q := lq (rxI h) K
theorem lxB (h : Hx o N τ H (fun _ => false) ops t (vB xb) y k) (K : AL P L O w0 N ops l (upd τ t (vB xb)) H Q) : AL P L O w0 N ops (o :: l) τ H Q := lq (rxB h) K
theorem lxO (h : Hx o N τ H (fun _ => false) ops t (.own xo) y k) (K : AL P L O w0 N ops l (upd τ t (.own xo)) H Q) : AL P L O w0 N ops (o :: l) τ H Q := lq (rxO h) K
theorem lxX (x : AV) (h : Hx o N τ H (fun _ => false) ops t x y k) (K : AL P L O w0 N ops l (upd τ t x) H Q) : AL P L O w0 N ops (o :: l) τ H Q := lq (rxX x h) K
theorem lnI (f0 : isSlice P T = true) (h : Hn o N τ H (fun _ => false) ops t (vI k0 xi) y T) (K : AL P L O w0 N ops l (upd τ t (vI k0 xi)) H Q) : AL P L O w0 N ops (o :: l) τ H Q := lq (rnI f0 h) K
theorem loI (f0 : kindA P T = some n0) (h : Ho o N τ H (fun _ => false) ops t (vI k0 xi) y T T2 n0 id k p cells) (K : AL P L O w0 N ops l (upd τ t (vI k0 xi)) H Q) : AL P L O w0 N ops (o :: l) τ H Q := lq (roI f0 h) K
theorem loB (f0 : kindA P T = some n0) (h : Ho o N τ H (fun _ => false) ops t (vB xb) y T T2 n0 id k p cells) (K : AL P L O w0 N ops l (upd τ t (vB xb)) H Q) : AL P L O w0 N ops (o :: l) τ H Q := lq (roB f0 h) K
theorem loO (f0 : kindA P T = some n0) (h : Ho o N τ H (fun _ => false) ops t (.own xo) y T T2 n0 id k p cells) (K : AL P L O w0 N ops l (upd τ t (.own xo)) H Q) : AL P L O w0 N ops (o :: l) τ H Q := lq (roO f0 h) K
theorem loL (f0 : kindA P T = some n0) (h : Ho o N τ H (fun _ => false) ops t (vL xt xo xl) y T T2 n0 id k p cells) (K : AL P L O w0 N ops l (upd τ t (vL xt xo xl)) H Q) : AL P L O w0 N ops (o :: l) τ H Q := lq (roL f0 h) K
theorem loX (x : AV) (f0 : kindA P T = some n0) (h : Ho o N τ H (fun _ => false) ops t x y T T2 n0 id k p cells) (K : AL P L O w0 N ops l (upd τ t x) H Q) : AL P L O w0 N ops (o :: l) τ H Q := lq (roX x f0 h) K
theorem lrI (f0 : kindA P T = some n0) (h : Hr o N τ H (fun _ => false) ops t (vI k0 xi) y T n0 cellp) (K : AL P L O w0 N ops l (upd τ t (vI k0 xi)) H Q) : AL P L O w0 N ops (o :: l) τ H Q := lq (rrI f0 h) K
theorem lrL (f0 : kindA P T = some n0) (h : Hr o N τ H (fun _ => false) ops t (vL xt xo xl) y T n0 cellp) (K : AL P L O w0 N ops l (upd τ t (vL xt xo xl)) H Q) : AL P L O w0 N ops (o :: l) τ H Q := lq (rrL f0 h) K
theorem lrX (x : AV) (f0 : kindA P T = some n0) (h : Hr o N τ H (fun _ => false) ops t x y T n0 cellp) (K : AL P L O w0 N ops l (upd τ t x) H Q) : AL P L O w0 N ops (o :: l) τ H Q := lq (rrX x f0 h) K
theorem lhI (h : Hh o N τ H (fun _ => false) ops t (vI k0 xi) op T yT y y2 pre) (hp : pre) (K : AL P L O w0 N ops l (upd τ t (vI k0 xi)) H Q) : AL P L O w0 N ops (o :: l) τ H Q := lq (rhI h hp) K
theorem lgI (h : Hg o N τ H (fun _ => false) ops t (vI k0 xi) op T yT y y2 A n1) (K : AL P L O w0 N ops l (upd τ t (vI k0 xi)) H Q) (hp : i64 n1 := by unfold i64;omega) : AL P L O w0 N ops (o :: l) τ H Q := lq (rgI h hp) K
theorem lf (k1 : Nat) (f0 : FA P T k off ft) (h : Hf o N τ H (fun _ => false) ops t (.ptr id i1 k1) k1 T k off ft y id i1 j) (K : AL P L O w0 N ops l (upd τ t (.ptr id i1 k1)) H Q) : AL P L O w0 N ops (o :: l) τ H Q := lq (rf k1 f0 h) K
theorem lc (h : Hc o N τ H (fun _ => false) ops t (.ptr id i1 k1) y id i1 k1) (K : AL P L O w0 N ops l (upd τ t (.ptr id i1 k1)) H Q) : AL P L O w0 N ops (o :: l) τ H Q := lq (rc h) K
theorem li (i1 : Nat) (f0 : elA P T = some (e,sz)) (h : Hi o N τ H (fun _ => false) ops t (.rp row) i1 T e e2 sz y y2 k0 n1 rows row) (hr : rows[i1]? = some row) (K : AL P L O w0 N ops l (upd τ t (.rp row)) H Q) : AL P L O w0 N ops (o :: l) τ H Q := lq (ri i1 f0 h hr) K
end

def rowO : AO → Bool
  | .arr _ _ _ => true
  | .gone => true
  | _ => false
def rowF (F : List AO) : Prop := ∀ o ∈ F,rowO o = true
def tl (h : Nat → AO) (F : List AO) : Nat → AO := fun i => bif Nat.blt i 1000000 then h i else (F[i - 1000000]?).getD .gone
def Tl (H : Nat → AO) (F : List AO) : Prop := (∀ i,H (1000000 + i) = (F[i]?).getD .gone) ∧ rowF F
theorem rowO.kil {k : Nat → Bool} {o : AO} (h : rowO o = true) : o.kil k = o := by cases o <;> first | rfl | cases h
theorem rowO.ren {r : List (Nat × Nat)} {o : AO} (h : rowO o = true) : o.ren r = o := by cases o <;> first | rfl | cases h
theorem rowO.frz {id : Nat} {y : PV} {o : AO} (h : rowO o = true) : o.frz id y = o := by cases o <;> first | rfl | cases h
theorem rowF.nil : rowF [] := fun _ h => by cases h
theorem rowF.at {F : List AO} (h : rowF F) (i : Nat) : rowO ((F[i]?).getD .gone) = true := by
  cases e : F[i]? with
  | none => rfl
  | some o => exact h o (List.mem_of_getElem? e)
theorem tl_lo {h : Nat → AO} {F : List AO} {i : Nat} (hi : i < 1000000) : tl h F i = h i := by
  unfold tl
  rw [show Nat.blt i 1000000 = true from Nat.ble_eq_true_of_le hi]
  rfl
theorem tl_hi {h : Nat → AO} {F : List AO} {i : Nat} : tl h F (1000000 + i) = (F[i]?).getD .gone := by
  unfold tl
  rw [show Nat.blt (1000000 + i) 1000000 = false from by
    cases e : Nat.blt (1000000 + i) 1000000 with
    | false => rfl
    | true => have : 1000000 + i < 1000000 := Nat.le_of_ble_eq_true e;omega]
  simp
theorem lo_or_hi (j : Nat) : j < 1000000 ∨ ∃ i,j = 1000000 + i := by
  rcases Nat.lt_or_ge j 1000000 with h | h
  · exact .inl h
  · exact .inr ⟨j - 1000000,by omega⟩
theorem Tl.tl {h : Nat → AO} {F : List AO} (hF : rowF F) : Tl (tl h F) F := ⟨fun _ => tl_hi,hF⟩
theorem Tl.upd {H : Nat → AO} {F : List AO} {i : Nat} {o : AO} (hi : Nat.blt i 1000000 = true) (h : Tl H F) : Tl (upd H i o) F := ⟨fun j => by
  have : i < 1000000 := Nat.le_of_ble_eq_true hi
  rw [upd_ne _ _ (by omega)];exact h.1 j,h.2⟩
theorem Tl.kil {H : Nat → AO} {F : List AO} {k : Nat → Bool} (h : Tl H F) : Tl (fun j => (H j).kil k) F := ⟨fun j => by
  show (H (1000000 + j)).kil k = _
  rw [h.1 j];exact rowO.kil (rowF.at h.2 j),h.2⟩
theorem Tl.frz {H : Nat → AO} {F : List AO} {id : Nat} {y : PV} (hi : Nat.blt id 1000000 = true) (h : Tl H F) : Tl (frzH id y H) F := Tl.upd hi ⟨fun j => by
  show (H (1000000 + j)).frz id y = _
  rw [h.1 j];exact rowO.frz (rowF.at h.2 j),h.2⟩
theorem Tl.swap {H : Nat → AO} {F : List AO} {a b : Nat} (hi : (Nat.blt a 1000000 && Nat.blt b 1000000) = true) (h : Tl H F) : Tl (fun j => (H (swp a b j)).per a b) F := ⟨fun j => by
  rw [Bool.and_eq_true] at hi
  have h1 : a < 1000000 := Nat.le_of_ble_eq_true hi.1
  have h2 : b < 1000000 := Nat.le_of_ble_eq_true hi.2
  have e : swp a b (1000000 + j) = 1000000 + j := by unfold swp;rw [if_neg (by omega),if_neg (by omega)]
  show (H (swp a b (1000000 + j))).per a b = _
  rw [e,h.1 j]
  have := rowF.at h.2 j
  cases hq : (F[j]?).getD .gone with
  | box T p cells => rw [hq] at this;cases this
  | _ => rfl,h.2⟩
theorem Tl.eq {H : Nat → AO} {F : List AO} (h : Tl H F) : H = Proofs.YtogkbcmfoalpiaaGreat.tl H F := funext fun j => by
  rcases lo_or_hi j with q | ⟨i,rfl⟩
  · rw [tl_lo q]
  · rw [tl_hi];exact h.1 i
theorem rn_none {r : List (Nat × Nat)} {i : Nat} (h : ∀ p ∈ r,p.1 ≠ i) : rn r i = none := by
  induction r with
  | nil => rfl
  | cons p r ih =>
    obtain ⟨a,b⟩ := p
    unfold rn
    rw [if_neg (fun q => h (a,b) (by simp) q.symm)]
    exact ih (fun p hp => h p (by simp [hp]))
def smallR (r : List (Nat × Nat)) : Bool := r.all fun p => Nat.blt p.1 1000000 && Nat.blt p.2 1000000
theorem smallR.at {r : List (Nat × Nat)} (h : smallR r = true) : ∀ p ∈ r,p.1 < 1000000 ∧ p.2 < 1000000 := fun p hp => by
  have := List.all_eq_true.1 h p hp
  rw [Bool.and_eq_true] at this
  exact ⟨Nat.le_of_ble_eq_true this.1,Nat.le_of_ble_eq_true this.2⟩
theorem smallR.hi {r : List (Nat × Nat)} (h : smallR r = true) (i : Nat) : rn (sw r) (1000000 + i) = none := rn_none fun p hp => by
  unfold sw at hp
  obtain ⟨q,hq,rfl⟩ := List.mem_map.1 hp
  have := (smallR.at h q hq).2
  show q.2 ≠ _
  omega
theorem smallR.hi' {r : List (Nat × Nat)} (h : smallR r = true) (i : Nat) : rn r (1000000 + i) = none := rn_none fun p hp => by
  have := (smallR.at h p hp).1
  omega
theorem Tl.call {H : Nat → AO} {F : List AO} {r : List (Nat × Nat)} {k : Nat → Bool} {ob1 : List (Nat × AO)} (hr : smallR r = true) (h : Tl H F) : Tl (callH r k ob1 H) F := ⟨fun j => by
  unfold callH
  rw [smallR.hi hr j]
  show (H (1000000 + j)).kil k = _
  rw [h.1 j];exact rowO.kil (rowF.at h.2 j),h.2⟩
def famL (n : Nat) : List AO → List (Nat × AO)
  | [] => []
  | o :: l => (n,o) :: famL (n + 1) l
theorem famL_at : ∀ (F : List AO) (n i : Nat),ofO (famL n F) i = if n ≤ i then (F[i - n]?).getD .gone else .gone
  | [],n,i => by simp [famL,ofO]
  | o :: F,n,i => by
    show (if i = n then o else ofO (famL (n + 1) F) i) = _
    rw [famL_at F]
    by_cases e : i = n
    · subst e;simp
    · rw [if_neg e]
      by_cases h : n ≤ i
      · rw [if_pos (by omega),if_pos h,show i - n = (i - (n + 1)) + 1 by omega]
        simp
      · rw [if_neg (by omega),if_neg h]
def smallO (l : List (Nat × AO)) : Bool := l.all fun p => Nat.blt p.1 1000000
theorem ofO_hi : ∀ {l : List (Nat × AO)} {m : List (Nat × AO)} {i : Nat},smallO l = true → ofO (l ++ m) (1000000 + i) = ofO m (1000000 + i)
  | [],m,i,_ => rfl
  | (a,o) :: l,m,i,h => by
    have h1 := List.all_eq_true.1 h (a,o) (by simp)
    have h2 : a < 1000000 := Nat.le_of_ble_eq_true h1
    show (if 1000000 + i = a then o else ofO (l ++ m) (1000000 + i)) = _
    rw [if_neg (by omega)]
    exact ofO_hi (by unfold smallO at *;rw [List.all_cons,Bool.and_eq_true] at h;exact h.2)
theorem ofO_lo : ∀ {l : List (Nat × AO)} {F : List AO} {i : Nat},i < 1000000 → ofO (l ++ famL 1000000 F) i = ofO l i
  | [],F,i,h => by
    show ofO (famL 1000000 F) i = _
    rw [famL_at,if_neg (by omega)]
    rfl
  | (a,o) :: l,F,i,h => by
    show (if i = a then o else ofO (l ++ famL 1000000 F) i) = if i = a then o else ofO l i
    rw [ofO_lo h]
theorem ofO_fam {l : List (Nat × AO)} {F : List AO} (h : smallO l = true) : ofO (l ++ famL 1000000 F) = tl (ofO l) F := funext fun j => by
  rcases lo_or_hi j with q | ⟨i,rfl⟩
  · rw [tl_lo q,ofO_lo q]
  · rw [tl_hi,ofO_hi h,famL_at,if_pos (by omega)]
    simp
theorem allO_app : ∀ {l m : List (Nat × AO)} {H : Nat → AO},allO l H → allO m H → allO (l ++ m) H
  | [],m,H,_,h => h
  | (a,o) :: l,m,H,h1,h => ⟨h1.1,allO_app h1.2 h⟩
theorem allO_fam : ∀ {F : List AO} {n : Nat} {H : Nat → AO},(∀ i,i < F.length → H (n + i) = (F[i]?).getD .gone) → allO (famL n F) H
  | [],n,H,_ => trivial
  | o :: F,n,H,h => ⟨by have := h 0 (by simp);simpa using this,allO_fam fun i hi => by
    have := h (i + 1) (by simp;omega)
    rw [show n + 1 + i = n + (i + 1) by omega];simpa using this⟩
theorem Tl.all {H : Nat → AO} {F : List AO} (h : Tl H F) : allO (famL 1000000 F) H := allO_fam fun i _ => h.1 i
theorem Tl.list {l : List (Nat × AO)} (h : smallO l = true) : Tl (ofO l) [] := ⟨fun i => by have := ofO_hi (m := []) (i := i) h;rw [List.append_nil] at this;rw [this];rfl,rowF.nil⟩
section
variable {P : Program} {L O : Nat → Prop} {w0 : World} {N : Nat} {τ τ' : Nat → AV} {H H' : Nat → AO} {Q : AQ} {c : Code} {ops : Array Oper} {l : List Oper} {F : List AO}
theorem tl_weak {h : Nat → AO} (hT : Tl H F) (hh : ∀ id,h id = .gone ∨ h id = H id) : ∀ id,tl h F id = .gone ∨ tl h F id = H id := fun id => by
  rcases lo_or_hi id with q | ⟨i,rfl⟩
  · rw [tl_lo q];exact hh id
  · rw [tl_hi];exact .inr (hT.1 i).symm
theorem aTt (F : List AO) (k i : List Nat) {v : List AV} {b : List AO} (h : AW P L O w0 N c (of2 .bad k v) (tl (of2 .gone i b) F) Q) (h1 : at2 τ k = v := by exact nz) (h2 : at2 H i = b := by exact nz) (hT : Tl H F := by repeat (first | exact Tl.list rfl | exact Tl.tl (by first | assumption | exact rowF.nil) | refine Tl.frz rfl ?_ | refine Tl.upd rfl ?_ | refine Tl.kil ?_ | refine Tl.call rfl ?_ | refine Tl.swap rfl ?_)) : AW P L O w0 N c τ H Q := AW.weak (at2.weak h1) (tl_weak hT (at2.weak h2)) h
theorem lTt (F : List AO) (k i : List Nat) {v : List AV} {b : List AO} (h : AL P L O w0 N ops l (of2 .bad k v) (tl (of2 .gone i b) F) Q) (h1 : at2 τ k = v := by exact nz) (h2 : at2 H i = b := by exact nz) (hT : Tl H F := by repeat (first | exact Tl.list rfl | exact Tl.tl (by first | assumption | exact rowF.nil) | refine Tl.frz rfl ?_ | refine Tl.upd rfl ?_ | refine Tl.kil ?_ | refine Tl.call rfl ?_ | refine Tl.swap rfl ?_)) : AL P L O w0 N ops l τ H Q := AL.weak (at2.weak h1) (tl_weak hT (at2.weak h2)) h
theorem AW.loopT {D : Type} (K : List (Nat × AV)) (KO : List (Nat × AO)) (T : D → List (Nat × AV)) (B : D → List (Nat × AO)) (F : D → List AO) (I : D → Prop) (μ : D → Nat) (d : D) (h0 : I d) (h1 : allT (T d) τ) (h2 : allO (B d) H) (h3 : allT K τ) (h4 : allO KO H) (h5 : Tl H (F d))
    (round : ∀ d,I d → AW P L O w0 N c (ofT (T d ++ K)) (tl (ofO (B d ++ KO)) (F d)) (Q.andThen fun τ H => ∃ d',I d' ∧ μ d' < μ d ∧ allT (T d') τ ∧ allO (B d') H ∧ allT K τ ∧ allO KO H ∧ Tl H (F d'))) : AW P L O w0 N (.loop c) τ H Q := fun ρ fp a w hr => by
  obtain ⟨fp',hr',_⟩ := hr.weak (allT.app h1 h3).weak (tl_weak h5 (allO.app h2 h4).weak)
  have key : ∀ n (d : D),μ d = n → I d → ∀ ρ fp a w,RR L O w0 N (ofT (T d ++ K)) (tl (ofO (B d ++ KO)) (F d)) ρ fp a w → ∀ b k cs,∃ e a' w',QQ L O w0 N Q e a' w' ∧ Arrives P (lone (b.at a (.code c :: .inLoop c :: k)) cs w) b k cs e a' w' := by
    intro n
    induction n using Nat.strongRecOn with
    | _ n ih =>
      intro d hn hI ρ fp a w hr b k cs
      obtain ⟨e,a₁,w₁,hq,harr⟩ := round d hI ρ fp a w hr b (.inLoop c :: k) cs
      obtain ⟨τ₁,H₁,ρ₁,fp₁,hr₁,hq⟩ := hq
      cases e with
      | normal =>
        obtain ⟨d',i1,i2,i3,i4,i5,i6,i7⟩ := hq
        obtain ⟨fp₂,hr₂,_⟩ := hr₁.weak (allT.app i3 i5).weak (tl_weak i7 (allO.app i4 i6).weak)
        obtain ⟨e₂,a₂,w₂,hq₂,harr₂⟩ := ih (μ d') (hn ▸ i2) d' rfl i1 ρ₁ fp₂ a₁ w₁ hr₂ b k cs
        exact ⟨e₂,a₂,w₂,hq₂,.of_steps (Steps.trans harr (.one step_inLoop)) harr₂⟩
      | exit id => exact ⟨_,a₁,w₁,⟨τ₁,H₁,ρ₁,fp₁,hr₁,hq⟩,.pass (x := .inLoop c) rfl (fun _ _ => .inl (by simp)) harr⟩
      | goto l => exact ⟨_,a₁,w₁,⟨τ₁,H₁,ρ₁,fp₁,hr₁,hq⟩,.pass (x := .inLoop c) rfl (fun _ _ => .inl (by simp)) harr⟩
      | ret => exact ⟨_,a₁,w₁,⟨τ₁,H₁,ρ₁,fp₁,hr₁,hq⟩,.pass (x := .inLoop c) rfl (fun _ _ => .inl (by simp)) harr⟩
      | panic ch => exact ⟨_,a₁,w₁,⟨τ₁,H₁,ρ₁,fp₁,hr₁,hq⟩,.pass (x := .inLoop c) rfl (fun _ _ => .inl (by simp)) harr⟩
      | outgrown => exact ⟨_,a₁,w₁,⟨τ₁,H₁,ρ₁,fp₁,hr₁,hq⟩,.pass (x := .inLoop c) rfl (fun _ _ => .inl (by simp)) harr⟩
  intro b k cs
  obtain ⟨e,a',w',hq,harr⟩ := key (μ d) d rfl h0 ρ fp' a w hr' b k cs
  exact ⟨e,a',w',hq,.of_steps (.one step_loop) harr⟩
theorem RR.rename {ρ : Nat → Value} {fp : Nat → List Nat} {a : Act} {w : World} (h : RR L O w0 N τ H ρ fp a w) {i j : Nat} (hij : i ≠ j) (hj : H j = .gone) (hi : rowO (H i) = true) (k : Nat → Bool) (hk : k j = true) :
    RR L O w0 N (fun t => kil k (τ t)) (upd (upd (fun x => (H x).kil k) i .gone) j (H i)) (upd ρ j (ρ i)) (upd (upd fp i []) j (fp i)) a w := by
  have hfj : fp j = [] := by have := h.ob j;rw [hj] at this;exact this
  have e1 : ∀ x,x ≠ i → x ≠ j → upd (upd (fun x => (H x).kil k) i .gone) j (H i) x = (H x).kil k := fun x q1 q2 => by rw [upd_ne _ _ q2,upd_ne _ _ q1]
  have ei : upd (upd (fun x => (H x).kil k) i .gone) j (H i) i = .gone := by rw [upd_ne _ _ hij,upd_same]
  have ej : upd (upd (fun x => (H x).kil k) i .gone) j (H i) j = H i := upd_same _ _ _
  generalize hH' : upd (upd (fun x => (H x).kil k) i .gone) j (H i) = H' at *
  have hlive : ∀ b,live L (upd ρ j (ρ i)) H' b → live L ρ H b := by
    rintro b (hl | ⟨x,q1,q2⟩)
    · exact .inl hl
    · by_cases xj : x = j
      · subst xj;rw [ej] at q1;rw [upd_same] at q2;exact .inr ⟨i,q1,q2⟩
      · rw [upd_ne _ _ xj] at q2
        by_cases xi : x = i
        · subst xi;rw [ei] at q1;cases q1
        · rw [e1 x xi xj,AO.kil_here] at q1;exact .inr ⟨x,q1,q2⟩
  have E : Env L ρ (upd ρ j (ρ i)) H H' w w k := ⟨Nat.le_refl _,fun b _ hn => ⟨rfl,fun hl => hn (hlive b hl)⟩,fun x hx hh => by
    have xj : x ≠ j := fun q => by subst q;rw [hk] at hx;cases hx
    by_cases xi : x = i
    · subst xi;rw [ei] at hh;cases hh
    · rw [e1 x xi xj] at hh ⊢
      rw [AO.kil_here] at hh
      exact ⟨hh,upd_ne _ _ xj,AO.kil_len _ _,AO.kil_sz _ _⟩⟩
  refine ⟨h.chg,h.size,h.defers,fun t => RV.env E _ (h.tm t),fun x => ?_,fun x y hxy b hb hb' => ?_,fun x b hb => ?_,h.lo⟩
  · by_cases xj : x = j
    · subst xj
      rw [ej,upd_same,upd_same]
      have := (h.ob i).env E (fun b _ => rfl)
      rwa [rowO.kil hi] at this
    · rw [upd_ne _ _ xj,upd_ne _ _ xj]
      by_cases xi : x = i
      · subst xi;rw [ei,upd_same];rfl
      · rw [e1 x xi xj,upd_ne _ _ xi]
        exact (h.ob x).env E (fun b _ => rfl)
  · have f : ∀ x,x ≠ j → x ≠ i → upd (upd fp i []) j (fp i) x = fp x := fun x q1 q2 => by rw [upd_ne _ _ q1,upd_ne _ _ q2]
    have fj : upd (upd fp i []) j (fp i) j = fp i := upd_same _ _ _
    have fi : upd (upd fp i []) j (fp i) i = [] := by rw [upd_ne _ _ hij,upd_same]
    by_cases xi : x = i
    · subst xi;rw [fi] at hb;cases hb
    by_cases yi : y = i
    · subst yi;rw [fi] at hb';cases hb'
    by_cases xj : x = j
    · subst xj
      rw [fj] at hb;rw [f y (Ne.symm hxy) yi] at hb'
      exact h.dj i y (Ne.symm yi) b hb hb'
    · rw [f x xj xi] at hb
      by_cases yj : y = j
      · subst yj;rw [fj] at hb';exact h.dj x i xi b hb hb'
      · rw [f y yj yi] at hb';exact h.dj x y hxy b hb hb'
  · by_cases xj : x = j
    · subst xj;rw [upd_same] at hb;exact h.own i b hb
    · rw [upd_ne _ _ xj] at hb
      by_cases xi : x = i
      · subst xi;rw [upd_same] at hb;cases hb
      · rw [upd_ne _ _ xi] at hb;exact h.own x b hb
end

mutual
def lowA : AV → Bool
  | .own id => Nat.blt id 1000000
  | .sub id _ _ => Nat.blt id 1000000
  | .ptr id _ _ => Nat.blt id 1000000
  | .agg cs => lowL cs
  | .tup cs => lowL cs
  | .clo _ f cs => lowL f && lowL cs
  | _ => true
def lowL : List AV → Bool
  | [] => true
  | x :: xs => lowA x && lowL xs
end
def lowO : AO → Bool
  | .box _ _ cells => lowL cells
  | _ => true
def lowEq {α : Type} (k k' : Nat → α) : Prop := ∀ i,i < 1000000 → k i = k' i
mutual
theorem kil_low {k k' : Nat → Bool} (h : lowEq k k') : ∀ x,lowA x = true → kil k x = kil k' x
  | .own id,q => by rw [kil,kil,h id (Nat.le_of_ble_eq_true q)]
  | .sub id off len,q => by rw [kil,kil,h id (Nat.le_of_ble_eq_true q)]
  | .ptr id r c,q => by rw [kil,kil,h id (Nat.le_of_ble_eq_true q)]
  | .agg cs,q => by rw [kil,kil,kilL_low h cs q]
  | .tup cs,q => by rw [kil,kil,kilL_low h cs q]
  | .clo fn f cs,q => by
    have q' : lowL f = true ∧ lowL cs = true := by rw [← Bool.and_eq_true];exact q
    rw [kil,kil,kilL_low h f q'.1,kilL_low h cs q'.2]
  | .p _,_ => by simp [kil]
  | .rp _,_ => by simp [kil]
  | .dead,_ => by simp [kil]
  | .bad,_ => by simp [kil]
theorem kilL_low {k k' : Nat → Bool} (h : lowEq k k') : ∀ l,lowL l = true → kilL k l = kilL k' l
  | [],_ => rfl
  | x :: xs,q => by
    have q' : lowA x = true ∧ lowL xs = true := by rw [← Bool.and_eq_true];exact q
    rw [kilL,kilL,kil_low h x q'.1,kilL_low h xs q'.2]
end
theorem lowO.kil {k k' : Nat → Bool} (h : lowEq k k') {o : AO} (q : lowO o = true) : o.kil k = o.kil k' := by
  cases o with
  | box T p cells => show AO.box T p _ = AO.box T p _;rw [kilL_low h cells q]
  | _ => rfl
mutual
theorem ren_low {r r' : List (Nat × Nat)} (h : lowEq (rn r) (rn r')) : ∀ x,lowA x = true → ren r x = ren r' x
  | .own id,q => by rw [ren,ren,h id (Nat.le_of_ble_eq_true q)]
  | .sub id off len,q => by rw [ren,ren,h id (Nat.le_of_ble_eq_true q)]
  | .ptr id i c,q => by rw [ren,ren,h id (Nat.le_of_ble_eq_true q)]
  | .agg cs,q => by rw [ren,ren,renL_low h cs q]
  | .tup cs,q => by rw [ren,ren,renL_low h cs q]
  | .clo fn f cs,q => by
    have q' : lowL f = true ∧ lowL cs = true := by rw [← Bool.and_eq_true];exact q
    rw [ren,ren,renL_low h f q'.1,renL_low h cs q'.2]
  | .p _,_ => by simp [ren]
  | .rp _,_ => by simp [ren]
  | .dead,_ => by simp [ren]
  | .bad,_ => by simp [ren]
theorem renL_low {r r' : List (Nat × Nat)} (h : lowEq (rn r) (rn r')) : ∀ l,lowL l = true → renL r l = renL r' l
  | [],_ => rfl
  | x :: xs,q => by
    have q' : lowA x = true ∧ lowL xs = true := by rw [← Bool.and_eq_true];exact q
    rw [renL,renL,ren_low h x q'.1,renL_low h xs q'.2]
end
theorem lowO.ren {r r' : List (Nat × Nat)} (h : lowEq (rn r) (rn r')) {o : AO} (q : lowO o = true) : o.ren r = o.ren r' := by
  cases o with
  | box T p cells => show AO.box T p _ = AO.box T p _;rw [renL_low h cells q]
  | _ => rfl
section
variable {P : Program} {L O : Nat → Prop} {w0 : World} {N : Nat} {τ τ' : Nat → AV} {H H' : Nat → AO} {Q : AQ} {c : Code} {F : List AO}
theorem RR.plain {ρ : Nat → Value} {fp : Nat → List Nat} {a : Act} {w : World} (h : RR L O w0 N τ H ρ fp a w) (id : Nat) {e : TypeId} {u : Value} {sz : Nat} {rows : List (List PV)} (hH : H id = .arr ⟨e,some u⟩ sz rows) :
    RR L O w0 N (fun t => frz id (.v u) (τ t)) (fun j => (H j).frz id (.v u)) ρ fp a w := by
  have hob := h.ob id
  rw [hH] at hob
  obtain ⟨xs,fr,b1,b2,b3,b4,b5⟩ := hob
  have hu : ρ id = u := b5 u rfl
  have h1 : (ρ id).oneCell' = true := by rcases b3.2 with ⟨q,_⟩ | ⟨g,cap,cur,q,_⟩ <;> rw [q] <;> rfl
  have hlive : ∀ b,live L ρ (fun j => (H j).frz id (.v u)) b → live L ρ H b := by
    rintro b (hl | ⟨j,q1,q2⟩)
    · exact .inl hl
    · exact .inr ⟨j,by rw [AO.frz_here] at q1;exact q1,q2⟩
  have R : Frz id (.v u) L ρ H (fun j => (H j).frz id (.v u)) w := ⟨fun b hn hl => hn (hlive b hl),fun j _ hh => by
    rw [AO.frz_here] at hh;exact ⟨hh,AO.frz_len _ _ _,AO.frz_sz _ _ _⟩,by rw [hH];rfl,by rw [hu] at h1 ⊢;exact RV.v_mk h1⟩
  refine ⟨h.chg,h.size,h.defers,fun t => RV.frz R _ (h.tm t),fun j => ?_,h.dj,h.own,h.lo⟩
  have := h.ob j
  show OB _ _ _ _ _ _ ((H j).frz id (.v u))
  cases hj : H j with
  | box T p cells =>
    rw [hj] at this
    obtain ⟨ys,h1,h2,h3,h4,h5⟩ := this
    exact ⟨ys,RVL.frz R cells h1,frzL_cell _ _ cells h2,by rw [frzL_length];exact h3,h4,h5⟩
  | arr e' s' r' =>
    rw [hj] at this
    obtain ⟨ys,fr',h1,h2,h3,h4⟩ := this
    exact ⟨ys,fr',h1,fun b hb => R.live b (h2 b hb),h3,h4⟩
  | gone => rw [hj] at this;exact this
theorem of2_low {k : List Nat} {v : List AV} (h : lowL v = true) : ∀ t,lowA (of2 .bad k v t) = true := by
  induction k generalizing v with
  | nil => intro t;rfl
  | cons s k ih =>
    cases v with
    | nil => intro t;rfl
    | cons x v =>
      intro t
      have q' : lowA x = true ∧ lowL v = true := by rw [← Bool.and_eq_true];exact h
      show lowA (if t = s then x else of2 .bad k v t) = true
      split
      · exact q'.1
      · exact ih q'.2 t
theorem of2_lowO {k : List Nat} {v : List AO} (h : v.all lowO = true) : ∀ t,lowO (of2 .gone k v t) = true := by
  induction k generalizing v with
  | nil => intro t;rfl
  | cons s k ih =>
    cases v with
    | nil => intro t;rfl
    | cons x v =>
      intro t
      rw [List.all_cons,Bool.and_eq_true] at h
      show lowO (if t = s then x else of2 .gone k v t) = true
      split
      · exact h.1
      · exact ih h.2 t
mutual
theorem frz_low (id : Nat) (y : PV) : ∀ x,lowA x = true → lowA (frz id y x) = true
  | .own j,q => by rw [frz];split <;> first | rfl | exact q
  | .sub j _ _,q => by rw [frz];split <;> first | rfl | exact q
  | .ptr j _ _,q => by rw [frz];split <;> first | rfl | exact q
  | .agg cs,q => by rw [frz];exact frzL_low id y cs q
  | .tup cs,q => by rw [frz];exact frzL_low id y cs q
  | .clo fn f cs,q => by
    have q' : lowL f = true ∧ lowL cs = true := by rw [← Bool.and_eq_true];exact q
    rw [frz]
    show (lowL _ && lowL _) = true
    rw [frzL_low id y f q'.1,frzL_low id y cs q'.2];rfl
  | .p _,_ => by simp [frz,lowA]
  | .rp _,_ => by simp [frz,lowA]
  | .dead,_ => by simp [frz,lowA]
  | .bad,_ => by simp [frz,lowA]
theorem frzL_low (id : Nat) (y : PV) : ∀ l,lowL l = true → lowL (frzL id y l) = true
  | [],_ => rfl
  | x :: xs,q => by
    have q' : lowA x = true ∧ lowL xs = true := by rw [← Bool.and_eq_true];exact q
    show (lowA _ && lowL _) = true
    rw [frz_low id y x q'.1,frzL_low id y xs q'.2];rfl
end
theorem frzO_low (id : Nat) (y : PV) {o : AO} (q : lowO o = true) : lowO (o.frz id y) = true := by
  cases o with
  | box T p cells => exact frzL_low id y cells q
  | _ => rfl
theorem RR.putIn (j m : Nat) {k i : List Nat} {v : List AV} {b : List AO} {e : TypeId} {u : Value} {sz : Nat} {rows : List (List PV)} {F' : List AO} {ρ : Nat → Value} {fp : Nat → List Nat} {a : Act} {w : World} (hr : RR L O w0 N (of2 .bad k v) (tl (of2 .gone i b) F) ρ fp a w) (hj : (of2 .gone i b j,Nat.blt j 1000000) = (.arr ⟨e,some u⟩ sz rows,true)) (hl : (lowL v && b.all lowO) = true) (hF : rowF F)
    (hm : (F[m]?).getD .gone = .gone) (hF' : ∀ x,(F'[x]?).getD .gone = if x = m then .arr ⟨e,some u⟩ sz rows else (F[x]?).getD .gone) :
    ∃ ρ fp,RR L O w0 N (fun t => frz j (.v u) (of2 .bad k v t)) (tl (upd (fun x => (of2 .gone i b x).frz j (.v u)) j .gone) F') ρ fp a w := by
  rw [Bool.and_eq_true] at hl
  have hj1 : of2 .gone i b j = .arr ⟨e,some u⟩ sz rows := congrArg (·.1) hj
  have hj2 : j < 1000000 := Nat.le_of_ble_eq_true (congrArg (·.2) hj)
  have h1 := hr.plain j (e := e) (u := u) (sz := sz) (rows := rows) (by rw [tl_lo hj2];exact hj1)
  have e0 : (fun x => (tl (of2 .gone i b) F x).frz j (.v u)) = tl (fun x => (of2 .gone i b x).frz j (.v u)) F := funext fun x => by
    rcases lo_or_hi x with q | ⟨m,rfl⟩
    · rw [tl_lo q,tl_lo q]
    · rw [tl_hi,tl_hi];exact rowO.frz (rowF.at hF m)
  rw [e0] at h1
  have hbig : tl (fun x => (of2 .gone i b x).frz j (.v u)) F (1000000 + m) = .gone := by rw [tl_hi];exact hm
  have hjj : tl (fun x => (of2 .gone i b x).frz j (.v u)) F j = .arr ⟨e,some u⟩ sz rows := by rw [tl_lo hj2,hj1];rfl
  have h2 := h1.rename (i := j) (j := 1000000 + m) (by omega) hbig (by rw [hjj];rfl) (one? (1000000 + m)) (by simp [one?])
  have lowK : lowEq (one? (1000000 + m)) noK := fun x hx => by unfold one? noK;simp;omega
  have e1 : (fun t => kil (one? (1000000 + m)) (frz j (.v u) (of2 .bad k v t))) = fun t => frz j (.v u) (of2 .bad k v t) := funext fun t => by
    rw [kil_low lowK _ (frz_low _ _ _ (of2_low hl.1 t)),kil_no]
  have e2 : upd (upd (fun x => (tl (fun x => (of2 .gone i b x).frz j (.v u)) F x).kil (one? (1000000 + m))) j .gone) (1000000 + m) (tl (fun x => (of2 .gone i b x).frz j (.v u)) F j) = tl (upd (fun x => (of2 .gone i b x).frz j (.v u)) j .gone) F' := funext fun x => by
    rw [hjj]
    rcases lo_or_hi x with q | ⟨y,rfl⟩
    · rw [upd_ne _ _ (by omega),tl_lo q]
      by_cases xj : x = j
      · subst xj;rw [upd_same,upd_same]
      · rw [upd_ne _ _ xj,upd_ne _ _ xj]
        show (tl _ F x).kil _ = _
        rw [tl_lo q,lowO.kil lowK (frzO_low _ _ (of2_lowO hl.2 x)),AO.kil_no]
    · rw [tl_hi,hF' y]
      by_cases hy : y = m
      · subst hy;rw [upd_same,if_pos rfl]
      · rw [upd_ne _ _ (by omega),upd_ne _ _ (by omega),if_neg hy]
        show (tl _ F (1000000 + y)).kil _ = _
        rw [tl_hi,rowO.kil (rowF.at hF y)]
  rw [e1,e2] at h2
  exact ⟨_,_,h2⟩
theorem AW.absorb (j : Nat) {k i : List Nat} {v : List AV} {b : List AO} {e : TypeId} {u : Value} {sz : Nat} {rows : List (List PV)} (hj : (of2 .gone i b j,Nat.blt j 1000000) = (.arr ⟨e,some u⟩ sz rows,true)) (hl : (lowL v && b.all lowO) = true) (hF : rowF F)
    (hK : AW P L O w0 N c (fun t => frz j (.v u) (of2 .bad k v t)) (tl (upd (fun x => (of2 .gone i b x).frz j (.v u)) j .gone) (F ++ [.arr ⟨e,some u⟩ sz rows])) Q) : AW P L O w0 N c (of2 .bad k v) (tl (of2 .gone i b) F) Q := fun ρ fp a w hr => by
  obtain ⟨ρ',fp',h⟩ := hr.putIn j F.length (F' := F ++ [.arr ⟨e,some u⟩ sz rows]) hj hl hF (by simp) (fun x => by
    by_cases q : x = F.length
    · subst q;simp
    · rw [if_neg q]
      rcases Nat.lt_or_ge x F.length with z | z
      · rw [List.getElem?_append_left z]
      · rw [List.getElem?_eq_none z,List.getElem?_eq_none (by simp;omega)])
  exact hK ρ' fp' a w h
end
def prs (s M : Nat) : List (Nat × Nat) := (List.range M).map fun i => (1000000 + i,1000000 + s + i)
theorem rn_app {r r' : List (Nat × Nat)} {i : Nat} : rn (r ++ r') i = match rn r i with | some j => some j | none => rn r' i := by
  induction r with
  | nil => rfl
  | cons p r ih =>
    obtain ⟨a,b⟩ := p
    show (if i = a then some b else rn (r ++ r') i) = match (if i = a then some b else rn r i) with | some j => some j | none => rn r' i
    by_cases q : i = a
    · rw [if_pos q,if_pos q]
    · rw [if_neg q,if_neg q];exact ih
theorem sw_app {r r' : List (Nat × Nat)} : sw (r ++ r') = sw r ++ sw r' := List.map_append
theorem prs_fst {s M : Nat} : ((prs s M).map Prod.fst).Nodup := by
  unfold prs
  rw [List.map_map]
  exact List.pairwise_map.2 (List.Pairwise.imp (fun {a b} (h : a ≠ b) => fun q => h (by simp at q;omega)) List.nodup_range)
theorem prs_snd {s M : Nat} : ((prs s M).map Prod.snd).Nodup := by
  unfold prs
  rw [List.map_map]
  exact List.pairwise_map.2 (List.Pairwise.imp (fun {a b} (h : a ≠ b) => fun q => h (by simp at q;omega)) List.nodup_range)
theorem rn_prs {s M i : Nat} (h : i < M) : rn (prs s M) (1000000 + i) = some (1000000 + s + i) := mem_rn prs_fst (List.mem_map.2 ⟨i,by simpa using h,rfl⟩)
theorem prs_lo {s M i : Nat} (h : i < 1000000) : rn (prs s M) i = none := rn_none fun p hp => by
  obtain ⟨j,_,rfl⟩ := List.mem_map.1 hp
  show 1000000 + j ≠ i
  omega
theorem sw_prs_lo {s M i : Nat} (h : i < 1000000) : rn (sw (prs s M)) i = none := rn_none fun p hp => by
  unfold sw at hp
  obtain ⟨q,hq,rfl⟩ := List.mem_map.1 hp
  obtain ⟨j,_,rfl⟩ := List.mem_map.1 hq
  show 1000000 + s + j ≠ i
  omega
theorem lowR {r : List (Nat × Nat)} {s M : Nat} : lowEq (rn (r ++ prs s M)) (rn r) := fun i hi => by
  rw [rn_app,prs_lo hi]
  cases rn r i <;> rfl
theorem lowS {r : List (Nat × Nat)} {s M : Nat} : lowEq (rn (sw (r ++ prs s M))) (rn (sw r)) := fun i hi => by
  rw [sw_app,rn_app,sw_prs_lo hi]
  cases rn (sw r) i <;> rfl
theorem app_fst {r : List (Nat × Nat)} {s M : Nat} (hr : smallR r = true) (h : (r.map Prod.fst).Nodup) : ((r ++ prs s M).map Prod.fst).Nodup := by
  rw [List.map_append]
  refine List.nodup_append.2 ⟨h,prs_fst,fun a ha b hb hab => ?_⟩
  obtain ⟨p,hp,rfl⟩ := List.mem_map.1 ha
  obtain ⟨q,hq,rfl⟩ := List.mem_map.1 hb
  obtain ⟨j,_,rfl⟩ := List.mem_map.1 hq
  have := (smallR.at hr p hp).1
  simp at hab
  omega
theorem app_snd {r : List (Nat × Nat)} {s M : Nat} (hr : smallR r = true) (h : (r.map Prod.snd).Nodup) : ((r ++ prs s M).map Prod.snd).Nodup := by
  rw [List.map_append]
  refine List.nodup_append.2 ⟨h,prs_snd,fun a ha b hb hab => ?_⟩
  obtain ⟨p,hp,rfl⟩ := List.mem_map.1 ha
  obtain ⟨q,hq,rfl⟩ := List.mem_map.1 hb
  obtain ⟨j,_,rfl⟩ := List.mem_map.1 hq
  have := (smallR.at hr p hp).2
  simp at hab
  omega
theorem sw_hi {r : List (Nat × Nat)} {s M m : Nat} (hr : smallR r = true) : rn (sw (r ++ prs s M)) (1000000 + m) = if s ≤ m ∧ m - s < M then some (1000000 + (m - s)) else none := by
  rw [sw_app,rn_app,smallR.hi hr m]
  dsimp only
  split
  · rename_i q
    have h1 := rn_prs (s := s) q.2
    rw [rn_sw prs_fst prs_snd] at h1
    rw [show 1000000 + s + (m - s) = 1000000 + m by omega] at h1
    exact h1
  · rename_i q
    refine rn_none fun p hp => ?_
    unfold sw at hp
    obtain ⟨x,hx,rfl⟩ := List.mem_map.1 hp
    obtain ⟨j,hj,rfl⟩ := List.mem_map.1 hx
    have : j < M := by simpa using hj
    show 1000000 + s + j ≠ 1000000 + m
    omega
def GN (P : Program) (f : FuncId) (args : List AV) (ob0 : List (Nat × AO)) (F0 : List AO) (R : AV → List (Nat × AO) → List AO → Prop) : Prop :=
  GX P f args (ob0 ++ famL 1000000 F0) fun x ob1 => ∃ l1 F1,(smallO l1 && (l1.all (fun p => lowO p.2) && lowA x)) = true ∧ rowF F1 ∧ F1.length ≤ 10000000 ∧ ob1 = l1 ++ famL 1000000 F1 ∧ R x l1 F1
def kbig (kl : List Nat) : Nat → Bool := fun j => inK kl j || Nat.ble 1000000 j
theorem ofO_all {l : List (Nat × AO)} (h : (l.all fun p => lowO p.2) = true) (i : Nat) : lowO (ofO l i) = true := by
  induction l with
  | nil => rfl
  | cons p l ih =>
    obtain ⟨a,o⟩ := p
    rw [List.all_cons,Bool.and_eq_true] at h
    show lowO (if i = a then o else ofO l i) = true
    split
    · exact h.1
    · exact ih h.2
theorem kbig_lo {kl : List Nat} : lowEq (kbig kl) (inK kl) := fun i hi => by
  unfold kbig
  have : Nat.ble 1000000 i = false := by
    cases e : Nat.ble 1000000 i with
    | false => rfl
    | true => have := Nat.le_of_ble_eq_true e;omega
  rw [this,Bool.or_false]
theorem pins_fam {ob0 l1 : List (Nat × AO)} {F0 F1 : List AO} : ∀ {pl : List Nat},pl.all (fun i => Nat.blt i 1000000) = true → pins ob0 l1 pl → pins (ob0 ++ famL 1000000 F0) (l1 ++ famL 1000000 F1) pl
  | [],_,_ => trivial
  | i :: pl,hs,h => by
    rw [List.all_cons,Bool.and_eq_true] at hs
    refine ⟨?_,pins_fam hs.2 h.2⟩
    rw [ofO_lo (Nat.le_of_ble_eq_true hs.1),ofO_lo (Nat.le_of_ble_eq_true hs.1)]
    exact h.1
theorem all0_app {r : List (Nat × Nat)} {H : Nat → AO} : ∀ {l m : List (Nat × AO)},all0 r H l → all0 r H m → all0 r H (l ++ m)
  | [],m,_,h => h
  | (i,o) :: l,m,h1,h => ⟨h1.1,all0_app h1.2 h⟩
theorem all0_fam {r : List (Nat × Nat)} {H : Nat → AO} : ∀ {F : List AO} {n : Nat},(∀ i,i < F.length → ∃ j,rn r (n + i) = some j ∧ (H j).ren (sw r) = (F[i]?).getD .gone) → all0 r H (famL n F)
  | [],n,_ => trivial
  | o :: F,n,h => ⟨by have := h 0 (by simp);simpa using this,all0_fam fun i hi => by
    have := h (i + 1) (by simp;omega)
    rw [show n + 1 + i = n + (i + 1) by omega];simpa using this⟩
theorem all0_low {r r' : List (Nat × Nat)} {H : Nat → AO} (h1 : ∀ i j,rn r i = some j → rn r' i = some j) (h2 : lowEq (rn (sw r)) (rn (sw r'))) (h3 : ∀ i j,rn r i = some j → lowO (H j) = true) : ∀ {l : List (Nat × AO)},all0 r H l → all0 r' H l
  | [],_ => trivial
  | (i,o) :: l,h => by
    obtain ⟨⟨j,q1,q2⟩,q3⟩ := h
    exact ⟨⟨j,h1 i j q1,by rw [← q2];exact (lowO.ren h2 (h3 i j q1)).symm⟩,all0_low h1 h2 h3 q3⟩
theorem mem_famL : ∀ {F : List AO} {n i : Nat} {o : AO},(i,o) ∈ famL n F → ∃ m,m < F.length ∧ i = n + m
  | [],n,i,o,h => by cases h
  | x :: F,n,i,o,h => by
    rcases List.mem_cons.1 h with h | h
    · injection h with h1 h2
      exact ⟨0,by simp,by omega⟩
    · obtain ⟨m,q1,q2⟩ := mem_famL h
      exact ⟨m + 1,by simp;omega,by omega⟩
section
variable {P : Program} {o : Oper} {N : Nat} {τ : Nat → AV} {H : Nat → AO} {F : List AO}
theorem StX.callN (r : List (Nat × Nat)) (kl pl : List Nat) (s : Nat) {y : Operand} {l : List Operand} {ts : Array TypeId} {f : FuncId} {fn : Func} {fs caps args : List AV} {ob0 : List (Nat × AO)} {F0 Fp : List AO} {R : AV → List (Nat × AO) → List AO → Prop} (hf : P.funcs[f]? = some fn) (hc : GN P f args ob0 F0 R) (hT : Tl H F) (e0 : F.drop s = F0) (e1 : F.take s = Fp) (hs : s ≤ F.length) (hM : F.length ≤ 10000000) (hp : ∀ x l1 F1,R x l1 F1 → pins ob0 l1 pl)
    (h : (o.op,dstOk o.dst N,ev τ y,(fn.name == "runtime.NumGoroutine"),fn.body.isNone,renL (sw r) (fs ++ l.map (ev τ) ++ caps),lowL (fs ++ l.map (ev τ) ++ caps),r.all (fun p => lowO (H p.2))) = (.call { callee := .value y,args := l.toArray,argTypes := ts },true,.clo (.func f) fs caps,false,false,args,true,true)) (h0 : allv r H ob0 = allw ob0)
    (hr : (nodupB (r.map Prod.fst) && (nodupB (r.map Prod.snd) && (okK r kl pl && (smallR r && pl.all (fun i => Nat.blt i 1000000))))) = true := by decide) :
    StX P o N τ H (exL r ob0 ++ (List.range F0.length).map fun i => 1000000 + s + i) fun τ' H' => ∃ x l1 F1,R x l1 F1 ∧ rowF F1 ∧ F1.length ≤ 10000000 ∧ τ' = updo (fun t => kil (kbig kl) (τ t)) o.dst (ren r x) ∧ H' = tl (callH r (kbig kl) l1 H) (Fp ++ F1) := by
  subst e0 e1
  simp only [Prod.mk.injEq] at h
  obtain ⟨ho,ht,hy,hf1,hf2,ha,hlo,hlH⟩ := h
  simp only [Bool.and_eq_true] at hr
  obtain ⟨hr1,hr2,hr3,hr4,hr5⟩ := hr
  have nd1 := app_fst (s := s) (M := 10000000) hr4 (nodupB.nodup hr1)
  have nd2 := app_snd (s := s) (M := 10000000) hr4 (nodupB.nodup hr2)
  have hlen : (F.drop s).length ≤ 10000000 := by simp;omega
  have rnup : ∀ i j,rn r i = some j → rn (r ++ prs s 10000000) i = some j := fun i j q => by rw [rn_app,q]
  have lowH : ∀ i j,rn r i = some j → lowO (H j) = true := fun i j q => List.all_eq_true.1 hlH _ (rn_mem q)
  refine ⟨?_⟩
  intro L O w0 ρ fp a w K Q hrr hk
  have ey := hrr.ev y
  rw [hy,RV] at ey
  obtain ⟨cf,cc,ey,e1,e2⟩ := ey
  have hv : RVL L ρ H w (fs ++ l.map (ev τ) ++ caps) (cf ++ l.map a.eval ++ cc) := (e1.append (RVL.map (fun z => hrr.ev z) l)).append e2
  have hcall := RR.called hrr (r := r ++ prs s 10000000) (k := kbig kl) (pl := pl) hc nd1 nd2 (by
      refine all0_app (all0_low rnup (fun i hi => (lowS (r := r) (s := s) i hi).symm) lowH (allv.all0 h0)) (all0_fam fun i hi => ?_)
      refine ⟨1000000 + s + i,?_,?_⟩
      · rw [rn_app,smallR.hi' hr4 i]
        exact rn_prs (by omega)
      · rw [show 1000000 + s + i = 1000000 + (s + i) by omega,hT.1 (s + i),rowO.ren (rowF.at hT.2 _),List.getElem?_drop])
    (fun j hj i hi => by
      have hjs : j < 1000000 := by
        unfold kbig at hj
        rw [Bool.or_eq_false_iff] at hj
        rcases Nat.lt_or_ge j 1000000 with q | q
        · exact q
        · have := Nat.ble_eq_true_of_le q;rw [hj.2] at this;cases this
      rw [lowS j hjs] at hi
      refine okK.at hr3 j ?_ i hi
      rw [← kbig_lo j hjs];exact hj)
    (fun x ob1 ⟨l1,F1,q1,q2,q3,q4,q5⟩ => by subst q4;exact pins_fam hr5 (hp x l1 F1 q5)) hv (by rw [← ha];exact (renL_low (fun i hi => lowS i hi) _ hlo))
  have hrun : (execOp a.eval o).run P w = .ok (.enter f (cf ++ l.map a.eval ++ cc).toArray) w := by
    simp only [execOp,ho,resolve,Deferred.ofValue,ey,invoke,callFunc,Sem.run_bind,Sem.run_pure,Result.andThen_ok,run_program,hf,hf1,hf2,Bool.false_eq_true,if_false,List.map_toArray,List.append_toArray]
  unfold Oper.wp
  rw [hrun]
  show Calls P f _ w _
  refine Calls.mono hcall ?_
  rintro e w' ⟨x,ob1,⟨l1,F1,q1,q2,q3,rfl,q5⟩,v,ρ',fp',rfl,g1,g2,g3⟩
  simp only [Bool.and_eq_true] at q1
  have eH : callH (r ++ prs s 10000000) (kbig kl) (l1 ++ famL 1000000 F1) H = tl (callH r (kbig kl) l1 H) (F.take s ++ F1) := funext fun j => by
    rcases lo_or_hi j with q | ⟨m,rfl⟩
    · rw [tl_lo q]
      unfold callH
      rw [lowS j q]
      cases hj : rn (sw r) j with
      | none => rfl
      | some i =>
        have hi : i < 1000000 := by
          have := rn_mem hj
          unfold sw at this
          obtain ⟨p,hp,e⟩ := List.mem_map.1 this
          injection e with e1 e2
          subst e2
          exact (smallR.at hr4 p hp).1
        show (ofO (l1 ++ famL 1000000 F1) i).ren _ = (ofO l1 i).ren _
        rw [ofO_lo hi]
        exact lowO.ren lowR (ofO_all q1.2.1 i)
    · rw [tl_hi]
      unfold callH
      rw [sw_hi hr4]
      have hst : (F.take s).length = s := by rw [List.length_take];omega
      by_cases c : s ≤ m ∧ m - s < 10000000
      · rw [if_pos c]
        show (ofO (l1 ++ famL 1000000 F1) (1000000 + (m - s))).ren _ = _
        rw [ofO_hi q1.1,famL_at,if_pos (by omega),show 1000000 + (m - s) - 1000000 = m - s by omega,rowO.ren (rowF.at q2 _),List.getElem?_append_right (by omega),hst]
      · rw [if_neg c]
        show (H (1000000 + m)).kil _ = _
        rw [hT.1 m,rowO.kil (rowF.at hT.2 m)]
        rcases Nat.lt_or_ge m s with z | z
        · rw [List.getElem?_append_left (by omega),List.getElem?_take_of_lt z]
        · rw [List.getElem?_eq_none (by omega),List.getElem?_append_right (by omega),List.getElem?_eq_none (by omega)]
  have ex : ren (r ++ prs s 10000000) x = ren r x := ren_low (fun i hi => lowR i hi) x q1.2.2
  rw [eH,ex] at g2
  rw [eH] at g1
  refine hk _ _ _ _ _ _ ⟨x,l1,F1,q5,q2,q3,rfl,rfl⟩ (g1.puto o.dst g2 (dstOk.at ht)) (fun X hX => ?_)
  rw [← eH]
  refine g3 X (fun i o' hio j hj => ?_)
  rcases List.mem_append.1 hio with hio | hio
  · obtain ⟨⟨j',z1,_⟩,_⟩ : (∃ j',rn r i = some j' ∧ True) ∧ True := by
      refine ⟨?_,trivial⟩
      have : ∀ (l : List (Nat × AO)),all0 r H l → (i,o') ∈ l → ∃ j',rn r i = some j' ∧ True := by
        intro l
        induction l with
        | nil => intro _ h;cases h
        | cons p l ih =>
          obtain ⟨a',b'⟩ := p
          intro h hm
          rcases List.mem_cons.1 hm with hm | hm
          · injection hm with hm1 hm2
            subst hm1
            obtain ⟨⟨j',z,_⟩,_⟩ := h
            exact ⟨j',z,trivial⟩
          · exact ih h.2 hm
      exact this ob0 (allv.all0 h0) hio
    rw [rnup i j' z1] at hj
    injection hj with hj
    subst hj
    exact hX _ (List.mem_append_left _ (List.mem_filterMap.2 ⟨_,hio,z1⟩))
  · obtain ⟨m,hm,rfl⟩ := mem_famL hio
    rw [rn_app,smallR.hi' hr4 m] at hj
    dsimp only at hj
    rw [rn_prs (by omega)] at hj
    injection hj with hj
    subst hj
    exact hX _ (List.mem_append_right _ (List.mem_map.2 ⟨m,by simpa using hm,rfl⟩))
end

inductive All2 {α β : Type} (R : α → β → Prop) : List α → List β → Prop
  | nil : All2 R [] []
  | cons {a : α} {b : β} {l : List α} {m : List β} : R a b → All2 R l m → All2 R (a :: l) (b :: m)
theorem All2.len {α β : Type} {R : α → β → Prop} {l : List α} {m : List β} (h : All2 R l m) : l.length = m.length := by
  induction h with
  | nil => rfl
  | cons _ _ ih => simp [ih]
theorem All2.of {α β : Type} {R : α → β → Prop} : ∀ {l : List α} {m : List β},l.length = m.length → (∀ (i : Nat) (a : α) (b : β),l[i]? = some a → m[i]? = some b → R a b) → All2 R l m
  | [],[],_,_ => .nil
  | a :: l,b :: m,hl,h => .cons (h 0 a b rfl rfl) (All2.of (by simpa using hl) fun i x y h1 h2 => h (i + 1) x y (by simpa using h1) (by simpa using h2))
  | [],_ :: _,hl,_ => by cases hl
  | _ :: _,[],hl,_ => by cases hl
def dpC (H : Nat → AO) (p q : PV) : Prop := p = q ∨ ∃ v m e sz rows,p = .v v ∧ H m = .arr ⟨e,some v⟩ sz rows ∧ q = .lst e sz rows
section
variable {L : Nat → Prop} {ρ : Nat → Value} {H : Nat → AO} {w : World}
theorem RWL.deep (hob : ∀ id,∃ f,OB L ρ H w (ρ id) f (H id)) : ∀ {x y : List PV} {c : List Value} {fp : List Nat},All2 (dpC H) x y → RWL w false x c fp → ∃ fp',RWL w false y c fp'
  | _,_,c,fp,.nil,h => ⟨fp,h⟩
  | _,_,c,fp,.cons h1 h2,h => by
    rw [RWL] at h
    obtain ⟨c,r,f1,f2,rfl,rfl,k1,k2⟩ := h
    obtain ⟨g2,k3⟩ := RWL.deep hob h2 k2
    rcases h1 with rfl | ⟨v,m,e,sz,rows,rfl,hm,rfl⟩
    · exact ⟨f1 ++ g2,by rw [RWL];exact ⟨c,r,f1,g2,rfl,rfl,k1,k3⟩⟩
    · obtain ⟨f,ho⟩ := hob m
      rw [hm] at ho
      obtain ⟨g1,k4⟩ := OB.readsW ho
      have hv : ρ m = v := by obtain ⟨_,_,_,_,_,_,k⟩ := ho;exact k v rfl
      rw [RW] at k1
      rw [k1.1,← hv]
      exact ⟨g1 ++ g2,by rw [RWL];exact ⟨ρ m,r,g1,g2,rfl,rfl,k4,k3⟩⟩
theorem RWR.deep (hob : ∀ id,∃ f,OB L ρ H w (ρ id) f (H id)) {sz : Nat} : ∀ {x y : List (List PV)} {c : List Value} {fp : List Nat},All2 (All2 (dpC H)) x y → RWR w false sz x c fp → ∃ fp',RWR w false sz y c fp'
  | _,_,c,fp,.nil,h => ⟨fp,h⟩
  | _,_,c,fp,.cons h1 h2,h => by
    rw [RWR] at h
    obtain ⟨hl,c,r,f1,f2,rfl,rfl,k1,k2⟩ := h
    obtain ⟨g1,k3⟩ := RWL.deep hob h1 k1
    obtain ⟨g2,k4⟩ := RWR.deep hob h2 k2
    exact ⟨g1 ++ g2,by rw [RWR];exact ⟨by rw [← h1.len];exact hl,c,r,g1,g2,rfl,rfl,k3,k4⟩⟩
end
def Reads (H : Nat → AO) (x y : AV) : Prop := ∀ {L : Nat → Prop} {ρ : Nat → Value} {w : World} {c : Value},(∀ id,∃ f,OB L ρ H w (ρ id) f (H id)) → RV L ρ H w x c → RV L0 ρ0 (ofO []) w y c
theorem Reads.lend {H : Nat → AO} {x y : AV} (h : lend H x = y) : Reads H x y := fun hob hx => h ▸ RV.lend hob x hx
theorem Reads.own {H : Nat → AO} {id : Nat} {t : TypeId} {pt : Option Value} {sz : Nat} {rows rows' : List (List PV)} (hH : H id = .arr ⟨t,pt⟩ sz rows) (h : All2 (All2 (dpC H)) rows rows') : Reads H (.own id) (.p (.lst t sz rows')) := fun {L ρ w c} hob hx => by
  rw [RV] at hx
  have hc := hx.2 (by rw [hH];rfl)
  obtain ⟨f,ho⟩ := hob id
  rw [hH] at ho
  obtain ⟨xs,fr,b1,b2,b3,b4,b5⟩ := ho
  obtain ⟨g,k1⟩ := RWR.deep hob h b1
  have hr := OB.readsW (L := L) (ρ := ρ) (H := H) (w := w) (v := ρ id) (f := f) (e := ⟨t,pt⟩) (sz := sz) (rows := rows) ⟨xs,fr,b1,b2,b3,b4,b5⟩
  rw [hc]
  rw [RV]
  have hlen : rows'.length = rows.length := h.len.symm
  rcases b3.2 with ⟨q,q2⟩ | ⟨gb,cap,cur,q,_,hg,hnc,hcm,_⟩
  · refine ⟨[] ++ g,?_,fun b _ => no_live⟩
    rw [RW]
    refine ⟨xs,[],g,k1,?_,rfl⟩
    unfold SlAt
    simp only [Bool.false_eq_true,if_false]
    exact ⟨none,0,by rw [q,hlen,q2],by omega,by simp [maxLen],.inl ⟨by omega,trivial⟩⟩
  · have b3' := b3
    rw [q] at b3'
    refine ⟨[gb] ++ g,?_,fun b _ => no_live⟩
    rw [RW]
    refine ⟨xs,[gb],g,k1,?_,rfl⟩
    unfold SlAt
    simp only [Bool.false_eq_true,if_false]
    exact ⟨_,cap,by rw [q,hlen],by omega,hcm,.inr ⟨gb,0,rfl,cellsAt_of_own b3',(Array.getElem?_eq_some_iff.1 hg).1,rfl⟩⟩
theorem RVL.reads {H : Nat → AO} {L : Nat → Prop} {ρ : Nat → Value} {w : World} (hob : ∀ id,∃ f,OB L ρ H w (ρ id) f (H id)) : ∀ {l m : List AV} {cs : List Value},All2 (Reads H) l m → RVL L ρ H w l cs → RVL L0 ρ0 (ofO []) w m cs
  | _,_,cs,.nil,h => by rw [RVL] at *;exact h
  | _,_,cs,.cons h1 h2,h => by
    rw [RVL] at *
    obtain ⟨c,r,rfl,k1,k2⟩ := h
    exact ⟨c,r,rfl,h1 hob k1,RVL.reads hob h2 k2⟩
theorem Reads.agg {H : Nat → AO} {l m : List AV} (h : All2 (Reads H) l m) : Reads H (.agg l) (.agg m) := fun hob hx => by
  rw [RV] at *
  obtain ⟨cs,rfl,h1⟩ := hx
  exact ⟨cs,rfl,RVL.reads hob h h1⟩
section
variable {P : Program} {o : Oper} {N : Nat} {τ : Nat → AV} {H : Nat → AO}
end
theorem rowF.app {F G : List AO} (h : rowF F) (g : rowF G) : rowF (F ++ G) := fun o ho => by
  rcases List.mem_append.1 ho with q | q
  · exact h o q
  · exact g o q
theorem tlp {H : Nat → AO} {F : List AO} (h : Tl H F := by repeat (first | exact Tl.list rfl | exact Tl.tl (by first | assumption | exact rowF.nil) | refine Tl.frz rfl ?_ | refine Tl.upd rfl ?_ | refine Tl.kil ?_ | refine Tl.call rfl ?_ | refine Tl.swap rfl ?_)) : Tl H F := h
def nR (R : AV → List (Nat × AO) → List AO → Prop) : AV → List (Nat × AO) → Prop := fun x ob1 => ∃ l1 F1,(smallO l1 && (l1.all (fun p => lowO p.2) && lowA x)) = true ∧ rowF F1 ∧ F1.length ≤ 10000000 ∧ ob1 = l1 ++ famL 1000000 F1 ∧ R x l1 F1
section
variable {P : Program} {L O : Nat → Prop} {w0 : World} {N : Nat} {τ : Nat → AV} {H : Nat → AO} {Q : AQ} {c : Code} {ops : Array Oper} {l : List Oper} {F : List AO}
theorem GN.intro {f : FuncId} {fn : Func} {c : Code} {args : List AV} {ob0 : List (Nat × AO)} {F0 : List AO} {R : AV → List (Nat × AO) → List AO → Prop} {rs : List RVar} (hf : P.funcs[f]? = some fn) (hb : fn.body = some c) (hn : fn.ntmps = N) (hl : args.length ≤ N) (hrs : resOk P fn.results.toList rs) (h0 : smallO ob0 = true)
    (h : ∀ L O w0,AW P L O w0 N c (ofL args) (tl (ofO ob0) F0) (EndsX rs (nR R))) : GN P f args ob0 F0 R := GX.intro hf hb hn hl hrs (fun L O w0 => by rw [ofO_fam h0];exact h L O w0)
theorem end_nret {rs : List RVar} {R : AV → List (Nat × AO) → List AO → Prop} (x : AV) (l1 : List (Nat × AO)) {F1 : List AO} (hR : R x l1 F1) (hM : F1.length ≤ 10000000) (h0 : retX τ H rs = some x) (h1 : (smallO l1 && (l1.all (fun p => lowO p.2) && lowA x)) = true) (h2 : allO l1 H) (h3 : Tl H F1) : EndsX rs (nR R) .ret τ H :=
  ⟨x,l1 ++ famL 1000000 F1,⟨l1,F1,h1,h3.2,hM,rfl,hR⟩,h0,allO_app h2 h3.all⟩
end

def flatR : AO → Prop
  | .arr e sz rows => ∀ r ∈ rows,∀ p ∈ r,∃ v,p = PV.v v
  | _ => False
theorem GX.lent {P : Program} {f : FuncId} {args args' : List AV} {ob0 : List (Nat × AO)} {R : AV → List (Nat × AO) → Prop} (hc : GX P f args [] R) (hl : lendL (ofO ob0) args' = args) (h0 : ∀ p ∈ ob0,arrO p.2 = true)
    (hR : ∀ x ob1,R x ob1 → ownA x = true ∧ (∀ id ∈ ownN x,inO ob1 id = true) ∧ (∀ p ∈ ob1,flatR p.2) ∧ (∀ p ∈ ob0,inO ob1 p.1 = false)) :
    GX P f args' ob0 fun x ob => ∃ ob1,R x ob1 ∧ ob = ob1 ++ ob0 := by
  intro L w cs ρ fp hL hargs hob hdj hLf
  have hv := RVL.lend (fun id => ⟨_,hob id⟩) args' hargs
  rw [hl] at hv
  refine Calls.mono (hc L0 w cs ρ0 (fun _ => []) (fun _ q => q.elim) hv (fun i => rfl) (by simp) (by simp)) ?_
  rintro e w' ⟨x,ob1,hR1,v,ρ',fp',rfl,g1,g2,g3,g4,g5⟩
  obtain ⟨hx,hn,h1,hd⟩ := hR x ob1 hR1
  have hnew : ∀ i,∀ b ∈ fp' i,w.heap.size ≤ b := fun i b hb => by
    rcases (g5 i b hb).1 with ⟨j,q⟩ | q
    · cases q
    · exact q
  have hsame : ∀ b,b < w.heap.size → w'.heap[b]? = w.heap[b]? := fun b hb => g1.block b hb (by simp)
  generalize hρ2 : (fun i => if inO ob1 i = true then ρ' i else ρ i) = ρ2
  generalize hf2 : (fun i => if inO ob1 i = true then fp' i else fp i) = f2
  have eρ1 : ∀ {i},inO ob1 i = true → ρ2 i = ρ' i := fun {i} h => by rw [← hρ2];simp only [h,if_true]
  have eρ0 : ∀ {i},inO ob1 i = false → ρ2 i = ρ i := fun {i} h => by rw [← hρ2];simp [h]
  have ef1 : ∀ {i},inO ob1 i = true → f2 i = fp' i := fun {i} h => by rw [← hf2];simp only [h,if_true]
  have ef0 : ∀ {i},inO ob1 i = false → f2 i = fp i := fun {i} h => by rw [← hf2];simp [h]
  have eH1 : ∀ {i},inO ob1 i = true → ofO (ob1 ++ ob0) i = ofO ob1 i := fun {i} h => by rw [ofO_app,if_pos h]
  have eH0 : ∀ {i},inO ob1 i = false → ofO (ob1 ++ ob0) i = ofO ob0 i := fun {i} h => by rw [ofO_app,if_neg (by simp [h])]
  have hlive : ∀ b,b < w.heap.size → ¬ live L ρ (ofO ob0) b → ¬ live L ρ2 (ofO (ob1 ++ ob0)) b := by
    rintro b hb hn (hl | ⟨i,q1,q2⟩)
    · exact hn (.inl hl)
    · rcases hi : inO ob1 i with _ | _
      · rw [eH0 hi] at q1;rw [eρ0 hi] at q2;exact hn (.inr ⟨i,q1,q2⟩)
      · rw [eH1 hi] at q1;rw [eρ1 hi] at q2
        have := hnew i b ((g3 i).top q1 q2)
        omega
  have E : Env L ρ ρ2 (ofO ob0) (ofO (ob1 ++ ob0)) w w' (inO ob1) := ⟨g1.size,fun b hb hn => ⟨hsame b hb,hlive b hb hn⟩,fun i hk hi => by
    rw [eH0 hk] at hi ⊢
    exact ⟨hi,eρ0 hk,rfl,rfl⟩⟩
  refine ⟨x,ob1 ++ ob0,⟨ob1,hR1,rfl⟩,v,ρ2,f2,rfl,⟨g1.os,g1.tape,g1.output,g1.size,fun b hb _ => hsame b hb,fun b o hb hlt => ?_⟩,?_,fun i => ?_,fun i j hij b hb hb' => ?_,fun i b hb => ?_⟩
  · rcases Nat.lt_or_ge b w.heap.size with hb2 | hb2
    · rcases hb with ⟨i,hi⟩ | hb
      · rw [World.frozen?_of_block (w := w) (hsame b hb2)]
        exact (hob i).frozen b hi o
      · omega
    · exact g1.nf b o (.inr hb2) hlt
  · refine RV.owned x hx g2 fun id hid => ?_
    obtain ⟨o,q1,q2⟩ := ofO_mem (hn id hid)
    have hfl := h1 _ q1
    refine ⟨?_,eρ1 (hn id hid)⟩
    rw [q2]
    cases o with
    | arr e sz rows => rfl
    | box T p c => exact hfl.elim
    | gone => exact hfl.elim
  · rcases hi : inO ob1 i with _ | _
    · rw [eH0 hi,eρ0 hi,ef0 hi]
      have h := (hob i).env E (fun b hb => hsame b ((hob i).lt b hb))
      have ek : (ofO ob0 i).kil (inO ob1) = ofO ob0 i := by
        rcases hj : inO ob0 i with _ | _
        · rw [ofO_out hj];rfl
        · obtain ⟨o,q1,q2⟩ := ofO_mem hj
          have := h0 _ q1
          rw [q2]
          cases o with
          | arr e sz rows => rfl
          | box T p c => cases this
          | gone => rfl
      rwa [ek] at h
    · rw [eH1 hi,eρ1 hi,ef1 hi]
      obtain ⟨o,q1,q2⟩ := ofO_mem hi
      have hfl := h1 _ q1
      have h := g3 i
      rw [q2] at h ⊢
      cases o with
      | arr e sz rows =>
        obtain ⟨xs,fr,k1,k2,k3,k4,k5⟩ := h
        have hfr := k1.flat_fp hfl
        subst hfr
        exact ⟨xs,[],k1,by simp,k3,k4,k5⟩
      | box T p c => exact hfl.elim
      | gone => exact hfl.elim
  · rcases hi : inO ob1 i with _ | _ <;> rcases hj : inO ob1 j with _ | _
    · rw [ef0 hi] at hb;rw [ef0 hj] at hb';exact hdj i j hij b hb hb'
    · rw [ef0 hi] at hb;rw [ef1 hj] at hb'
      have := (hob i).lt b hb
      have := hnew j b hb'
      omega
    · rw [ef1 hi] at hb;rw [ef0 hj] at hb'
      have := (hob j).lt b hb'
      have := hnew i b hb
      omega
    · rw [ef1 hi] at hb;rw [ef1 hj] at hb';exact g4 i j hij b hb hb'
  · rcases hi : inO ob1 i with _ | _
    · rw [ef0 hi] at hb;exact ⟨.inl ⟨i,hb⟩,hLf i b hb⟩
    · rw [ef1 hi] at hb
      have := hnew i b hb
      exact ⟨.inr this,fun hl => by have := hL b hl;omega⟩
theorem GX.same {P : Program} {f : FuncId} {args : List AV} {ob0 : List (Nat × AO)} {R R' : AV → List (Nat × AO) → Prop} (h : GX P f args ob0 R) (hR : ∀ x ob,R x ob → ∃ ob',R' x ob' ∧ ofO ob' = ofO ob) : GX P f args ob0 R' := fun L w cs ρ fp h1 h2 h3 h4 h5 =>
  Calls.mono (h L w cs ρ fp h1 h2 h3 h4 h5) fun e w' ⟨x,ob,q,r⟩ => by
    obtain ⟨ob',q1,q2⟩ := hR x ob q
    exact ⟨x,ob',q1,by rw [q2];exact r⟩
theorem inO_fam {F : List AO} {i : Nat} (h : i < 1000000) : inO (famL 1000000 F) i = false := by
  cases e : inO (famL 1000000 F) i with
  | false => rfl
  | true =>
    obtain ⟨o,q,_⟩ := ofO_mem e
    obtain ⟨m,_,q2⟩ := mem_famL q
    omega
theorem inO_app {l m : List (Nat × AO)} {i : Nat} : inO (l ++ m) i = (inO l i || inO m i) := by unfold inO;rw [List.map_append,List.contains_eq_any_beq,List.any_append,← List.contains_eq_any_beq,← List.contains_eq_any_beq]
theorem GN.lent {P : Program} {f : FuncId} {args args' : List AV} {ob0 : List (Nat × AO)} {R : AV → List (Nat × AO) → List AO → Prop} (hc : GN P f args [] [] R) (hl : lendL (ofO ob0) args' = args) (h0 : (ob0.all fun p => arrO p.2 && (lowO p.2 && Nat.blt p.1 1000000)) = true)
    (hR : ∀ x l1 F1,R x l1 F1 → ownA x = true ∧ (∀ id ∈ ownN x,inO l1 id = true) ∧ (∀ p ∈ l1,flatR p.2) ∧ (∀ o ∈ F1,flatR o) ∧ (∀ p ∈ ob0,inO l1 p.1 = false)) :
    GN P f args' ob0 [] fun x l F => ∃ l1,R x l1 F ∧ l = l1 ++ ob0 := by
  have hs : smallO ob0 = true := List.all_eq_true.2 fun p hp => by
    have := List.all_eq_true.1 h0 p hp
    simp only [Bool.and_eq_true] at this
    exact this.2.2
  have hlo : (ob0.all fun p => lowO p.2) = true := List.all_eq_true.2 fun p hp => by
    have := List.all_eq_true.1 h0 p hp
    simp only [Bool.and_eq_true] at this
    exact this.2.1
  have hc' : GX P f args [] _ := hc
  have h := GX.lent (ob0 := ob0) hc' hl (fun p hp => by
    have := List.all_eq_true.1 h0 p hp
    simp only [Bool.and_eq_true] at this
    exact this.1) (fun x ob1 ⟨l1,F1,q1,q2,q3,q4,q5⟩ => by
    subst q4
    obtain ⟨r1,r2,r3,r4,r5⟩ := hR x l1 F1 q5
    refine ⟨r1,fun id hid => by rw [inO_app,r2 id hid];rfl,fun p hp => ?_,fun p hp => ?_⟩
    · rcases List.mem_append.1 hp with hp | hp
      · exact r3 p hp
      · have : ∀ (F : List AO) (n : Nat),p ∈ famL n F → p.2 ∈ F := by
          intro F
          induction F with
          | nil => intro n h;cases h
          | cons o F ih =>
            intro n h
            rcases List.mem_cons.1 h with h | h
            · rw [h];simp
            · exact List.mem_cons_of_mem _ (ih _ h)
        exact r4 _ (this _ _ hp)
    · rw [inO_app,r5 p hp,inO_fam (Nat.le_of_ble_eq_true (List.all_eq_true.1 hs p hp))];rfl)
  show GX P f args' (ob0 ++ []) _
  rw [List.append_nil]
  refine h.same fun x ob ⟨ob1,⟨l1,F1,q1,q2,q3,q4,q5⟩,q6⟩ => ?_
  subst q4 q6
  simp only [Bool.and_eq_true] at q1
  have s1 : smallO (l1 ++ ob0) = true := by unfold smallO at *;rw [List.all_append,q1.1,hs];rfl
  refine ⟨(l1 ++ ob0) ++ famL 1000000 F1,⟨l1 ++ ob0,F1,?_,q2,q3,rfl,l1,q5,rfl⟩,?_⟩
  · rw [s1,List.all_append,q1.2.1,hlo,q1.2.2];rfl
  · funext i
    rcases lo_or_hi i with q | ⟨m,rfl⟩
    · rw [ofO_lo q,ofO_app,ofO_app,inO_app,inO_fam q,Bool.or_false,ofO_lo q]
    · rw [ofO_hi s1,List.append_assoc,ofO_hi q1.1,ofO_app]
      split
      · rfl
      · rename_i z
        rw [ofO_out (by simpa using z)]
        have : inO ob0 (1000000 + m) = false := by
          cases e : inO ob0 (1000000 + m) with
          | false => rfl
          | true =>
            obtain ⟨o,w1,_⟩ := ofO_mem e
            have := List.all_eq_true.1 hs _ w1
            have : 1000000 + m < 1000000 := Nat.le_of_ble_eq_true this
            omega
        rw [ofO_out this]
theorem exK {E l : List Nat} {X : Nat → Bool} (h : E = l) (h2 : l.all X = true) : ∀ id ∈ E,X id = true := fun id hid => by subst h;exact List.all_eq_true.1 h2 id hid

theorem bits_and_le (x : Int) (m : Nat) (hm : m < 9223372036854775808) : 0 ≤ bits BinOp.and IntKind.i64 x (m : Int) ∧ bits BinOp.and IntKind.i64 x (m : Int) ≤ m := by
  have h1 : (BitVec.ofInt 64 x &&& BitVec.ofInt 64 (m : Int)).toNat ≤ m := by
    rw [BitVec.toNat_and]
    have h2 : (BitVec.ofInt 64 (m : Int)).toNat = m := by
      rw [BitVec.toNat_ofInt]
      omega
    rw [h2]
    exact Nat.and_le_right
  have h3 : bits BinOp.and IntKind.i64 x (m : Int) = IntKind.i64.wrap ((BitVec.ofInt 64 x &&& BitVec.ofInt 64 (m : Int)).toNat : Int) := rfl
  rw [h3]
  generalize (BitVec.ofInt 64 x &&& BitVec.ofInt 64 (m : Int)).toNat = z at *
  have h4 : IntKind.i64.wrap (z : Int) = z := by
    simp [IntKind.wrap,IntKind.bits,IntKind.signed]
    omega
  rw [h4]
  omega
abbrev encU8 (b : Int) : List Value := [.int .u8 b]
abbrev curO (g : Value) (code : List Int) (i : Nat) (h : Int) : AO := .box 122 (some g) [.p (.lst 5 1 (rowsOf encU8 code)),int (i : Int),int h]
def CurOk (code : List Int) (i : Nat) : Prop := i ≤ code.length ∧ code.length ≤ 1048576
def DrR (g : Value) (code : List Int) (R : AV → Prop) : AV → List (Nat × AO) → Prop := fun x ob => ∃ i h,CurOk code i ∧ R x ∧ ob = [(0,curO g code i h)]
def DrI (R : Int → Prop) : AV → Prop := fun x => ∃ n,R n ∧ x = int n
theorem pins_cur {g : Value} {code : List Int} {i : Nat} {h : Int} {R : AV → Prop} : ∀ x ob1,DrR g code R x ob1 → pins [(0,curO g code i h)] ob1 [0] := fun x ob1 ⟨_,_,_,_,e⟩ => by
  subst e
  exact ⟨stays.box (Eq.refl 3),trivial⟩
theorem and_bd (x : Int) (m : Nat) (hm : m < 9223372036854775808) : 0 ≤ bits .and .i64 x (m : Int) ∧ bits .and .i64 x (m : Int) ≤ m := bits_and_le x m hm
theorem tmod_bd {n m : Int} (h0 : 0 ≤ n) (hm : 1 ≤ m) : 0 ≤ n.tmod m ∧ n.tmod m < m := ⟨Int.tmod_nonneg _ h0,Int.tmod_lt_of_pos _ (by omega)⟩
end Go.Proofs.YtogkbcmfoalpiaaGreat

namespace Go.Proofs.YtogkbcmfoalpiaaGreat.ty
open Go Go.Proofs Go.Proofs.YtogkbcmfoalpiaaGreat
theorem kd3 : kindA Tryz.prog 3 = some none := by kernel_rfl
theorem co3 : Tryz.prog.cellsOf 3 = 1 := by kernel_rfl
theorem by3 : Tryz.prog.bytesOf 3 ≤ 512 := Nat.le_of_ble_eq_true (by kernel_rfl)
theorem inf3 : (Tryz.prog.info? 3).isSome = true := by kernel_rfl
theorem ik3 : intKind Tryz.prog 3 = some .i64 := by kernel_rfl
theorem ze3 : zeroA Tryz.prog 3 = some [.int .i64 0] := by kernel_rfl
theorem kd4 : kindA Tryz.prog 4 = some none := by kernel_rfl
theorem co4 : Tryz.prog.cellsOf 4 = 1 := by kernel_rfl
theorem inf4 : (Tryz.prog.info? 4).isSome = true := by kernel_rfl
theorem ze4 : zeroA Tryz.prog 4 = some [.bool false] := by kernel_rfl
theorem kd5 : kindA Tryz.prog 5 = some none := by kernel_rfl
theorem ik5 : intKind Tryz.prog 5 = some .u8 := by kernel_rfl
theorem kd22 : kindA Tryz.prog 22 = some none := by kernel_rfl
theorem el22 : elA Tryz.prog 22 = some (5,1) := by kernel_rfl
theorem sl22 : isSlice Tryz.prog 22 = true := by kernel_rfl
theorem kd23 : kindA Tryz.prog 23 = some none := by kernel_rfl
theorem co23 : Tryz.prog.cellsOf 23 = 1 := by kernel_rfl
theorem inf23 : (Tryz.prog.info? 23).isSome = true := by kernel_rfl
theorem el23 : elA Tryz.prog 23 = some (40,7) := by kernel_rfl
theorem sl23 : isSlice Tryz.prog 23 = true := by kernel_rfl
theorem kd24 : kindA Tryz.prog 24 = some none := by kernel_rfl
theorem co24 : Tryz.prog.cellsOf 24 = 1 := by kernel_rfl
theorem inf24 : (Tryz.prog.info? 24).isSome = true := by kernel_rfl
theorem el24 : elA Tryz.prog 24 = some (68,7) := by kernel_rfl
theorem sl24 : isSlice Tryz.prog 24 = true := by kernel_rfl
theorem kd25 : kindA Tryz.prog 25 = some none := by kernel_rfl
theorem co25 : Tryz.prog.cellsOf 25 = 1 := by kernel_rfl
theorem inf25 : (Tryz.prog.info? 25).isSome = true := by kernel_rfl
theorem el25 : elA Tryz.prog 25 = some (78,5) := by kernel_rfl
theorem sl25 : isSlice Tryz.prog 25 = true := by kernel_rfl
theorem kd27 : kindA Tryz.prog 27 = some (some 6) := by kernel_rfl
theorem co27 : Tryz.prog.cellsOf 27 = 6 := by kernel_rfl
theorem inf27 : (Tryz.prog.info? 27).isSome = true := by kernel_rfl
theorem F27_0 : FA Tryz.prog 27 0 0 3 := ⟨by kernel_rfl,by rw [show Tryz.prog.cellsOf 3 = 1 by kernel_rfl];decide,by kernel_rfl⟩
theorem F27_1 : FA Tryz.prog 27 1 1 3 := ⟨by kernel_rfl,by rw [show Tryz.prog.cellsOf 3 = 1 by kernel_rfl];decide,by kernel_rfl⟩
theorem F27_2 : FA Tryz.prog 27 2 2 3 := ⟨by kernel_rfl,by rw [show Tryz.prog.cellsOf 3 = 1 by kernel_rfl];decide,by kernel_rfl⟩
theorem F27_3 : FA Tryz.prog 27 3 3 23 := ⟨by kernel_rfl,by rw [show Tryz.prog.cellsOf 23 = 1 by kernel_rfl];decide,by kernel_rfl⟩
theorem F27_4 : FA Tryz.prog 27 4 4 24 := ⟨by kernel_rfl,by rw [show Tryz.prog.cellsOf 24 = 1 by kernel_rfl];decide,by kernel_rfl⟩
theorem F27_5 : FA Tryz.prog 27 5 5 25 := ⟨by kernel_rfl,by rw [show Tryz.prog.cellsOf 25 = 1 by kernel_rfl];decide,by kernel_rfl⟩
theorem ze27 : zeroA Tryz.prog 27 = some [.int .i64 0,.int .i64 0,.int .i64 0,.slice none 0 0,.slice none 0 0,.slice none 0 0] := by kernel_rfl
theorem sa27 : structA Tryz.prog 27 = some ([.int .i64 0,.int .i64 0,.int .i64 0,.slice none 0 0,.slice none 0 0,.slice none 0 0],[(0,1),(1,1),(2,1),(3,1),(4,1),(5,1)]) := by kernel_rfl
theorem kd29 : kindA Tryz.prog 29 = some (some 7) := by kernel_rfl
theorem co29 : Tryz.prog.cellsOf 29 = 7 := by kernel_rfl
theorem by29 : Tryz.prog.bytesOf 29 ≤ 512 := Nat.le_of_ble_eq_true (by kernel_rfl)
theorem inf29 : (Tryz.prog.info? 29).isSome = true := by kernel_rfl
theorem F29_0 : FA Tryz.prog 29 0 0 3 := ⟨by kernel_rfl,by rw [show Tryz.prog.cellsOf 3 = 1 by kernel_rfl];decide,by kernel_rfl⟩
theorem F29_1 : FA Tryz.prog 29 1 1 3 := ⟨by kernel_rfl,by rw [show Tryz.prog.cellsOf 3 = 1 by kernel_rfl];decide,by kernel_rfl⟩
theorem F29_2 : FA Tryz.prog 29 2 2 3 := ⟨by kernel_rfl,by rw [show Tryz.prog.cellsOf 3 = 1 by kernel_rfl];decide,by kernel_rfl⟩
theorem F29_3 : FA Tryz.prog 29 3 3 3 := ⟨by kernel_rfl,by rw [show Tryz.prog.cellsOf 3 = 1 by kernel_rfl];decide,by kernel_rfl⟩
theorem F29_4 : FA Tryz.prog 29 4 4 3 := ⟨by kernel_rfl,by rw [show Tryz.prog.cellsOf 3 = 1 by kernel_rfl];decide,by kernel_rfl⟩
theorem F29_5 : FA Tryz.prog 29 5 5 3 := ⟨by kernel_rfl,by rw [show Tryz.prog.cellsOf 3 = 1 by kernel_rfl];decide,by kernel_rfl⟩
theorem F29_6 : FA Tryz.prog 29 6 6 4 := ⟨by kernel_rfl,by rw [show Tryz.prog.cellsOf 4 = 1 by kernel_rfl];decide,by kernel_rfl⟩
theorem ze29 : zeroA Tryz.prog 29 = some [.int .i64 0,.int .i64 0,.int .i64 0,.int .i64 0,.int .i64 0,.int .i64 0,.bool false] := by kernel_rfl
theorem sa29 : structA Tryz.prog 29 = some ([.int .i64 0,.int .i64 0,.int .i64 0,.int .i64 0,.int .i64 0,.int .i64 0,.bool false],[(0,1),(1,1),(2,1),(3,1),(4,1),(5,1),(6,1)]) := by kernel_rfl
theorem kd32 : kindA Tryz.prog 32 = some none := by kernel_rfl
theorem co32 : Tryz.prog.cellsOf 32 = 1 := by kernel_rfl
theorem inf32 : (Tryz.prog.info? 32).isSome = true := by kernel_rfl
theorem el32 : elA Tryz.prog 32 = some (120,3) := by kernel_rfl
theorem sl32 : isSlice Tryz.prog 32 = true := by kernel_rfl
theorem kd34 : kindA Tryz.prog 34 = some (some 2) := by kernel_rfl
theorem co34 : Tryz.prog.cellsOf 34 = 2 := by kernel_rfl
theorem by34 : Tryz.prog.bytesOf 34 ≤ 512 := Nat.le_of_ble_eq_true (by kernel_rfl)
theorem inf34 : (Tryz.prog.info? 34).isSome = true := by kernel_rfl
theorem F34_0 : FA Tryz.prog 34 0 0 3 := ⟨by kernel_rfl,by rw [show Tryz.prog.cellsOf 3 = 1 by kernel_rfl];decide,by kernel_rfl⟩
theorem F34_1 : FA Tryz.prog 34 1 1 32 := ⟨by kernel_rfl,by rw [show Tryz.prog.cellsOf 32 = 1 by kernel_rfl];decide,by kernel_rfl⟩
theorem ze34 : zeroA Tryz.prog 34 = some [.int .i64 0,.slice none 0 0] := by kernel_rfl
theorem sa34 : structA Tryz.prog 34 = some ([.int .i64 0,.slice none 0 0],[(0,1),(1,1)]) := by kernel_rfl
theorem kd40 : kindA Tryz.prog 40 = some (some 7) := by kernel_rfl
theorem co40 : Tryz.prog.cellsOf 40 = 7 := by kernel_rfl
theorem by40 : Tryz.prog.bytesOf 40 ≤ 512 := Nat.le_of_ble_eq_true (by kernel_rfl)
theorem inf40 : (Tryz.prog.info? 40).isSome = true := by kernel_rfl
theorem F40_0 : FA Tryz.prog 40 0 0 3 := ⟨by kernel_rfl,by rw [show Tryz.prog.cellsOf 3 = 1 by kernel_rfl];decide,by kernel_rfl⟩
theorem F40_1 : FA Tryz.prog 40 1 1 3 := ⟨by kernel_rfl,by rw [show Tryz.prog.cellsOf 3 = 1 by kernel_rfl];decide,by kernel_rfl⟩
theorem F40_2 : FA Tryz.prog 40 2 2 3 := ⟨by kernel_rfl,by rw [show Tryz.prog.cellsOf 3 = 1 by kernel_rfl];decide,by kernel_rfl⟩
theorem F40_3 : FA Tryz.prog 40 3 3 3 := ⟨by kernel_rfl,by rw [show Tryz.prog.cellsOf 3 = 1 by kernel_rfl];decide,by kernel_rfl⟩
theorem F40_4 : FA Tryz.prog 40 4 4 3 := ⟨by kernel_rfl,by rw [show Tryz.prog.cellsOf 3 = 1 by kernel_rfl];decide,by kernel_rfl⟩
theorem F40_5 : FA Tryz.prog 40 5 5 3 := ⟨by kernel_rfl,by rw [show Tryz.prog.cellsOf 3 = 1 by kernel_rfl];decide,by kernel_rfl⟩
theorem F40_6 : FA Tryz.prog 40 6 6 3 := ⟨by kernel_rfl,by rw [show Tryz.prog.cellsOf 3 = 1 by kernel_rfl];decide,by kernel_rfl⟩
theorem ze40 : zeroA Tryz.prog 40 = some [.int .i64 0,.int .i64 0,.int .i64 0,.int .i64 0,.int .i64 0,.int .i64 0,.int .i64 0] := by kernel_rfl
theorem sa40 : structA Tryz.prog 40 = some ([.int .i64 0,.int .i64 0,.int .i64 0,.int .i64 0,.int .i64 0,.int .i64 0,.int .i64 0],[(0,1),(1,1),(2,1),(3,1),(4,1),(5,1),(6,1)]) := by kernel_rfl
theorem el44 : elA Tryz.prog 44 = some (29,7) := by kernel_rfl
theorem sl44 : isSlice Tryz.prog 44 = true := by kernel_rfl
theorem el49 : elA Tryz.prog 49 = some (34,2) := by kernel_rfl
theorem el50 : elA Tryz.prog 50 = some (3,1) := by kernel_rfl
theorem sl50 : isSlice Tryz.prog 50 = true := by kernel_rfl
theorem kd68 : kindA Tryz.prog 68 = some (some 7) := by kernel_rfl
theorem co68 : Tryz.prog.cellsOf 68 = 7 := by kernel_rfl
theorem by68 : Tryz.prog.bytesOf 68 ≤ 512 := Nat.le_of_ble_eq_true (by kernel_rfl)
theorem inf68 : (Tryz.prog.info? 68).isSome = true := by kernel_rfl
theorem F68_0 : FA Tryz.prog 68 0 0 3 := ⟨by kernel_rfl,by rw [show Tryz.prog.cellsOf 3 = 1 by kernel_rfl];decide,by kernel_rfl⟩
theorem F68_1 : FA Tryz.prog 68 1 1 3 := ⟨by kernel_rfl,by rw [show Tryz.prog.cellsOf 3 = 1 by kernel_rfl];decide,by kernel_rfl⟩
theorem F68_2 : FA Tryz.prog 68 2 2 3 := ⟨by kernel_rfl,by rw [show Tryz.prog.cellsOf 3 = 1 by kernel_rfl];decide,by kernel_rfl⟩
theorem F68_3 : FA Tryz.prog 68 3 3 3 := ⟨by kernel_rfl,by rw [show Tryz.prog.cellsOf 3 = 1 by kernel_rfl];decide,by kernel_rfl⟩
theorem F68_4 : FA Tryz.prog 68 4 4 3 := ⟨by kernel_rfl,by rw [show Tryz.prog.cellsOf 3 = 1 by kernel_rfl];decide,by kernel_rfl⟩
theorem F68_5 : FA Tryz.prog 68 5 5 4 := ⟨by kernel_rfl,by rw [show Tryz.prog.cellsOf 4 = 1 by kernel_rfl];decide,by kernel_rfl⟩
theorem F68_6 : FA Tryz.prog 68 6 6 3 := ⟨by kernel_rfl,by rw [show Tryz.prog.cellsOf 3 = 1 by kernel_rfl];decide,by kernel_rfl⟩
theorem ze68 : zeroA Tryz.prog 68 = some [.int .i64 0,.int .i64 0,.int .i64 0,.int .i64 0,.int .i64 0,.bool false,.int .i64 0] := by kernel_rfl
theorem sa68 : structA Tryz.prog 68 = some ([.int .i64 0,.int .i64 0,.int .i64 0,.int .i64 0,.int .i64 0,.bool false,.int .i64 0],[(0,1),(1,1),(2,1),(3,1),(4,1),(5,1),(6,1)]) := by kernel_rfl
theorem kd78 : kindA Tryz.prog 78 = some (some 5) := by kernel_rfl
theorem co78 : Tryz.prog.cellsOf 78 = 5 := by kernel_rfl
theorem by78 : Tryz.prog.bytesOf 78 ≤ 512 := Nat.le_of_ble_eq_true (by kernel_rfl)
theorem inf78 : (Tryz.prog.info? 78).isSome = true := by kernel_rfl
theorem F78_0 : FA Tryz.prog 78 0 0 3 := ⟨by kernel_rfl,by rw [show Tryz.prog.cellsOf 3 = 1 by kernel_rfl];decide,by kernel_rfl⟩
theorem F78_1 : FA Tryz.prog 78 1 1 3 := ⟨by kernel_rfl,by rw [show Tryz.prog.cellsOf 3 = 1 by kernel_rfl];decide,by kernel_rfl⟩
theorem F78_2 : FA Tryz.prog 78 2 2 3 := ⟨by kernel_rfl,by rw [show Tryz.prog.cellsOf 3 = 1 by kernel_rfl];decide,by kernel_rfl⟩
theorem F78_3 : FA Tryz.prog 78 3 3 3 := ⟨by kernel_rfl,by rw [show Tryz.prog.cellsOf 3 = 1 by kernel_rfl];decide,by kernel_rfl⟩
theorem F78_4 : FA Tryz.prog 78 4 4 3 := ⟨by kernel_rfl,by rw [show Tryz.prog.cellsOf 3 = 1 by kernel_rfl];decide,by kernel_rfl⟩
theorem ze78 : zeroA Tryz.prog 78 = some [.int .i64 0,.int .i64 0,.int .i64 0,.int .i64 0,.int .i64 0] := by kernel_rfl
theorem sa78 : structA Tryz.prog 78 = some ([.int .i64 0,.int .i64 0,.int .i64 0,.int .i64 0,.int .i64 0],[(0,1),(1,1),(2,1),(3,1),(4,1)]) := by kernel_rfl
theorem F84_0 : FA Tryz.prog 84 0 0 27 := ⟨by kernel_rfl,by rw [show Tryz.prog.cellsOf 27 = 6 by kernel_rfl];decide,by kernel_rfl⟩
theorem F84_1 : FA Tryz.prog 84 1 6 32 := ⟨by kernel_rfl,by rw [show Tryz.prog.cellsOf 32 = 1 by kernel_rfl];decide,by kernel_rfl⟩
theorem F84_2 : FA Tryz.prog 84 2 7 3 := ⟨by kernel_rfl,by rw [show Tryz.prog.cellsOf 3 = 1 by kernel_rfl];decide,by kernel_rfl⟩
theorem sa84 : structA Tryz.prog 84 = some ([.int .i64 0,.int .i64 0,.int .i64 0,.slice none 0 0,.slice none 0 0,.slice none 0 0,.slice none 0 0,.int .i64 0],[(0,6),(6,1),(7,1)]) := by kernel_rfl
theorem F91_0 : FA Tryz.prog 91 0 0 27 := ⟨by kernel_rfl,by rw [show Tryz.prog.cellsOf 27 = 6 by kernel_rfl];decide,by kernel_rfl⟩
theorem F91_1 : FA Tryz.prog 91 1 6 32 := ⟨by kernel_rfl,by rw [show Tryz.prog.cellsOf 32 = 1 by kernel_rfl];decide,by kernel_rfl⟩
theorem F91_2 : FA Tryz.prog 91 2 7 3 := ⟨by kernel_rfl,by rw [show Tryz.prog.cellsOf 3 = 1 by kernel_rfl];decide,by kernel_rfl⟩
theorem sa91 : structA Tryz.prog 91 = some ([.int .i64 0,.int .i64 0,.int .i64 0,.slice none 0 0,.slice none 0 0,.slice none 0 0,.slice none 0 0,.int .i64 0],[(0,6),(6,1),(7,1)]) := by kernel_rfl
theorem kd110 : kindA Tryz.prog 110 = some (some 2) := by kernel_rfl
theorem F110_0 : FA Tryz.prog 110 0 0 3 := ⟨by kernel_rfl,by rw [show Tryz.prog.cellsOf 3 = 1 by kernel_rfl];decide,by kernel_rfl⟩
theorem F110_1 : FA Tryz.prog 110 1 1 3 := ⟨by kernel_rfl,by rw [show Tryz.prog.cellsOf 3 = 1 by kernel_rfl];decide,by kernel_rfl⟩
theorem sa110 : structA Tryz.prog 110 = some ([.int .i64 0,.int .i64 0],[(0,1),(1,1)]) := by kernel_rfl
theorem kd120 : kindA Tryz.prog 120 = some (some 3) := by kernel_rfl
theorem co120 : Tryz.prog.cellsOf 120 = 3 := by kernel_rfl
theorem by120 : Tryz.prog.bytesOf 120 ≤ 512 := Nat.le_of_ble_eq_true (by kernel_rfl)
theorem inf120 : (Tryz.prog.info? 120).isSome = true := by kernel_rfl
theorem F120_0 : FA Tryz.prog 120 0 0 110 := ⟨by kernel_rfl,by rw [show Tryz.prog.cellsOf 110 = 2 by kernel_rfl];decide,by kernel_rfl⟩
theorem F120_1 : FA Tryz.prog 120 1 2 3 := ⟨by kernel_rfl,by rw [show Tryz.prog.cellsOf 3 = 1 by kernel_rfl];decide,by kernel_rfl⟩
theorem ze120 : zeroA Tryz.prog 120 = some [.int .i64 0,.int .i64 0,.int .i64 0] := by kernel_rfl
theorem sa120 : structA Tryz.prog 120 = some ([.int .i64 0,.int .i64 0,.int .i64 0],[(0,2),(2,1)]) := by kernel_rfl
theorem F122_0 : FA Tryz.prog 122 0 0 22 := ⟨by kernel_rfl,by rw [show Tryz.prog.cellsOf 22 = 1 by kernel_rfl];decide,by kernel_rfl⟩
theorem F122_1 : FA Tryz.prog 122 1 1 3 := ⟨by kernel_rfl,by rw [show Tryz.prog.cellsOf 3 = 1 by kernel_rfl];decide,by kernel_rfl⟩
theorem F122_2 : FA Tryz.prog 122 2 2 3 := ⟨by kernel_rfl,by rw [show Tryz.prog.cellsOf 3 = 1 by kernel_rfl];decide,by kernel_rfl⟩
theorem sa122 : structA Tryz.prog 122 = some ([.slice none 0 0,.int .i64 0,.int .i64 0],[(0,1),(1,1),(2,1)]) := by kernel_rfl
theorem el124 : elA Tryz.prog 124 = some (4,1) := by kernel_rfl
theorem ik143 : intKind Tryz.prog 143 = some .u64 := by kernel_rfl
theorem ik150 : intKind Tryz.prog 150 = some .u64 := by kernel_rfl
theorem sf29 : Tryz.prog.fieldsOf 29 = ([{ name := "Kind",type := 3,offset := 0,embedded := false,tag := "",pkgPath := "",byteOffset := 0 },{ name := "Key",type := 3,offset := 1,embedded := false,tag := "",pkgPath := "",byteOffset := 8 },{ name := "Ch",type := 3,offset := 2,embedded := false,tag := "",pkgPath := "",byteOffset := 16 },{ name := "To",type := 3,offset := 3,embedded := false,tag := "",pkgPath := "",byteOffset := 24 },{ name := "Amt",type := 3,offset := 4,embedded := false,tag := "",pkgPath := "",byteOffset := 32 },{ name := "Fee",type := 3,offset := 5,embedded := false,tag := "",pkgPath := "",byteOffset := 40 },{ name := "Yes",type := 4,offset := 6,embedded := false,tag := "",pkgPath := "",byteOffset := 48 }] : List Field).toArray := by unfold Program.fieldsOf;rw [Tryz.underlying29]
theorem su29 : Tryz.prog.underlying 29 = some (.struct (Tryz.prog.fieldsOf 29)) := by rw [sf29];exact Tryz.underlying29
theorem sh29 : Tryz.prog.stoodInHeld 29 = false := by kernel_rfl
theorem sg29 : Tryz.prog.eqGuardType Tryz.prog.depth 29 = false := by kernel_rfl
theorem sf110 : Tryz.prog.fieldsOf 110 = ([{ name := "Kind",type := 3,offset := 0,embedded := false,tag := "",pkgPath := "",byteOffset := 0 },{ name := "Ch",type := 3,offset := 1,embedded := false,tag := "",pkgPath := "",byteOffset := 8 }] : List Field).toArray := by unfold Program.fieldsOf;rw [Tryz.underlying110]
theorem su110 : Tryz.prog.underlying 110 = some (.struct (Tryz.prog.fieldsOf 110)) := by rw [sf110];exact Tryz.underlying110
theorem sh110 : Tryz.prog.stoodInHeld 110 = false := by kernel_rfl
theorem sg110 : Tryz.prog.eqGuardType Tryz.prog.depth 110 = false := by kernel_rfl
end Go.Proofs.YtogkbcmfoalpiaaGreat.ty

namespace Go.Proofs.YtogkbcmfoalpiaaGreat
open Go.RowKit
set_option maxHeartbeats 16000000
set_option maxRecDepth 100000
set_option linter.unusedSimpArgs false
set_option linter.unusedVariables false
theorem l01New_e (code : List Int) (hm : code.length ≤ 1048576) : GX Tryz.prog 32 [.p (.lst 5 1 (rowsOf encU8 code))] [] (fun x ob => ∃ h,x = .ptr 31 0 0 ∧ ob = [(31,.box 122 none [.p (.lst 5 1 (rowsOf encU8 code)),int ((0 : Nat) : Int),int h])]) := by
 refine GX.intro (rs := [.tmp 2]) Tryz.func32 rfl Tryz.ntmps32 (Nat.le_of_ble_eq_true rfl) ⟨rfl,trivial⟩ ?_
 intro L O w0
 refine sL<|laV Z<|nA<|lmL Z<|lnI ty.sl22 Z ?_
 refine lhI rfl ⟨rfl,fits_i64 (by rw [length_rowsOf];unfold i64;omega)⟩<|laI Z<|nG<|aS<|sL<|laI Z<|nG<|aB ?_
 refine aW [0,2] [] (D := Nat × Int) (fun d => [(4,int (d.1 : Int)),(3,int d.2)]) (fun d => []) (fun d => d.1 ≤ code.length) (fun d => code.length - d.1) ((0,_)) (Nat.zero_le _) ⟨rfl,rfl,trivial⟩ trivial ?_
 intro ⟨j,q⟩ hI
 replace hI : j ≤ code.length := hI
 refine aS<|sL<|lmI Z<|lmL Z<|lnI ty.sl22 Z<|lbB Z<|lmB Z ?_
 refine AL.bool (t := 12) rfl ?_ ?_
 ·intro h1
  refine lmI Z<|lbB Z<|lkB Z<|nG ?_
  refine AW.cond rfl ?_ ?_
  ·intro h2
   refine aK<|gT<|aS<|aB<|aL<|lmI Z<|lq (rd (x := vI _ _) (rd_val Z Z Z (run_mulw Z) Z) Z)<|lmL Z<|lmI Z ?_
   have hj : j < code.length := by have h := h1;rw [length_rowsOf] at h;simp only [decide_eq_true_eq,Bool.and_eq_true] at h;omega
   refine li j ty.el22 Z (row_map hj)<|lrI ty.kd5 Z<|lq (rd (x := vI _ _) (rd_conv Z ty.ik5 ty.ik3 Z) Z)<|lq (rd (x := vI _ _) (rd_val Z Z Z (run_addw Z) Z) Z)<|lq (rd (x := vI _ _) (rd_val Z Z Z (run_addw Z) Z) Z)<|lq (rd (x := vI _ _) (rd_val Z Z Z (run_and Z) Z) Z)<|laI Z<|lN<|gB<|gT<|aL<|lmI Z<|lgI Z<|laI Z<|nG ?_
   refine ⟨(j + 1,_),hj,by show code.length - (j + 1) < code.length - j;omega,⟨(iq rfl),rfl,trivial⟩,trivial,rfl,rfl⟩
  ·intro h2
   refine aE<|eT<|eT<|eB<|gA<|lmL Z<|lmI Z<|lT [2,28,29] [] ?_
   refine lq (rd (x := .agg [vL _ _ _,vI _ _,vI _ _]) (rd_build Z ty.sa122 Z Z Z) Z)<|lst (zX 31 Z) Z<|laP Z<|nG<|aR ?_
   refine end_xret (.ptr 31 0 0) [(31,.box 122 none [.p (.lst 5 1 (rowsOf encU8 code)),int ((0 : Nat) : Int),int q])] ?_ rfl ⟨rfl,trivial⟩
   exact ⟨_,rfl,rfl⟩
 ·intro h1
  refine lno Z<|lno Z<|lkZ Z<|nG<|aN Z<|aE<|eT<|eT<|eB<|gA<|lmL Z<|lmI Z<|lq (rd (x := .agg [vL _ _ _,vI _ _,vI _ _]) (rd_build Z ty.sa122 Z Z Z) Z)<|lst (zX 31 Z) Z<|laP Z<|nG<|aR ?_
  refine end_xret (.ptr 31 0 0) [(31,.box 122 none [.p (.lst 5 1 (rowsOf encU8 code)),int ((0 : Nat) : Int),int q])] ?_ rfl ⟨rfl,trivial⟩
  exact ⟨_,rfl,rfl⟩
theorem l01Byte_e (g : Value) (code : List Int) (i : Nat) (h : Int) (hc : CurOk code i) : GX Tryz.prog 93 [.ptr 0 0 0] [(0,curO g code i h)] (DrR g code (DrI fun n => 0 ≤ n ∧ n ≤ 255)) := by
 refine GX.intro (rs := [.tmp 2]) Tryz.func93 rfl Tryz.ntmps93 (Nat.le_of_ble_eq_true rfl) ⟨rfl,trivial⟩ ?_
 intro L O w0
 refine sL<|laI Z<|nA<|lmP Z<|lmP Z<|lc Z<|lf 2 ty.F122_2 Z<|loI ty.kd3 Z<|lq (rd (x := vI _ _) (rd_val Z Z Z (run_mulw Z) Z) Z)<|lq (rd (x := vI _ _) (rd_val Z Z Z (run_addw Z) Z) Z)<|lc Z<|lf 2 ty.F122_2 Z<|lst (zB 0 ty.co3 ty.inf3 Z) Z<|nG<|aS<|aF []<|pq 0 (qmP Z)<|pq 1 (qc Z)<|pq 2 (qf 2 ty.F122_2 Z)<|sq 3 (roI ty.kd3 Z) ?_
 refine sq 4 (rhI rfl ⟨rfl,by decide,by decide⟩)<|vq 5 (rmP rfl)<|vq 6 (rc rfl)<|vq 7 (rf 2 ty.F122_2 rfl)<|vq 8 (roI ty.kd3 rfl) ?_
 refine vq 9 (rhI rfl ⟨rfl,by decide,by decide⟩)<|vq 10 (rd (x := vI _ _) (rd_val rfl rfl rfl (run_xor rfl) rfl) rfl)<|vq 11 (rd (x := vI _ _) (rd_val rfl rfl rfl (run_and rfl) rfl) rfl)<|vq 12 (raI rfl)<|fD<|gT<|aS<|aS<|aF []<|pq 0 (qmP rfl)<|pq 1 (qc rfl)<|pq 2 (qf 1 ty.F122_1 rfl)<|sq 3 (roI ty.kd3 rfl)<|vq 4 (rmP rfl)<|vq 5 (rc rfl)<|fT [0,2,3,28,30] [0] ?_
 refine vq 6 (rf 0 ty.F122_0 Z)<|vq 7 (roL ty.kd22 Z)<|vq 8 (rnI ty.sl22 Z)<|vq 9 (rbB Z)<|fD<|gT ?_
 refine AW.cond rfl ?_ ?_
 ·intro h1
  refine aS<|aF []<|pq 0 (qmX (vI _ _) Z)<|pq 1 (qmP Z)<|pq 2 (qc Z)<|pq 3 (qf 0 ty.F122_0 Z)<|sq 4 (roL ty.kd22 Z)<|vq 5 (rmP Z)<|vq 6 (rc Z)<|vq 7 (rf 1 ty.F122_1 Z)<|vq 8 (roI ty.kd3 Z) ?_
  have hi : i < code.length := by have h := h1;rw [length_rowsOf] at h;simp only [decide_eq_true_eq] at h;omega
  refine vq 9 (ri i ty.el22 Z (row_map hi))<|vq 10 (rrI ty.kd5 Z)<|vq 11 (rd (x := vI _ _) (rd_conv Z ty.ik5 ty.ik3 Z) Z)<|vq 12 (rd (x := vI _ _) (rd_val Z Z Z (run_addw Z) Z) Z)<|vq 13 (rd (x := vI _ _) (rd_val Z Z Z (run_and Z) Z) Z)<|vq 14 (raI Z)<|fD<|gT<|aL<|lmP Z<|lmP Z<|lc Z<|lf 1 ty.F122_1 Z<|loI ty.kd3 Z ?_
  refine lhI rfl ⟨rfl,fits_i64 (by unfold i64;have := hc.2;omega)⟩<|lc Z<|lf 1 ty.F122_1 Z<|lst (zB 0 ty.co3 ty.inf3 rfl) Z<|lT [2,3] [0] ?_
  refine nA<|lmI Z<|laI Z<|nG<|aR ?_
  refine end_xret (int _) [(0,curO g code (i + 1) _)] ?_ rfl ⟨(congrArg (fun z : Int => AO.box 122 (some g) [.p (.lst 5 1 (rowsOf encU8 code)),int z,int _]) (by omega)),trivial⟩
  exact ⟨i + 1,_,⟨hi,hc.2⟩,⟨_,and_bd _ 255 (by decide),rfl⟩,rfl⟩
 ·intro h1
  refine aK<|gA<|lmI Z<|laI Z<|nG<|aR ?_
  refine end_xret (int _) [(0,curO g code i _)] ?_ rfl ⟨rfl,trivial⟩
  exact ⟨i,_,hc,⟨_,and_bd _ 255 (by decide),rfl⟩,rfl⟩
theorem l01Below_e (g : Value) (code : List Int) (i : Nat) (h m : Int) (hc : CurOk code i) : GX Tryz.prog 35 [.ptr 0 0 0,int m] [(0,curO g code i h)] (DrR g code (DrI fun n => 0 ≤ n ∧ (n < m ∨ m ≤ 0 ∧ n = 0))) := by
 refine GX.intro (rs := [.tmp 4]) Tryz.func35 rfl Tryz.ntmps35 (Nat.le_of_ble_eq_true rfl) ⟨rfl,trivial⟩ ?_
 intro L O w0
 refine sL<|laI Z<|nG<|aS<|sL<|lmI Z<|lbB Z<|nG ?_
 refine AW.cond rfl ?_ ?_
 ·intro h1
  refine sL<|laI Z<|nG<|aR<|rT ?_
  have hm0 : m ≤ 0 := by have h := h1;simpa using h
  refine end_xret (int 0) [(0,curO g code i h)] ?_ rfl ⟨rfl,trivial⟩
  exact ⟨i,h,hc,⟨0,⟨by omega,.inr ⟨hm0,rfl⟩⟩,rfl⟩,rfl⟩
 ·intro h1
  refine aK<|gT<|aS<|sL<|lmI Z<|lbB Z<|nG ?_
  refine AW.cond rfl ?_ ?_
  ·intro h2
   refine sL<|lmP Z ?_
   refine lX [(0,0)] [] [0] Tryz.func93 (l01Byte_e g code _ _ hc) (⟨⟨0,rfl,rfl⟩,trivial⟩) (pins_cur) Z ?_
   intro xz1 oz1 hz1
   obtain ⟨i1,q1,hc1,⟨n1,⟨na1,nb1⟩,rfl⟩,rfl⟩ := hz1
   refine lmI rfl ?_
   refine lhI rfl ⟨rfl,by have h := h1;simp only [decide_eq_false_iff_not] at h;omega⟩<|laI Z<|nG<|aR<|rT ?_
   have hm1 : 1 ≤ m := by have h := h1;simp only [decide_eq_false_iff_not] at h;omega
   obtain ⟨z1,z2⟩ := tmod_bd (n := n1) (m := m) (by omega) hm1
   refine end_xret (int (n1.tmod m)) [(0,curO g code i1 q1)] ?_ rfl ⟨rfl,trivial⟩
   exact ⟨i1,q1,hc1,⟨_,⟨z1,.inl z2⟩,rfl⟩,rfl⟩
  ·intro h2
   refine aK<|gA<|lmP Z ?_
   refine lX [(0,0)] [] [0] Tryz.func93 (l01Byte_e g code _ _ hc) (⟨⟨0,rfl,rfl⟩,trivial⟩) (pins_cur) Z ?_
   intro xz2 oz2 hz2
   obtain ⟨i2,q2,hc2,⟨n2,⟨na2,nb2⟩,rfl⟩,rfl⟩ := hz2
   refine laI Z<|nA<|lmP Z ?_
   refine lX [(0,0)] [] [0] Tryz.func93 (l01Byte_e g code _ _ hc2) (⟨⟨0,rfl,rfl⟩,trivial⟩) (pins_cur) Z ?_
   intro xz3 oz3 hz3
   obtain ⟨i3,q3,hc3,⟨n3,⟨na3,nb3⟩,rfl⟩,rfl⟩ := hz3
   refine lT [0,1,4,5,20] [0] ?_
   refine laI Z<|nA<|lmP Z ?_
   refine lX [(0,0)] [] [0] Tryz.func93 (l01Byte_e g code _ _ hc3) (⟨⟨0,rfl,rfl⟩,trivial⟩) (pins_cur) Z ?_
   intro xz4 oz4 hz4
   obtain ⟨i4,q4,hc4,⟨n4,⟨na4,nb4⟩,rfl⟩,rfl⟩ := hz4
   refine laI Z<|nA<|lmP Z ?_
   refine lX [(0,0)] [] [0] Tryz.func93 (l01Byte_e g code _ _ hc4) (⟨⟨0,rfl,rfl⟩,trivial⟩) (pins_cur) Z ?_
   intro xz5 oz5 hz5
   obtain ⟨i5,q5,hc5,⟨n5,⟨na5,nb5⟩,rfl⟩,rfl⟩ := hz5
   refine laI Z<|nA<|lmI Z<|lgI Z<|lmI Z<|lgI Z<|lgI Z<|lmI Z<|lgI Z<|lgI Z<|lmI Z<|lgI Z<|lmI Z ?_
   refine lhI rfl ⟨rfl,by have h := h1;simp only [decide_eq_false_iff_not] at h;omega⟩<|laI Z<|nG<|aR ?_
   have hm1 : 1 ≤ m := by have h := h1;simp only [decide_eq_false_iff_not] at h;omega
   obtain ⟨z1,z2⟩ := tmod_bd (n := (n2 * 16777216 + n3 * 65536 + n4 * 256 + n5)) (m := m) (by omega) hm1
   refine end_xret (int ((n2 * 16777216 + n3 * 65536 + n4 * 256 + n5).tmod m)) [(0,curO g code i5 q5)] ?_ rfl ⟨rfl,trivial⟩
   exact ⟨i5,q5,hc5,⟨_,⟨z1,.inl z2⟩,rfl⟩,rfl⟩
theorem shl_bd {n : Int} (h0 : 0 ≤ n) (h1 : n < 51) : 0 < 1 * (2 : Int) ^ n.toNat ∧ 1 * (2 : Int) ^ n.toNat ≤ 1125899906842624 := by
  obtain ⟨k,rfl⟩ := Int.eq_ofNat_of_zero_le h0
  have hk : k < 51 := by omega
  have e : ((k : Int)).toNat = k := Int.toNat_natCast k
  rw [e,Int.one_mul]
  refine ⟨Int.pow_pos (by decide),?_⟩
  have h2 : (2 : Nat) ^ k ≤ 2 ^ 50 := Nat.pow_le_pow_right (by decide) (by omega)
  have h3 : ((2 ^ k : Nat) : Int) ≤ ((2 ^ 50 : Nat) : Int) := Int.ofNat_le.2 h2
  rw [Int.natCast_pow] at h3
  have h4 : ((2 ^ 50 : Nat) : Int) = 1125899906842624 := by decide
  omega
theorem l01Raw_e (g : Value) (code : List Int) (i : Nat) (h : Int) (hc : CurOk code i) : GX Tryz.prog 90 [.ptr 0 0 0] [(0,curO g code i h)] (DrR g code (DrI i64)) := by
 refine GX.intro (rs := [.tmp 2]) Tryz.func90 rfl Tryz.ntmps90 (Nat.le_of_ble_eq_true rfl) ⟨rfl,trivial⟩ ?_
 intro L O w0
 refine sL<|laI Z<|nA<|lmP Z ?_
 refine lX [(0,0)] [] [0] Tryz.func35 (l01Below_e g code _ _ _ hc) (⟨⟨0,rfl,rfl⟩,trivial⟩) (pins_cur) Z ?_
 intro xz1 oz1 hz1
 obtain ⟨i1,q1,hc1,⟨n1,⟨na1,nb1⟩,rfl⟩,rfl⟩ := hz1
 refine laI Z<|nG<|aS<|sL<|lmI Z<|lbB Z<|nG ?_
 refine AW.cond rfl ?_ ?_
 ·intro h1
  refine sL<|lmP Z ?_
  refine lX [(0,0)] [] [0] Tryz.func35 (l01Below_e g code _ _ _ hc1) (⟨⟨0,rfl,rfl⟩,trivial⟩) (pins_cur) Z ?_
  intro xz2 oz2 hz2
  obtain ⟨i2,q2,hc2,⟨n2,⟨na2,nb2⟩,rfl⟩,rfl⟩ := hz2
  refine lgI Z<|laI Z<|nG<|aR<|rT ?_
  refine end_xret (int _) [(0,curO g code i2 q2)] ?_ rfl ⟨rfl,trivial⟩
  exact ⟨i2,q2,hc2,⟨_,by unfold i64;omega,rfl⟩,rfl⟩
 ·intro h1
  refine aK<|gT<|aS<|sL<|lmI Z<|lbB Z<|nG ?_
  refine AW.cond rfl ?_ ?_
  ·intro h2
   refine sL<|lmP Z ?_
   refine lX [(0,0)] [] [0] Tryz.func35 (l01Below_e g code _ _ _ hc1) (⟨⟨0,rfl,rfl⟩,trivial⟩) (pins_cur) Z ?_
   intro xz3 oz3 hz3
   obtain ⟨i3,q3,hc3,⟨n3,⟨na3,nb3⟩,rfl⟩,rfl⟩ := hz3
   refine lT [0,2,3,14] [0] ?_
   refine lgI Z<|laI Z<|nG<|aR<|rT ?_
   refine end_xret (int _) [(0,curO g code i3 q3)] ?_ rfl ⟨rfl,trivial⟩
   exact ⟨i3,q3,hc3,⟨_,by unfold i64;omega,rfl⟩,rfl⟩
  ·intro h2
   refine aK<|gT<|aS<|sL<|lmI Z<|lbB Z<|nG ?_
   refine AW.cond rfl ?_ ?_
   ·intro h3
    refine sL<|lmP Z ?_
    refine lX [(0,0)] [] [0] Tryz.func35 (l01Below_e g code _ _ _ hc1) (⟨⟨0,rfl,rfl⟩,trivial⟩) (pins_cur) Z ?_
    intro xz4 oz4 hz4
    obtain ⟨i4,q4,hc4,⟨n4,⟨na4,nb4⟩,rfl⟩,rfl⟩ := hz4
    refine lgI Z<|laI Z<|nG<|aR<|rT ?_
    refine end_xret (int _) [(0,curO g code i4 q4)] ?_ rfl ⟨rfl,trivial⟩
    exact ⟨i4,q4,hc4,⟨_,by unfold i64;omega,rfl⟩,rfl⟩
   ·intro h3
    refine aK<|gT<|aS<|sL<|lmI Z<|lbB Z<|nG ?_
    refine AW.cond rfl ?_ ?_
    ·intro h4
     refine sL<|lmP Z ?_
     refine lX [(0,0)] [] [0] Tryz.func35 (l01Below_e g code _ _ _ hc1) (⟨⟨0,rfl,rfl⟩,trivial⟩) (pins_cur) Z ?_
     intro xz5 oz5 hz5
     obtain ⟨i5,q5,hc5,⟨n5,⟨na5,nb5⟩,rfl⟩,rfl⟩ := hz5
     refine lgI Z<|laI Z<|nG<|aR<|rT ?_
     refine end_xret (int _) [(0,curO g code i5 q5)] ?_ rfl ⟨rfl,trivial⟩
     exact ⟨i5,q5,hc5,⟨_,by unfold i64;omega,rfl⟩,rfl⟩
    ·intro h4
     refine aK<|gT<|aS<|sL<|lmI Z<|lbB Z<|nG ?_
     refine AW.cond rfl ?_ ?_
     ·intro h5
      refine sL<|lmP Z ?_
      refine lX [(0,0)] [] [0] Tryz.func35 (l01Below_e g code _ _ _ hc1) (⟨⟨0,rfl,rfl⟩,trivial⟩) (pins_cur) Z ?_
      intro xz6 oz6 hz6
      obtain ⟨i6,q6,hc6,⟨n6,⟨na6,nb6⟩,rfl⟩,rfl⟩ := hz6
      refine lT [0,2,3,29] [0] ?_
      refine lgI Z<|laI Z<|nG<|aR<|rT ?_
      refine end_xret (int _) [(0,curO g code i6 q6)] ?_ rfl ⟨rfl,trivial⟩
      exact ⟨i6,q6,hc6,⟨_,by unfold i64;omega,rfl⟩,rfl⟩
     ·intro h5
      refine aK<|gT<|aS<|sL<|lmI Z<|lbB Z<|nG ?_
      refine AW.cond rfl ?_ ?_
      ·intro h6
       refine sL<|lmP Z ?_
       refine lX [(0,0)] [] [0] Tryz.func35 (l01Below_e g code _ _ _ hc1) (⟨⟨0,rfl,rfl⟩,trivial⟩) (pins_cur) Z ?_
       intro xz7 oz7 hz7
       obtain ⟨i7,q7,hc7,⟨n7,⟨na7,nb7⟩,rfl⟩,rfl⟩ := hz7
       refine lgI Z<|laI Z<|nG<|aR<|rT ?_
       refine end_xret (int _) [(0,curO g code i7 q7)] ?_ rfl ⟨rfl,trivial⟩
       exact ⟨i7,q7,hc7,⟨_,by unfold i64;omega,rfl⟩,rfl⟩
      ·intro h6
       refine aK<|gT<|aS<|sL<|lmI Z<|lbB Z<|nG ?_
       refine AW.cond rfl ?_ ?_
       ·intro h7
        refine sL<|lmP Z ?_
        refine lX [(0,0)] [] [0] Tryz.func35 (l01Below_e g code _ _ _ hc1) (⟨⟨0,rfl,rfl⟩,trivial⟩) (pins_cur) Z ?_
        intro xz8 oz8 hz8
        obtain ⟨i8,q8,hc8,⟨n8,⟨na8,nb8⟩,rfl⟩,rfl⟩ := hz8
        obtain ⟨hs1,hs2⟩ := shl_bd (n := n8) na8 (by omega)
        refine lhI rfl ⟨rfl,na8,by omega,by show IntKind.i64.wrap _ = _;exact fits_i64 (by unfold i64;omega)⟩<|laI Z<|nG<|aR<|rT ?_
        refine end_xret (int _) [(0,curO g code i8 q8)] ?_ rfl ⟨rfl,trivial⟩
        exact ⟨i8,q8,hc8,⟨_,by unfold i64;omega,rfl⟩,rfl⟩
       ·intro h7
        refine aK<|gA<|lmP Z ?_
        refine lX [(0,0)] [] [0] Tryz.func35 (l01Below_e g code _ _ _ hc1) (⟨⟨0,rfl,rfl⟩,trivial⟩) (pins_cur) Z ?_
        intro xz9 oz9 hz9
        obtain ⟨i9,q9,hc9,⟨n9,⟨na9,nb9⟩,rfl⟩,rfl⟩ := hz9
        refine lT [0,2,42] [0] ?_
        refine lmP rfl ?_
        refine lX [(0,0)] [] [0] Tryz.func35 (l01Below_e g code _ _ _ hc9) (⟨⟨0,rfl,rfl⟩,trivial⟩) (pins_cur) Z ?_
        intro xz10 oz10 hz10
        obtain ⟨i10,q10,hc10,⟨n10,⟨na10,nb10⟩,rfl⟩,rfl⟩ := hz10
        have hm1 : 0 ≤ n9 * n10 := Int.mul_nonneg na9 na10
        have hm2 : n9 * n10 ≤ 1000000 * 1000000 := Int.mul_le_mul (by omega) (by omega) na10 (by decide)
        refine lgI Z<|laI Z<|nG<|aR ?_
        refine end_xret (int _) [(0,curO g code i10 q10)] ?_ rfl ⟨rfl,trivial⟩
        exact ⟨i10,q10,hc10,⟨_,by unfold i64;omega,rfl⟩,rfl⟩

def lessA (a b : Acc) : Bool := decide (a.kind < b.kind) || ((a.kind == b.kind) && decide (a.ch < b.ch))
def rangeA (n : Int) : Bool := inB n (-1125899906842624) 1125899906842624
theorem dec_beq (x y : Int) : decide (x = y) = (x == y) := by by_cases h : x = y <;> simp [h]
def mergeL : List Line → List Line → Option (List Line)
  | [],b => some b
  | x :: a,[] => some (x :: a)
  | x :: a,y :: b =>
    if lessA x.acc y.acc then (mergeL a (y :: b)).map (x :: ·)
    else if lessA y.acc x.acc then (mergeL (x :: a) b).map (y :: ·)
    else if rangeA (x.amt + y.amt) then (if x.amt + y.amt = 0 then mergeL a b else (mergeL a b).map (⟨x.acc,x.amt + y.amt⟩ :: ·))
    else none
termination_by a b => a.length + b.length
theorem mergeL_nil (b : List Line) : mergeL [] b = some b := by unfold mergeL;rfl
theorem mergeL_nil2 : ∀ (a : List Line),mergeL a [] = some a
  | [] => by unfold mergeL;rfl
  | x :: a => by unfold mergeL;rfl
theorem mergeL_lt {x y : Line} {a b : List Line} (h : lessA x.acc y.acc = true) : mergeL (x :: a) (y :: b) = (mergeL a (y :: b)).map (x :: ·) := by
  conv => lhs;unfold mergeL
  rw [if_pos h]
theorem mergeL_gt {x y : Line} {a b : List Line} (h : lessA x.acc y.acc = false) (h2 : lessA y.acc x.acc = true) : mergeL (x :: a) (y :: b) = (mergeL (x :: a) b).map (y :: ·) := by
  conv => lhs;unfold mergeL
  rw [if_neg (by simp [h]),if_pos h2]
theorem mergeL_bad {x y : Line} {a b : List Line} (h : lessA x.acc y.acc = false) (h2 : lessA y.acc x.acc = false) (h3 : rangeA (x.amt + y.amt) = false) : mergeL (x :: a) (y :: b) = none := by
  unfold mergeL
  rw [if_neg (by simp [h]),if_neg (by simp [h2]),if_neg (by simp [h3])]
theorem mergeL_zero {x y : Line} {a b : List Line} (h : lessA x.acc y.acc = false) (h2 : lessA y.acc x.acc = false) (h3 : rangeA (x.amt + y.amt) = true) (h4 : x.amt + y.amt = 0) : mergeL (x :: a) (y :: b) = mergeL a b := by
  conv => lhs;unfold mergeL
  rw [if_neg (by simp [h]),if_neg (by simp [h2]),if_pos h3,if_pos h4]
theorem mergeL_sum {x y : Line} {a b : List Line} (h : lessA x.acc y.acc = false) (h2 : lessA y.acc x.acc = false) (h3 : rangeA (x.amt + y.amt) = true) (h4 : ¬ x.amt + y.amt = 0) : mergeL (x :: a) (y :: b) = (mergeL a b).map (⟨x.acc,x.amt + y.amt⟩ :: ·) := by
  conv => lhs;unfold mergeL
  rw [if_neg (by simp [h]),if_neg (by simp [h2]),if_pos h3,if_neg h4]
theorem map_app1 {o : List Line} {x : Line} {m : Option (List Line)} : (m.map (x :: ·)).map (o ++ ·) = m.map ((o ++ [x]) ++ ·) := by cases m <;> simp
theorem rowsOf_app {α : Type} (enc : α → List Value) (xs ys : List α) : rowsOf enc (xs ++ ys) = rowsOf enc xs ++ rowsOf enc ys := List.map_append
theorem take_rows {α : Type} {enc : α → List Value} {x : α} {xs : List α} : ((rowsOf enc (x :: xs)).take (rowsOf enc (x :: xs)).length).drop 1 = rowsOf enc xs := by rw [List.take_length];rfl
def mgR (a b : List Line) : AV → List (Nat × AO) → Prop := fun x ob1 => match mergeL a b with
  | some l => x = .tup [.own 50,boo true] ∧ ob1 = [(50,.arr 120 3 (rowsOf encLine l))]
  | none => x = .tup [.p (.v (.slice none 0 0)),boo false] ∧ ob1 = []
theorem in_e (a b c : Int) : GC Tryz.prog 63 [int a,int b,int c] [] (boo (inB a b c)) [] := by
 refine gi 6 Tryz.func63 rfl Tryz.ntmps63 rfl ?_
 intro L O w0
 refine sL<|laZ Z<|nA<|lmI Z<|lmI Z<|lbB Z<|lmB Z ?_
 refine AL.bool (t := 10) rfl ?_ ?_
 ·intro h1
  refine lmI Z<|lmI Z<|lbB Z<|lkB Z<|laB Z<|nG<|aR ?_
  refine eBo trivial ?_
  first | rfl | (simp_all [inB];done) | (simp_all [inB];omega)
 ·intro h1
  refine lno Z<|lno Z<|lno Z<|lkZ Z<|laZ Z<|nG<|aR ?_
  refine eBo trivial ?_
  first | rfl | (simp_all [inB];done) | (simp_all [inB];omega)
theorem lessA_e (a b : Acc) : GC Tryz.prog 121 [.agg [int a.kind,int a.ch],.agg [int b.kind,int b.ch]] [] (boo (lessA a b)) [] := by
 refine gi 4 Tryz.func121 rfl Tryz.ntmps121 rfl ?_
 intro L O w0
 refine sL<|lst (zX 2002 Z) Z<|lst (zX 2003 Z) Z<|laZ Z<|nA<|lf 0 ty.F110_0 Z<|loI ty.kd3 Z<|lf 0 ty.F110_0 Z<|loI ty.kd3 Z<|lbB Z<|lmB Z ?_
 refine AL.bool (t := 10) rfl ?_ ?_
 ·intro h1
  refine lno Z<|lno Z<|lno Z<|lno Z<|lno Z<|lno Z<|lno Z<|lno Z<|lno Z<|lno Z<|lno Z<|lno Z<|lkT Z<|laT Z<|nG<|aR ?_
  refine eBo trivial ?_
  unfold lessA;simp_all
 ·intro h1
  refine lf 0 ty.F110_0 Z<|loI ty.kd3 Z<|lf 0 ty.F110_0 Z<|loI ty.kd3 Z<|lbB Z<|lmB Z ?_
  refine AL.bool (t := 16) rfl ?_ ?_
  ·intro h2
   refine lf 1 ty.F110_1 Z<|loI ty.kd3 Z<|lf 1 ty.F110_1 Z<|loI ty.kd3 Z<|lbB Z<|lkB Z<|lkB Z<|laB Z<|nG<|aR ?_
   refine eBo trivial ?_
   unfold lessA;simp_all
  ·intro h2
   refine lno Z<|lno Z<|lno Z<|lno Z<|lno Z<|lkZ Z<|lkZ Z<|laZ Z<|nG<|aR ?_
   refine eBo trivial ?_
   unfold lessA;simp_all
theorem merged_e (a b : List Line) (hn : a.length + b.length ≤ 1000000) (ha : ∀ z ∈ a,rangeA z.amt = true) (hb : ∀ z ∈ b,rangeA z.amt = true) : GX Tryz.prog 89 [.p (.lst 120 3 (rowsOf encLine a)),.p (.lst 120 3 (rowsOf encLine b))] [] (mgR a b) := by
 refine GX.intro (rs := [.tmp 4,.tmp 5]) Tryz.func89 rfl Tryz.ntmps89 (Nat.le_of_ble_eq_true rfl) ⟨rfl,rfl,trivial⟩ ?_
 intro L O w0
 refine sL<|laV Z<|laZ Z<|nA<|laV Z<|nG<|aS<|aB ?_
 refine AW.adoptT 50 6 120 3 rfl ?_
 refine aW [4,5] [] (D := List Line × List Line × List Line) (fun d => [(0,.p (.lst 120 3 (rowsOf encLine d.1))),(1,.p (.lst 120 3 (rowsOf encLine d.2.1))),(6,.own 50)]) (fun d => [(50,.arr 120 3 (rowsOf encLine d.2.2))]) (fun d => (mergeL d.1 d.2.1).map (d.2.2 ++ ·) = mergeL a b ∧ d.2.2.length + d.1.length + d.2.1.length ≤ a.length + b.length ∧ (∀ z ∈ d.1,rangeA z.amt = true) ∧ ∀ z ∈ d.2.1,rangeA z.amt = true) (fun d => d.1.length + d.2.1.length) ((a,b,[])) (⟨by cases mergeL a b <;> simp,by simp,ha,hb⟩) ⟨rfl,rfl,rfl,trivial⟩ ⟨rfl,trivial⟩ ?_
 intro d hI
 obtain ⟨a',b',o⟩ := d
 obtain ⟨hI,hlen,hra,hrb⟩ := hI
 dsimp only at hI hlen hra hrb ⊢
 rcases a' with _ | ⟨x,a2⟩ <;> rcases b' with _ | ⟨y,b2⟩
 ·skip
  refine aS<|sL<|lmL Z<|lnI ty.sl32 Z<|lbB Z<|lsB 10 false rfl (by first | (simp [rowsOf];done) | (simp [rowsOf];omega))<|lmZ Z<|lmL Z<|lnI ty.sl32 Z<|lbB Z<|lsB 14 false rfl (by first | (simp [rowsOf];done) | (simp [rowsOf];omega))<|lkZ Z<|nG<|aN Z<|aE<|eT<|eT<|eB<|gA<|lmO Z<|laO Z<|laT Z<|nG<|aR ?_
  have hm : mergeL a b = some o := by rw [← hI,mergeL_nil];simp
  refine end_xret (.tup [.own 50,boo true]) [(50,.arr 120 3 (rowsOf encLine o))] ?_ rfl ⟨rfl,trivial⟩
  unfold mgR;rw [hm];exact ⟨rfl,rfl⟩
 ·skip
  refine aS<|sL<|lmL Z<|lnI ty.sl32 Z<|lbB Z<|lsB 10 false rfl (by first | (simp [rowsOf];done) | (simp [rowsOf];omega))<|lmZ Z<|lmL Z<|lnI ty.sl32 Z<|lbB Z<|lsB 14 true rfl (by first | (simp [rowsOf];done) | (simp [rowsOf];omega))<|lkT Z<|nG<|aY Z<|aK<|gT<|aB<|aB<|aS<|aG 19 []<|yq 0 (rmL rfl)<|yq 1 (rnI ty.sl32 rfl)<|yq 2 (rbB rfl)<|gsB 46 false rfl (by first | (simp [rowsOf];done) | (simp [rowsOf];omega))<|yq 3 (rmZ rfl)<|yq 4 (rmL rfl)<|yq 5 (rnI ty.sl32 rfl)<|yq 6 (rbB rfl) ?_
  refine gsB 50 false rfl (by first | (simp [rowsOf];done) | (simp [rowsOf];omega))<|yq 7 (rmZ rfl)<|gX [0,1,4,5,6,47,51] [50] ?_
  refine tno 8 Z<|tno 9 Z<|tno 10 Z<|tno 11 Z<|yno 12 Z<|yno 13 Z<|yno 14 Z<|yno 15 Z<|yno 16 Z<|yq 17 (rkZ rfl)<|yq 18 (rkZ rfl)<|yq 19 (raZ rfl)<|gD<|gT<|aN Z<|aS<|aG 14 []<|yq 0 (rmL rfl)<|yq 1 (rnI ty.sl32 rfl)<|yq 2 (rbB rfl)<|gsB 74 true rfl (by first | (simp [rowsOf];done) | (simp [rowsOf];omega))<|yq 3 (rmT rfl)<|tno 4 Z<|tno 5 Z<|tno 6 Z<|tno 7 Z<|yno 8 Z<|yno 9 Z<|yno 10 Z<|yno 11 rfl ?_
  refine yno 12 Z<|yq 13 (rkT Z)<|yq 14 (raT Z)<|gD<|gT<|aY Z<|sL<|lmO Z<|lmL Z<|li 0 ty.el32 Z (Z)<|lrX (.agg [vI _ _,vI _ _,vI _ _]) ty.kd120 Z<|lst (zS 2090 (rowsOf encLine [y]) ty.el32 ty.ze120 Z) Z<|lT [0,1,4,5,6,86,90] [50,2090] ?_
  refine lst (zP 50 ty.el32 ty.ze120 ty.by120 Z (Src.own Z Z)) Z<|laO Z<|nG<|aL<|lmL Z ?_
  refine lq (rd (x := vL _ _ _) (rd_slc_p (l := 1) (h := _) rfl ty.el32 rfl ⟨_,rfl⟩ rfl (by simp [rowsOf]) (Nat.le_refl _)) rfl)<|laL Z<|lN<|gB<|gB<|gT ?_
  refine ⟨([],b2,o ++ [y]),⟨by rw [← hI,mergeL_nil,mergeL_nil];simp,by simp at *;omega,hra,fun z hz => hrb z (List.mem_cons_of_mem _ hz)⟩,by simp,⟨rfl,(congrArg (fun r => AV.p (.lst 120 3 r)) take_rows),rfl,trivial⟩,⟨(congrArg (AO.arr 120 3) (rowsOf_app encLine _ [_]).symm),trivial⟩,rfl,rfl⟩
 ·skip
  refine aS<|sL<|lmL Z<|lnI ty.sl32 Z<|lbB Z<|lsB 10 true rfl (by first | (simp [rowsOf];done) | (simp [rowsOf];omega))<|lmT Z<|lno Z<|lno Z<|lno Z<|lkT Z<|nG<|aY Z<|aK<|gT<|aB<|aB<|aS<|aG 19 []<|yq 0 (rmL rfl)<|yq 1 (rnI ty.sl32 rfl)<|yq 2 (rbB rfl)<|gsB 46 true rfl (by first | (simp [rowsOf];done) | (simp [rowsOf];omega))<|yq 3 (rmT rfl)<|yno 4 Z<|yno 5 Z<|yno 6 Z<|yno 7 rfl ?_
  refine tno 8 Z<|tno 9 Z<|tno 10 Z<|tno 11 Z<|yno 12 Z<|yno 13 Z<|yno 14 Z<|yno 15 Z<|yno 16 Z<|yno 17 Z<|yq 18 (rkT Z)<|yq 19 (raT Z)<|gD<|gT<|aY Z<|sL<|lmO Z<|lmL Z<|li 0 ty.el32 Z (Z)<|lrX (.agg [vI _ _,vI _ _,vI _ _]) ty.kd120 Z<|lst (zS 2067 (rowsOf encLine [x]) ty.el32 ty.ze120 Z) Z<|lT [0,1,4,5,6,63,67] [50,2067] ?_
  refine lst (zP 50 ty.el32 ty.ze120 ty.by120 Z (Src.own Z Z)) Z<|laO Z<|nG<|aL<|lmL Z ?_
  refine lq (rd (x := vL _ _ _) (rd_slc_p (l := 1) (h := _) rfl ty.el32 rfl ⟨_,rfl⟩ rfl (by simp [rowsOf]) (Nat.le_refl _)) rfl)<|laL Z<|lN<|gB<|gB<|gT ?_
  refine ⟨(a2,[],o ++ [x]),⟨by rw [← hI,mergeL_nil2,mergeL_nil2];simp,by simp at *;omega,fun z hz => hra z (List.mem_cons_of_mem _ hz),hrb⟩,by simp,⟨(congrArg (fun r => AV.p (.lst 120 3 r)) take_rows),rfl,rfl,trivial⟩,⟨(congrArg (AO.arr 120 3) (rowsOf_app encLine _ [_]).symm),trivial⟩,rfl,rfl⟩
 ·skip
  refine aS<|sL<|lmL Z<|lnI ty.sl32 Z<|lbB Z<|lsB 10 true rfl (by first | (simp [rowsOf];done) | (simp [rowsOf];omega))<|lmT Z<|lno Z<|lno Z<|lno Z<|lkT Z<|nG<|aY Z<|aK<|gT<|aB<|aB<|aS<|aG 19 []<|yq 0 (rmL rfl)<|yq 1 (rnI ty.sl32 rfl)<|yq 2 (rbB rfl)<|gsB 46 false rfl (by first | (simp [rowsOf];done) | (simp [rowsOf];omega))<|yq 3 (rmZ rfl)<|yq 4 (rmL rfl)<|yq 5 (rnI ty.sl32 rfl)<|yq 6 (rbB rfl)<|gsB 50 true rfl (by first | (simp [rowsOf];done) | (simp [rowsOf];omega)) ?_
  refine yq 7 (rmT Z)<|tq 8 (rmL Z)<|tq 9 (ri 0 ty.el32 Z (Z))<|tq 10 (rd (x := .rp _) (zfr ty.F120_0 Z) Z)<|tq 11 (rrX (.agg [vI _ _,vI _ _]) ty.kd110 Z)<|yq 12 (rmL Z)<|yq 13 (ri 0 ty.el32 Z (Z))<|yq 14 (rd (x := .rp _) (zfr ty.F120_0 Z) Z)<|yq 15 (rrX (.agg [vI _ _,vI _ _]) ty.kd110 Z)<|yst 16 Z (zL Tryz.func121 (lessA_e _ _) Z)<|gX [0,1,4,5,6,47,51,60] [50] ?_
  refine yq 17 (rkB Z)<|yq 18 (rkB Z)<|yq 19 (raB Z)<|gD<|gT ?_
  refine AW.cond rfl ?_ ?_
  ·intro h1
   refine sL<|lmO Z<|lmL Z<|li 0 ty.el32 Z (Z)<|lrX (.agg [vI _ _,vI _ _,vI _ _]) ty.kd120 Z<|lst (zS 2067 (rowsOf encLine [x]) ty.el32 ty.ze120 Z) Z<|lst (zP 50 ty.el32 ty.ze120 ty.by120 Z (Src.own Z Z)) Z<|laO Z<|nG<|aL<|lmL Z ?_
   refine lq (rd (x := vL _ _ _) (rd_slc_p (l := 1) (h := _) rfl ty.el32 rfl ⟨_,rfl⟩ rfl (by simp [rowsOf]) (Nat.le_refl _)) rfl)<|laL Z<|lN<|gB<|gB<|gT ?_
   refine ⟨(a2,y :: b2,o ++ [x]),⟨by rw [← hI,mergeL_lt h1,map_app1],by simp at *;omega,fun z hz => hra z (List.mem_cons_of_mem _ hz),hrb⟩,by simp,⟨(congrArg (fun r => AV.p (.lst 120 3 r)) take_rows),rfl,rfl,trivial⟩,⟨(congrArg (AO.arr 120 3) (rowsOf_app encLine _ [_]).symm),trivial⟩,rfl,rfl⟩
  ·intro h1
   refine aS<|aG 14 []<|yq 0 (rmL rfl)<|yq 1 (rnI ty.sl32 rfl)<|yq 2 (rbB rfl)<|gsB 74 false rfl (by first | (simp [rowsOf];done) | (simp [rowsOf];omega))<|yq 3 (rmZ rfl)<|tq 4 (rmL rfl)<|tq 5 (ri 0 ty.el32 rfl (rfl))<|tq 6 (rd (x := .rp _) (zfr ty.F120_0 rfl) rfl)<|tq 7 (rrX (.agg [vI _ _,vI _ _]) ty.kd110 rfl)<|yq 8 (rmL rfl)<|yq 9 (ri 0 ty.el32 rfl (rfl))<|yq 10 (rd (x := .rp _) (zfr ty.F120_0 rfl) rfl)<|yq 11 (rrX (.agg [vI _ _,vI _ _]) ty.kd110 rfl)<|yst 12 rfl (zL Tryz.func121 (lessA_e _ _) rfl)<|gX [0,1,4,5,6,75,84] [50] ?_
   refine yq 13 (rkB Z)<|yq 14 (raB Z)<|gD<|gT ?_
   refine AW.cond rfl ?_ ?_
   ·intro h2
    refine sL<|lmO Z<|lmL Z<|li 0 ty.el32 Z (Z)<|lrX (.agg [vI _ _,vI _ _,vI _ _]) ty.kd120 Z<|lst (zS 2090 (rowsOf encLine [y]) ty.el32 ty.ze120 Z) Z<|lst (zP 50 ty.el32 ty.ze120 ty.by120 Z (Src.own Z Z)) Z<|laO Z<|nG<|aL<|lmL Z ?_
    refine lq (rd (x := vL _ _ _) (rd_slc_p (l := 1) (h := _) rfl ty.el32 rfl ⟨_,rfl⟩ rfl (by simp [rowsOf]) (Nat.le_refl _)) rfl)<|laL Z<|lN<|gB<|gB<|gT ?_
    refine ⟨(x :: a2,b2,o ++ [y]),⟨by rw [← hI,mergeL_gt h1 h2,map_app1],by simp at *;omega,hra,fun z hz => hrb z (List.mem_cons_of_mem _ hz)⟩,by simp,⟨rfl,(congrArg (fun r => AV.p (.lst 120 3 r)) take_rows),rfl,trivial⟩,⟨(congrArg (AO.arr 120 3) (rowsOf_app encLine _ [_]).symm),trivial⟩,rfl,rfl⟩
   ·intro h2
    refine aS<|aG 9 []<|tq 0 (rmL Z)<|tq 1 (ri 0 ty.el32 Z (Z))<|tq 2 (rd (x := .rp _) (zfr ty.F120_1 Z) Z)<|tq 3 (rrI ty.kd3 Z)<|yq 4 (rmL Z)<|yq 5 (ri 0 ty.el32 Z (Z))<|yq 6 (rd (x := .rp _) (zfr ty.F120_1 Z) Z)<|yq 7 (rrI ty.kd3 Z) ?_
    have q1 := inB_true.1 (hra x (by simp))
    have q2 := inB_true.1 (hrb y (by simp))
    refine yq 8 (rgI rfl (by unfold i64;omega))<|yq 9 (raI rfl)<|gD<|gT<|aS<|sL<|lmI Z<|lst (zL Tryz.func63 (in_e _ _ _) rfl) Z<|lT [0,1,4,5,6,7,26] [50] ?_
    refine luB Z<|nG ?_
    refine AW.cond rfl ?_ ?_
    ·intro h3
     refine sL<|laV Z<|laZ Z<|nG<|aR<|rT<|rB<|rB<|rT<|rB<|rT ?_
     have hm : mergeL a b = none := by rw [← hI,mergeL_bad h1 h2 (by simpa [rangeA] using h3)];rfl
     refine end_xret (.tup [.p (.v (.slice none 0 0)),boo false]) [] ?_ rfl trivial
     unfold mgR;rw [hm];exact ⟨rfl,rfl⟩
    ·intro h3
     refine aK<|gT<|aS<|sL<|lmI Z<|lbB Z<|nG ?_
     refine AW.cond rfl ?_ ?_
     ·intro h4
      refine aL<|lmO Z<|lmL Z<|li 0 ty.el32 Z (Z)<|lq (rd (x := .rp _) (zfr ty.F120_0 Z) Z)<|lrX (.agg [vI _ _,vI _ _]) ty.kd110 Z<|lmI Z<|lq (rd (x := .agg [vI _ _,vI _ _,vI _ _]) (rd_build Z ty.sa120 Z Z Z) Z) ?_
      refine lst (zS 2037 (rowsOf encLine [⟨x.acc,x.amt + y.amt⟩]) ty.el32 ty.ze120 rfl) Z<|lst (zP 50 ty.el32 ty.ze120 ty.by120 rfl (Src.own rfl rfl)) Z<|lT [0,1,4,5,38] [50,2037] ?_
      refine laO Z<|nG<|aG 5 []<|tq 0 (rmL Z) ?_
      refine tq 1 (rd (x := vL _ _ _) (rd_slc_p (l := 1) (h := _) rfl ty.el32 rfl ⟨_,rfl⟩ rfl (by simp [rowsOf]) (Nat.le_refl _)) rfl)<|tq 2 (rmL rfl) ?_
      refine tq 3 (rd (x := vL _ _ _) (rd_slc_p (l := 1) (h := _) rfl ty.el32 rfl ⟨_,rfl⟩ rfl (by simp [rowsOf]) (Nat.le_refl _)) rfl)<|yq 4 (raL rfl)<|yq 5 (raL rfl)<|gD<|gB<|gB<|gT ?_
      refine ⟨(a2,b2,o ++ [⟨x.acc,x.amt + y.amt⟩]),⟨by rw [← hI,mergeL_sum h1 h2 (by simpa [rangeA] using h3) (by simpa using h4),map_app1],by simp at *;omega,fun z hz => hra z (List.mem_cons_of_mem _ hz),fun z hz => hrb z (List.mem_cons_of_mem _ hz)⟩,by simp;omega,⟨(congrArg (fun r => AV.p (.lst 120 3 r)) take_rows),(congrArg (fun r => AV.p (.lst 120 3 r)) take_rows),rfl,trivial⟩,⟨(congrArg (AO.arr 120 3) (rowsOf_app encLine _ [_]).symm),trivial⟩,rfl,rfl⟩
     ·intro h4
      refine aK<|gT<|aG 5 []<|tq 0 (rmL Z) ?_
      refine tq 1 (rd (x := vL _ _ _) (rd_slc_p (l := 1) (h := _) rfl ty.el32 rfl ⟨_,rfl⟩ rfl (by simp [rowsOf]) (Nat.le_refl _)) rfl)<|tq 2 (rmL rfl) ?_
      refine tq 3 (rd (x := vL _ _ _) (rd_slc_p (l := 1) (h := _) rfl ty.el32 rfl ⟨_,rfl⟩ rfl (by simp [rowsOf]) (Nat.le_refl _)) rfl)<|yq 4 (raL rfl)<|yq 5 (raL rfl)<|gD<|gB<|gB<|gT ?_
      refine ⟨(a2,b2,o),⟨by rw [← hI,mergeL_zero h1 h2 (by simpa [rangeA] using h3) (by simpa using h4)],by simp at *;omega,fun z hz => hra z (List.mem_cons_of_mem _ hz),fun z hz => hrb z (List.mem_cons_of_mem _ hz)⟩,by simp;omega,⟨(congrArg (fun r => AV.p (.lst 120 3 r)) take_rows),(congrArg (fun r => AV.p (.lst 120 3 r)) take_rows),rfl,trivial⟩,⟨rfl,trivial⟩,rfl,rfl⟩
end Go.Proofs.YtogkbcmfoalpiaaGreat

