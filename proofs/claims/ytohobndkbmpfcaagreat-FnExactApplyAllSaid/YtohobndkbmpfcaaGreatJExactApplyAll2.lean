/- Texts of the proof of FnExactApplyAll, joined: E14, E15, E16, E17, E18, E19, E20, EZ, ET, EA1, EA2, EB. -/
import Derived.Test.YtohobndkbmpfcaaGreatJExactApplyAll1
import Derived.Test.YtohobndkbmpfcaaGreatKDiv2
import Derived.Test.YtohobndkbmpfcaaGreatKBook9
import Derived.Test.YtohobndkbmpfcaaGreatKAp
namespace Go.Proofs.YtohobndkbmpfcaaGreat
open Go.RowKit
set_option linter.unusedSimpArgs false
set_option linter.unusedVariables false
theorem no_live {b : Nat} : ¬ live (fun _ => False) (fun _ => undef) (ofO []) b := by
  rintro (h | ⟨id,h,_⟩)
  · exact h
  · cases h
def pvsOf (H : Nat → AO) : List AV → Option (List PV)
  | [] => some []
  | .p x :: l => (pvsOf H l).map (x :: ·)
  | .own id :: l => match H id with | .arr e sz rows => (pvsOf H l).map (.lst e.ty sz rows :: ·) | _ => none
  | _ :: _ => none
def lendP (H : Nat → AO) (id r k : Nat) : AV :=
  match H id with
  | .box _ _ cells => match r,pvsOf H cells with | 0,some l => .rp (l.drop k) | _,_ => .bad
  | .arr _ _ rows => match rows[r]? with | some row => .rp (row.drop k) | none => .bad
  | .gone => .bad
-- What a pure callee may read of a value.
mutual
def lend (H : Nat → AO) : AV → AV
  | .own id => match H id with | .arr e sz rows => .p (.lst e.ty sz rows) | _ => .bad
  | .sub id off len => match H id with | .arr e sz rows => .p (.lst e.ty sz ((rows.drop off).take len)) | _ => .bad
  | .ptr id r k => lendP H id r k
  | .agg l => .agg (lendL H l)
  | .tup l => .tup (lendL H l)
  | .clo fn f l => .clo fn (lendL H f) (lendL H l)
  | x => x
def lendL (H : Nat → AO) : List AV → List AV
  | [] => []
  | x :: l => lend H x :: lendL H l
end
abbrev L0 : Nat → Prop := fun _ => False
abbrev ρ0 : Nat → Value := fun _ => undef
section
variable {L O : Nat → Prop} {w0 : World} {N : Nat} {τ : Nat → AV} {H : Nat → AO} {ρ : Nat → Value} {fp : Nat → List Nat} {a : Act} {w : World}
theorem OB.reads {v : Value} {f : List Nat} {e : Pin} {sz : Nat} {rows : List (List PV)} (h : OB L ρ H w v f (.arr e sz rows)) : RV L0 ρ0 (ofO []) w (.p (.lst e.ty sz rows)) v := by
  obtain ⟨xs,fr,b1,b2,b3,b4,_⟩ := h
  rw [RV]
  rcases b3.2 with ⟨q,q2⟩ | ⟨g,cap,cur,q,_,hg,hnc,hcm,_⟩
  · refine ⟨[] ++ fr,?_,fun b hb => no_live⟩
    rw [RW]
    refine ⟨xs,[],fr,b1,?_,rfl⟩
    unfold SlAt
    simp only [Bool.false_eq_true,if_false]
    exact ⟨none,0,by rw [q,q2],by omega,by simp [maxLen],.inl ⟨q2,trivial⟩⟩
  · have b3' := b3
    rw [q] at b3'
    refine ⟨[g] ++ fr,?_,fun b hb => no_live⟩
    rw [RW]
    refine ⟨xs,[g],fr,b1,?_,rfl⟩
    unfold SlAt
    simp only [Bool.false_eq_true,if_false]
    exact ⟨_,cap,q,hnc,hcm,.inr ⟨g,0,rfl,cellsAt_of_own b3',(Array.getElem?_eq_some_iff.1 hg).1,rfl⟩⟩
theorem OB.part {v : Value} {f : List Nat} {e : Pin} {sz off len : Nat} {rows : List (List PV)} {b : Option Addr} {cap : Nat} (h : OB L ρ H w v f (.arr e sz rows)) (h1 : off + len ≤ rows.length) (c1 : len ≤ cap) (c2 : cap ≤ maxLen) (h2 : 0 < len → ∃ g m cap',v = .slice (some ⟨g,0,none⟩) m cap' ∧ b = some ⟨g,off * sz,none⟩) :
    RV L0 ρ0 (ofO []) w (.p (.lst e.ty sz ((rows.drop off).take len))) (.slice b len cap) := by
  obtain ⟨xs,fr,k1,k2,k3,_⟩ := h
  obtain ⟨g1,t1,t2⟩ := k1.drop off
  obtain ⟨g2,t3,t4⟩ := t1.take len
  have hl : ((rows.drop off).take len).length = len := by rw [List.length_take,List.length_drop];omega
  rw [RV]
  by_cases hz : len = 0
  · refine ⟨[] ++ g2,?_,fun b hb => no_live⟩
    rw [RW]
    refine ⟨_,[],g2,t3,?_,rfl⟩
    unfold SlAt
    simp only [Bool.false_eq_true,if_false]
    exact ⟨b,cap,by rw [hl],by omega,c2,.inl ⟨by omega,trivial⟩⟩
  · obtain ⟨g,m,cap',e2,e3⟩ := h2 (by omega)
    rw [e2] at k3
    have hm : m = rows.length := by
      rcases k3.2 with ⟨q,_⟩ | ⟨g',cap',cur,q,_⟩
      · cases q
      · injection q
    subst hm
    refine ⟨[g] ++ g2,?_,fun b hb => no_live⟩
    rw [RW]
    refine ⟨_,[g],g2,t3,?_,rfl⟩
    unfold SlAt
    simp only [Bool.false_eq_true,if_false]
    refine ⟨b,cap,by rw [hl],by omega,c2,.inr ⟨g,off * sz,e3,?_,?_,rfl⟩⟩
    · have := (cellsAt_of_own k3).drop (off * sz)
      rw [Nat.zero_add] at this
      intro i v hi
      rw [List.getElem?_take] at hi
      split at hi
      · exact this i v hi
      · cases hi
    · exact (k3.lt g (by simp [Value.ownBlock])).2
theorem OB.readsW {v : Value} {f : List Nat} {e : Pin} {sz : Nat} {rows : List (List PV)} (h : OB L ρ H w v f (.arr e sz rows)) : ∃ fp,RW w false (.lst e.ty sz rows) v fp := by
  have := h.reads
  rw [RV] at this
  obtain ⟨fp,h1,_⟩ := this
  exact ⟨fp,h1⟩
theorem RWL.of_pvs (hob : ∀ id,∃ f,OB L ρ H w (ρ id) f (H id)) : ∀ {cells : List AV} {l : List PV} {xs : List Value},pvsOf H cells = some l → RVL L ρ H w cells xs → ∃ fp,RWL w false l xs fp
  | [],l,xs,h,h2 => by
    injection h with h
    subst h
    rw [RVL] at h2
    exact ⟨[],by rw [RWL];exact ⟨h2,rfl⟩⟩
  | x :: cells,l,xs,h,h2 => by
    rw [RVL] at h2
    obtain ⟨c,r,rfl,h3,h4⟩ := h2
    cases x with
    | p y =>
      unfold pvsOf at h
      cases hq : pvsOf H cells with
      | none => rw [hq] at h;cases h
      | some m =>
        rw [hq] at h
        injection h with h
        subst h
        obtain ⟨f2,q2⟩ := RWL.of_pvs hob hq h4
        rw [RV] at h3
        obtain ⟨f1,q1,_⟩ := h3
        exact ⟨f1 ++ f2,by rw [RWL];exact ⟨c,r,f1,f2,rfl,rfl,q1,q2⟩⟩
    | own id =>
      unfold pvsOf at h
      obtain ⟨f,ho⟩ := hob id
      cases hH : H id with
      | arr e sz rows =>
        rw [hH] at h ho
        dsimp only at h
        cases hq : pvsOf H cells with
        | none => rw [hq] at h;cases h
        | some m =>
          rw [hq] at h
          injection h with h
          subst h
          obtain ⟨f2,q2⟩ := RWL.of_pvs hob hq h4
          rw [RV,hH] at h3
          obtain ⟨f1,q1⟩ := ho.readsW
          rw [← h3.2 rfl] at q1
          exact ⟨f1 ++ f2,by rw [RWL];exact ⟨c,r,f1,f2,rfl,rfl,q1,q2⟩⟩
      | box T p cs => rw [hH] at h;cases h
      | gone => rw [hH] at h;cases h
    | sub _ _ _ => cases h
    | ptr _ _ _ => cases h
    | rp _ => cases h
    | agg _ => cases h
    | tup _ => cases h
    | clo _ _ _ => cases h
    | dead => cases h
    | bad => cases h
theorem RV.lendP (hob : ∀ id,∃ f,OB L ρ H w (ρ id) f (H id)) {id r k : Nat} {c : Value} (h : RV L ρ H w (.ptr id r k) c) : RV L0 ρ0 (ofO []) w (_root_.Go.Proofs.YtohobndkbmpfcaaGreat.lendP H id r k) c := by
  unfold _root_.Go.Proofs.YtohobndkbmpfcaaGreat.lendP
  rw [RV] at h
  obtain ⟨f,ho⟩ := hob id
  cases hH : H id with
  | gone => dsimp only;rw [RV];trivial
  | box T p cells =>
    rw [hH] at h ho
    dsimp only
    obtain ⟨h0,g,m,cap,e1,e2⟩ := h.2 rfl
    split
    · rename_i l hl
      obtain ⟨xs,k1,k2,k3,k4,_⟩ := ho
      obtain ⟨hc,hlt⟩ := own_at (fp := f) k3 e1
      obtain ⟨fp,q⟩ := RWL.of_pvs hob hl k1
      obtain ⟨fd,d1,d2⟩ := RWL.drop k q
      rw [RV]
      exact ⟨g,0 + k,xs.drop k,fd,by rw [e2];simp,d1,hc.drop k,hlt,no_live,fun b hb => no_live⟩
    · rw [RV];trivial
  | arr e sz rows =>
    rw [hH] at h ho
    dsimp only
    obtain ⟨h0,g,m,cap,e1,e2⟩ := h.2 rfl
    split
    · rename_i row hrow
      obtain ⟨xs,fr,k1,k2,k3,k4,_⟩ := ho
      obtain ⟨hc,hlt⟩ := own_at (fp := f) k3 e1
      obtain ⟨c1,cr,c2,f1,f2,f3,p1,p2,p3,p4,p5,_⟩ := RWR.row k1 hrow
      rw [p1] at hc
      have hc2 := (hc.mid p3).drop k
      obtain ⟨fd,d1,d2⟩ := RWL.drop k p5
      rw [RV]
      exact ⟨g,0 + r * sz + k,cr.drop k,fd,by rw [e2];simp [AO.sz],d1,hc2,hlt,no_live,fun b hb => no_live⟩
    · rw [RV];trivial
mutual
theorem RV.lend (hob : ∀ id,∃ f,OB L ρ H w (ρ id) f (H id)) : ∀ (x : AV) {c : Value},RV L ρ H w x c → RV L0 ρ0 (ofO []) w (_root_.Go.Proofs.YtohobndkbmpfcaaGreat.lend H x) c
  | .p x,c,h => by
    rw [_root_.Go.Proofs.YtohobndkbmpfcaaGreat.lend] <;> try (intros;contradiction)
    rw [RV] at *
    obtain ⟨fp,h1,h2⟩ := h
    exact ⟨fp,h1,fun b hb => no_live⟩
  | .own id,c,h => by
    rw [_root_.Go.Proofs.YtohobndkbmpfcaaGreat.lend]
    rw [RV] at h
    obtain ⟨f,ho⟩ := hob id
    cases hH : H id with
    | arr e sz rows =>
      rw [hH] at h ho
      rw [h.2 rfl]
      exact ho.reads
    | box T p cells => dsimp only;rw [RV];trivial
    | gone => dsimp only;rw [RV];trivial
  | .sub id off len,c,h => by
    rw [_root_.Go.Proofs.YtohobndkbmpfcaaGreat.lend]
    rw [RV] at h
    obtain ⟨f,ho⟩ := hob id
    cases hH : H id with
    | arr e sz rows =>
      rw [hH] at h ho
      obtain ⟨h1,b,cap,rfl,c1,c2,h2⟩ := h.2 rfl
      exact ho.part h1 c1 c2 h2
    | box T p cells => dsimp only;rw [RV];trivial
    | gone => dsimp only;rw [RV];trivial
  | .ptr id r k,c,h => by rw [_root_.Go.Proofs.YtohobndkbmpfcaaGreat.lend];exact RV.lendP hob h
  | .rp cells,c,h => by
    rw [_root_.Go.Proofs.YtohobndkbmpfcaaGreat.lend] <;> try (intros;contradiction)
    rw [RV] at *
    obtain ⟨b,off,cs,fp,rfl,h1,h2,h3,h4,h5⟩ := h
    exact ⟨b,off,cs,fp,rfl,h1,h2,h3,no_live,fun b hb => no_live⟩
  | .agg l,c,h => by
    rw [_root_.Go.Proofs.YtohobndkbmpfcaaGreat.lend]
    rw [RV] at *
    obtain ⟨cs,rfl,h1⟩ := h
    exact ⟨cs,rfl,RVL.lend hob l h1⟩
  | .tup l,c,h => by
    rw [_root_.Go.Proofs.YtohobndkbmpfcaaGreat.lend]
    rw [RV] at *
    obtain ⟨cs,rfl,h1⟩ := h
    exact ⟨cs,rfl,RVL.lend hob l h1⟩
  | .clo fn f l,c,h => by
    rw [_root_.Go.Proofs.YtohobndkbmpfcaaGreat.lend]
    rw [RV] at *
    obtain ⟨fs,cs,rfl,h1,h2⟩ := h
    exact ⟨fs,cs,rfl,RVL.lend hob f h1,RVL.lend hob l h2⟩
  | .dead,c,h => by
    rw [_root_.Go.Proofs.YtohobndkbmpfcaaGreat.lend] <;> try (intros;contradiction)
    rw [RV] at *;exact h
  | .bad,c,h => by
    rw [_root_.Go.Proofs.YtohobndkbmpfcaaGreat.lend] <;> try (intros;contradiction)
    rw [RV];trivial
theorem RVL.lend (hob : ∀ id,∃ f,OB L ρ H w (ρ id) f (H id)) : ∀ (x : List AV) {c : List Value},RVL L ρ H w x c → RVL L0 ρ0 (ofO []) w (lendL H x) c
  | [],c,h => by rw [lendL];rw [RVL] at *;exact h
  | x :: xs,c,h => by
    rw [lendL]
    rw [RVL] at *
    obtain ⟨c,r,rfl,h1,h2⟩ := h
    exact ⟨c,r,rfl,RV.lend hob x h1,RVL.lend hob xs h2⟩
end
end
-- A value that refers to no memory.
mutual
def flatA : AV → Bool
  | .p (.v _) => true
  | .agg l => flatL l
  | .tup l => flatL l
  | _ => false
def flatL : List AV → Bool
  | [] => true
  | x :: l => flatA x && flatL l
end
section
variable {L L' : Nat → Prop} {H H' : Nat → AO} {ρ ρ' : Nat → Value} {w w' : World}
mutual
theorem RV.flat : ∀ (x : AV) {c : Value},flatA x = true → RV L ρ H w x c → RV L' ρ' H' w' x c
  | .p (.v v),c,_,h => by
    rw [RV] at *
    obtain ⟨fp,h1,_⟩ := h
    rw [RW] at h1
    obtain ⟨h1,rfl,h2⟩ := h1
    exact ⟨[],by rw [RW];exact ⟨h1,rfl,h2⟩,by simp⟩
  | .agg l,c,hf,h => by
    unfold flatA at hf
    rw [RV] at *
    obtain ⟨cs,rfl,h1⟩ := h
    exact ⟨cs,rfl,RVL.flat l hf h1⟩
  | .tup l,c,hf,h => by
    unfold flatA at hf
    rw [RV] at *
    obtain ⟨cs,rfl,h1⟩ := h
    exact ⟨cs,rfl,RVL.flat l hf h1⟩
  | .p (.lst _ _ _),_,hf,_ => by simp [flatA] at hf
  | .own _,_,hf,_ => by simp [flatA] at hf
  | .sub _ _ _,_,hf,_ => by simp [flatA] at hf
  | .ptr _ _ _,_,hf,_ => by simp [flatA] at hf
  | .rp _,_,hf,_ => by simp [flatA] at hf
  | .clo _ _ _,_,hf,_ => by simp [flatA] at hf
  | .dead,_,hf,_ => by simp [flatA] at hf
  | .bad,_,hf,_ => by simp [flatA] at hf
theorem RVL.flat : ∀ (x : List AV) {c : List Value},flatL x = true → RVL L ρ H w x c → RVL L' ρ' H' w' x c
  | [],c,_,h => by rw [RVL] at *;exact h
  | x :: xs,c,hf,h => by
    unfold flatL at hf
    simp only [Bool.and_eq_true] at hf
    rw [RVL] at *
    obtain ⟨c,r,rfl,h1,h2⟩ := h
    exact ⟨c,r,rfl,RV.flat x hf.1 h1,RVL.flat xs hf.2 h2⟩
end
end
section
variable {P : Program} {L O : Nat → Prop} {w0 : World} {N : Nat} {τ : Nat → AV} {H : Nat → AO} {Q : AQ} {ops : Array Oper} {l : List Oper} {o : Oper}
theorem RR.grow {ρ : Nat → Value} {fp : Nat → List Nat} {a : Act} {w w' : World} (h : RR L O w0 N τ H ρ fp a w) (hc : Chg (fun _ => False) w w') : RR L O w0 N τ H ρ fp a w' :=
  have E : Env L ρ ρ H H w w' noK := ⟨hc.size,fun b hb hn => ⟨hc.block b hb (fun q => q),hn⟩,fun _ _ h => ⟨h,rfl,rfl,rfl⟩⟩
  ⟨h.chg.step (X := fun _ => False) hc.os hc.tape hc.output hc.size hc.block (fun _ q => q.elim) (fun b o hb hlt => hc.nf b o hb hlt),h.size,h.defers,fun t => by have := RV.env E _ (h.tm t);rwa [kil_no] at this,fun id => by
    have := (h.ob id).env E (fun b hb => hc.block b ((h.ob id).lt b hb) (fun q => q))
    rwa [AO.kil_no] at this,h.dj,h.own,h.lo⟩
theorem St.lend {y : Operand} {l : List Operand} {ts : Array TypeId} {f : FuncId} {fn : Func} {args : List AV} {x : AV} (ho : o.op = .call { callee := .value y,args := l.toArray,argTypes := ts }) (ht : ∀ s,o.dst = some s → s < N)
    (hy : ev τ y = .clo (.func f) [] []) (hf : P.funcs[f]? = some fn) (hf1 : (fn.name == "runtime.NumGoroutine") = false) (hf2 : fn.body.isNone = false) (hc : GC P f args [] x []) (hx : flatA x = true) (ha : lendL H (l.map (ev τ)) = args) :
    St P o N τ H [] (updo τ o.dst x) H := by
  refine ⟨?_⟩
  intro L O w0 ρ fp a w K Q hrr hk
  have ey := hrr.ev y
  rw [hy,RV] at ey
  obtain ⟨cf,cc,ey,e1,e2⟩ := ey
  rw [RVL] at e1 e2
  subst e1 e2
  have hv := RVL.lend (fun id => ⟨_,hrr.ob id⟩) _ (RVL.map (fun z => hrr.ev z) l)
  rw [ha] at hv
  have hcall := hc L0 w (l.map a.eval) ρ0 (fun _ => []) (fun _ q => q.elim) hv (fun i => rfl) (by simp) (by simp)
  have hrun : (execOp a.eval o).run P w = .ok (.enter f (l.map a.eval).toArray) w := by
    simp only [execOp,ho,resolve,Deferred.ofValue,ey,invoke,callFunc,Sem.run_bind,Sem.run_pure,Result.andThen_ok,run_program,hf,hf1,hf2,Bool.false_eq_true,if_false,List.map_toArray,List.append_toArray,List.nil_append,List.append_nil]
  unfold Oper.wp
  rw [hrun]
  show Calls P f _ w _
  refine Calls.mono hcall ?_
  rintro e w' ⟨_,_,⟨rfl,rfl⟩,v,ρ',fp',rfl,g1,g2,g3⟩
  have hg : Chg (fun _ => False) w w' := ⟨g1.os,g1.tape,g1.output,g1.size,fun b hb _ => g1.block b hb (by simp),fun b o hb hlt => g1.nf b o (by simpa using hb) hlt⟩
  refine hk _ _ _ _ ((hrr.grow hg).puto o.dst (RV.flat _ hx g2) ht) (fun X hX => ⟨⟨hg.size,fun b hb _ => hg.block b hb (fun q => q)⟩,fun j h1 h2 b h3 => .inr ⟨j,h1,h2,h3⟩⟩)
theorem end_xret {rs : List RVar} {R : AV → List (Nat × AO) → Prop} (x : AV) (ob1 : List (Nat × AO)) (hR : R x ob1) (h1 : retX τ H rs = some x) (h2 : allO ob1 H) : EndsX rs R .ret τ H := ⟨x,ob1,hR,h1,h2⟩
theorem NP.endsX {rs : List RVar} {R : AV → List (Nat × AO) → Prop} : NP (EndsX rs R) := fun _ _ _ h => h
theorem GX.gc {f : FuncId} {args : List AV} {ob0 ob1 : List (Nat × AO)} {x : AV} {R : AV → List (Nat × AO) → Prop} (h : GX P f args ob0 R) (hR : ∀ y o,R y o → y = x ∧ o = ob1) : GC P f args ob0 x ob1 := h.mono hR
theorem AW.seqE (K : List (Nat × AV)) (KO : List (Nat × AO)) {D : Type} (T : D → List (Nat × AV)) (B : D → List (Nat × AO)) (I : D → Prop) {x y : Code} (_ : allT K τ) (_ : allO KO H)
    (h : AW P L O w0 N x τ H (Q.andThen fun τ H => ∃ d,I d ∧ allT (T d) τ ∧ allO (B d) H ∧ allT K τ ∧ allO KO H)) (h2 : ∀ d,I d → AW P L O w0 N y (ofT (T d ++ K)) (ofO (B d ++ KO)) Q) : AW P L O w0 N (.seq x y) τ H Q :=
  AW.seqJ (fun d => T d ++ K) (fun d => B d ++ KO) I (h.mono fun e τ H q => by
    cases e <;> first | exact q | (obtain ⟨d,q1,q2,q3,q4,q5⟩ := q;exact ⟨d,q1,allT.app q2 q4,allO.app q3 q5⟩)) h2
theorem rd_nilc {x : Operand} {id r k : Nat} {X : Nat → Bool} (ho : o.op = .nilCheck x) (hx : ev τ x = .ptr id r k) (hh : (H id).here = true) : Rd P o τ H X (.ptr id r k) := by
  refine Rd.pure fun {L ρ a w} he _ => ⟨a.eval x,hx ▸ he x,fun W => ?_⟩
  have h := he x
  rw [hx,RV] at h
  obtain ⟨_,g,m,cap,_,e⟩ := h.2 hh
  simp [execOp,ho,e]
theorem rd_nilc_rp {x : Operand} {cells : List PV} {X : Nat → Bool} (ho : o.op = .nilCheck x) (hx : ev τ x = .rp cells) : Rd P o τ H X (.rp cells) := by
  refine Rd.pure fun {L ρ a w} he _ => ⟨a.eval x,hx ▸ he x,fun W => ?_⟩
  have h := he x
  rw [hx,RV] at h
  obtain ⟨b,off,cs,fp,e,_⟩ := h
  simp [execOp,ho,e]
theorem upd_ob {ρ : Nat → Value} {fp : Nat → List Nat} {w : World} {id : Nat} {o' : AO} (h : ∀ j,OB L ρ H w (ρ j) (fp j) (H j)) (h1 : o'.here = (H id).here) (h2 : o'.len = (H id).len) (h3 : o'.sz = (H id).sz) (hob : OB L ρ (upd H id o') w (ρ id) (fp id) o') : ∀ j,OB L ρ (upd H id o') w (ρ j) (fp j) (upd H id o' j) := fun j => by
  by_cases e : j = id
  · subst e;rw [upd_same];exact hob
  · rw [upd_ne _ _ e]
    have E : Env L ρ ρ H (upd H id o') w w noK := ⟨Nat.le_refl _,fun b _ hn => ⟨rfl,fun hl => hn (by
      rcases hl with hl | ⟨i,q1,q2⟩
      · exact .inl hl
      · by_cases ei : i = id
        · subst ei;rw [upd_same,h1] at q1;exact .inr ⟨i,q1,q2⟩
        · rw [upd_ne _ _ ei] at q1;exact .inr ⟨i,q1,q2⟩)⟩,fun i _ hi => by
      by_cases ei : i = id
      · subst ei;rw [upd_same] at hi ⊢;exact ⟨h1 ▸ hi,rfl,h2,h3⟩
      · rw [upd_ne _ _ ei] at hi ⊢;exact ⟨hi,rfl,rfl,rfl⟩⟩
    have := (h j).env E (fun _ _ => rfl)
    rwa [AO.kil_no] at this
theorem upd_env {ρ : Nat → Value} {w : World} {id : Nat} {o' : AO} (h1 : o'.here = (H id).here) (h2 : o'.len = (H id).len) (h3 : o'.sz = (H id).sz) : Env L ρ ρ H (upd H id o') w w noK :=
  ⟨Nat.le_refl _,fun b _ hn => ⟨rfl,fun hl => hn (by
      rcases hl with hl | ⟨i,q1,q2⟩
      · exact .inl hl
      · by_cases ei : i = id
        · subst ei;rw [upd_same,h1] at q1;exact .inr ⟨i,q1,q2⟩
        · rw [upd_ne _ _ ei] at q1;exact .inr ⟨i,q1,q2⟩)⟩,fun i _ hi => by
      by_cases ei : i = id
      · subst ei;rw [upd_same] at hi ⊢;exact ⟨h1 ▸ hi,rfl,h2,h3⟩
      · rw [upd_ne _ _ ei] at hi ⊢;exact ⟨hi,rfl,rfl,rfl⟩⟩
theorem RR.pinB {ρ : Nat → Value} {fp : Nat → List Nat} {a : Act} {w : World} (h : RR L O w0 N τ H ρ fp a w) {id : Nat} {T : TypeId} {cells : List AV} {p : Option Value} (hH : H id = .box T p cells) : RR L O w0 N τ (upd H id (.box T (some (ρ id)) cells)) ρ fp a w := by
  have e1 : (AO.box T (some (ρ id)) cells).here = (H id).here := by rw [hH];rfl
  have e2 : (AO.box T (some (ρ id)) cells).len = (H id).len := by rw [hH];rfl
  have e3 : (AO.box T (some (ρ id)) cells).sz = (H id).sz := by rw [hH];rfl
  have E := upd_env (L := L) (ρ := ρ) (w := w) e1 e2 e3
  refine ⟨h.chg,h.size,h.defers,fun t => by have := RV.env E _ (h.tm t);rwa [kil_no] at this,upd_ob h.ob e1 e2 e3 ?_,h.dj,h.own,h.lo⟩
  have hob := (h.ob id).env E (fun _ _ => rfl)
  rw [AO.kil_no,hH] at hob
  obtain ⟨xs,k1,k2,k3,k4,k5⟩ := hob
  exact ⟨xs,k1,k2,k3,k4,fun g hg => by injection hg⟩
theorem RR.pinA {ρ : Nat → Value} {fp : Nat → List Nat} {a : Act} {w : World} (h : RR L O w0 N τ H ρ fp a w) {id : Nat} {e : Pin} {sz : Nat} {rows : List (List PV)} (hH : H id = .arr e sz rows) (pt : Option Value) (hp : ∀ u,pt = some u → u = ρ id) : RR L O w0 N τ (upd H id (.arr ⟨e.ty,pt⟩ sz rows)) ρ fp a w := by
  have e1 : (AO.arr ⟨e.ty,pt⟩ sz rows).here = (H id).here := by rw [hH];rfl
  have e2 : (AO.arr ⟨e.ty,pt⟩ sz rows).len = (H id).len := by rw [hH];rfl
  have e3 : (AO.arr ⟨e.ty,pt⟩ sz rows).sz = (H id).sz := by rw [hH];rfl
  have E := upd_env (L := L) (ρ := ρ) (w := w) e1 e2 e3
  refine ⟨h.chg,h.size,h.defers,fun t => by have := RV.env E _ (h.tm t);rwa [kil_no] at this,upd_ob h.ob e1 e2 e3 ?_,h.dj,h.own,h.lo⟩
  have hob := (h.ob id).env E (fun _ _ => rfl)
  rw [AO.kil_no,hH] at hob
  obtain ⟨xs,fr,k1,k2,k3,k4,k5⟩ := hob
  exact ⟨xs,fr,k1,k2,k3,k4,fun g hg => (hp g hg).symm⟩
theorem AW.pinB (id : Nat) {T : TypeId} {cells : List AV} {p : Option Value} {c : Code} (hH : H id = .box T p cells) (h : ∀ g,AW P L O w0 N c τ (upd H id (.box T (some g) cells)) Q) : AW P L O w0 N c τ H Q := fun ρ fp a w hr => h (ρ id) ρ fp a w (hr.pinB hH)
theorem AW.pinA (id : Nat) {e : Pin} {sz : Nat} {rows : List (List PV)} {c : Code} (hH : H id = .arr e sz rows) (h : ∀ g,AW P L O w0 N c τ (upd H id (.arr ⟨e.ty,some g⟩ sz rows)) Q) : AW P L O w0 N c τ H Q := fun ρ fp a w hr => h (ρ id) ρ fp a w (hr.pinA hH _ (fun u hu => by injection hu with hu;exact hu.symm))
theorem AL.pinB (id : Nat) {T : TypeId} {cells : List AV} {p : Option Value} (hH : H id = .box T p cells) (h : ∀ g,AL P L O w0 N ops l τ (upd H id (.box T (some g) cells)) Q) : AL P L O w0 N ops l τ H Q := fun ρ fp a w hr => h (ρ id) ρ fp a w (hr.pinB hH)
theorem AL.pinA (id : Nat) {e : Pin} {sz : Nat} {rows : List (List PV)} (hH : H id = .arr e sz rows) (h : ∀ g,AL P L O w0 N ops l τ (upd H id (.arr ⟨e.ty,some g⟩ sz rows)) Q) : AL P L O w0 N ops l τ H Q := fun ρ fp a w hr => h (ρ id) ρ fp a w (hr.pinA hH _ (fun u hu => by injection hu with hu;exact hu.symm))
theorem AW.unpin (id : Nat) {e : Pin} {sz : Nat} {rows : List (List PV)} {c : Code} (hH : H id = .arr e sz rows) (h : AW P L O w0 N c τ (upd H id (.arr ⟨e.ty,none⟩ sz rows)) Q) : AW P L O w0 N c τ H Q := fun ρ fp a w hr => h ρ fp a w (hr.pinA hH none (fun u hu => by cases hu))
theorem AL.unpin (id : Nat) {e : Pin} {sz : Nat} {rows : List (List PV)} (hH : H id = .arr e sz rows) (h : AL P L O w0 N ops l τ (upd H id (.arr ⟨e.ty,none⟩ sz rows)) Q) : AL P L O w0 N ops l τ H Q := fun ρ fp a w hr => h ρ fp a w (hr.pinA hH none (fun u hu => by cases hu))
def Imp (x y : AV) : Prop := ∀ {L : Nat → Prop} {ρ : Nat → Value} {H : Nat → AO} {w : World} {c : Value},RV L ρ H w x c → RV L ρ H w y c
def ImpL (x y : List AV) : Prop := ∀ {L : Nat → Prop} {ρ : Nat → Value} {H : Nat → AO} {w : World} {c : List Value},RVL L ρ H w x c → RVL L ρ H w y c
theorem Imp.refl (x : AV) : Imp x x := fun h => h
theorem Imp.nil (e : TypeId) (sz : Nat) : Imp (.p (.v (.slice none 0 0))) (.p (.lst e sz [])) := fun {L ρ H w c} h => by
  have := h.v_eq
  subst this
  rw [RV]
  refine ⟨[],?_,by simp⟩
  rw [RW]
  refine ⟨[],[],[],by simp [RWR],?_,rfl⟩
  unfold SlAt
  simp only [Bool.false_eq_true,if_false]
  exact ⟨none,0,rfl,Nat.le_refl _,by simp [maxLen],.inl ⟨rfl,trivial⟩⟩
theorem ImpL.nil : ImpL [] [] := fun h => h
theorem ImpL.cons {x y : AV} {l m : List AV} (h : Imp x y) (h2 : ImpL l m) : ImpL (x :: l) (y :: m) := fun {L ρ H w c} q => by
  rw [RVL] at *
  obtain ⟨c,r,rfl,q1,q2⟩ := q
  exact ⟨c,r,rfl,h q1,h2 q2⟩
theorem Imp.agg {l m : List AV} (h : ImpL l m) : Imp (.agg l) (.agg m) := fun {L ρ H w c} q => by
  rw [RV] at *
  obtain ⟨cs,rfl,q⟩ := q
  exact ⟨cs,rfl,h q⟩
theorem Imp.tup {l m : List AV} (h : ImpL l m) : Imp (.tup l) (.tup m) := fun {L ρ H w c} q => by
  rw [RV] at *
  obtain ⟨cs,rfl,q⟩ := q
  exact ⟨cs,rfl,h q⟩
theorem GX.imp {f : FuncId} {args : List AV} {ob0 : List (Nat × AO)} {R R' : AV → List (Nat × AO) → Prop} (h : GX P f args ob0 R) (hR : ∀ x ob1,R x ob1 → ∃ x',Imp x x' ∧ R' x' ob1) : GX P f args ob0 R' := fun L w cs ρ fp h1 h2 h3 h4 h5 =>
  Calls.mono (h L w cs ρ fp h1 h2 h3 h4 h5) fun e w' ⟨x,ob1,q,v,ρ',fp',q1,q2,q3,q4⟩ => by
    obtain ⟨x',i1,i2⟩ := hR x ob1 q
    exact ⟨x',ob1,i2,v,ρ',fp',q1,q2,i1 q3,q4⟩
theorem AW.imp (t : Nat) {x y : AV} {c : Code} (hx : τ t = x) (hi : Imp x y) (h : AW P L O w0 N c (upd τ t y) H Q) : AW P L O w0 N c τ H Q := fun ρ fp a w hr => by
  refine h ρ fp a w ⟨hr.chg,hr.size,hr.defers,fun s => ?_,hr.ob,hr.dj,hr.own,hr.lo⟩
  by_cases e : s = t
  · subst e;rw [upd_same];exact hi (hx ▸ hr.tm s)
  · rw [upd_ne _ _ e];exact hr.tm s
theorem AL.imp (t : Nat) {x y : AV} (hx : τ t = x) (hi : Imp x y) (h : AL P L O w0 N ops l (upd τ t y) H Q) : AL P L O w0 N ops l τ H Q := fun ρ fp a w hr => by
  refine h ρ fp a w ⟨hr.chg,hr.size,hr.defers,fun s => ?_,hr.ob,hr.dj,hr.own,hr.lo⟩
  by_cases e : s = t
  · subst e;rw [upd_same];exact hi (hx ▸ hr.tm s)
  · rw [upd_ne _ _ e];exact hr.tm s
end

section
variable {P : Program} {o : Oper} {τ : Nat → AV} {H : Nat → AO} {X : Nat → Bool}
theorem rd_val {op : BinOp} {T yT : TypeId} {x y : Operand} {vx vy v : Value} (ho : o.op = .binOp op T x y yT) (hx : ev τ x = .p (.v vx)) (hy : ev τ y = .p (.v vy)) (h : ∀ W,(do eqGuard op T x y vx vy;binOp op T vx vy : Sem Value).run P W = .ok v W) (hv : v.oneCell' = true) : Rd P o τ H X (.p (.v v)) := by
  apply Rd.pure;intro L ρ a w he _
  have e1 := he x
  have e2 := he y
  rw [hx] at e1
  rw [hy] at e2
  refine ⟨v,RV.v_mk hv,fun W => ?_⟩
  have : execOp a.eval o = (do let v ← (do eqGuard op T x y (a.eval x) (a.eval y);binOp op T (a.eval x) (a.eval y));pure (.value v)) := by simp only [execOp,ho]
  rw [this,e1.v_eq,e2.v_eq,Sem.run_bind,h]
  rfl
variable {T : TypeId} {x y : Operand} {k k' : IntKind} {a b r : Int}
theorem run_addw (hr : k.wrap (a + b) = r) : ∀ W,(do eqGuard .add T x y (.int k a) (.int k b);binOp .add T (.int k a) (.int k b) : Sem Value).run P W = .ok (.int k r) W := fun W => by simp [eqGuard,binOp,Op.intArith,hr]
theorem run_subw (hr : k.wrap (a - b) = r) : ∀ W,(do eqGuard .sub T x y (.int k a) (.int k b);binOp .sub T (.int k a) (.int k b) : Sem Value).run P W = .ok (.int k r) W := fun W => by simp [eqGuard,binOp,Op.intArith,hr]
theorem run_mulw (hr : k.wrap (a * b) = r) : ∀ W,(do eqGuard .mul T x y (.int k a) (.int k b);binOp .mul T (.int k a) (.int k b) : Sem Value).run P W = .ok (.int k r) W := fun W => by simp [eqGuard,binOp,Op.intArith,hr]
theorem run_and (hr : bits .and k a b = r) : ∀ W,(do eqGuard .and T x y (.int k a) (.int k b);binOp .and T (.int k a) (.int k b) : Sem Value).run P W = .ok (.int k r) W := fun W => by simp [eqGuard,binOp,intBits_and,hr]
theorem run_or (hr : bits .or k a b = r) : ∀ W,(do eqGuard .or T x y (.int k a) (.int k b);binOp .or T (.int k a) (.int k b) : Sem Value).run P W = .ok (.int k r) W := fun W => by simp [eqGuard,binOp,intBits_or,hr]
theorem run_shl (hk : k.bits = 64) (h0 : 0 ≤ b) (h1 : b ≤ 64) (hr : k.wrap (a * 2 ^ b.toNat) = r) : ∀ W,(do eqGuard .shl T x y (.int k a) (.int k' b);binOp .shl T (.int k a) (.int k' b) : Sem Value).run P W = .ok (.int k r) W := fun W => by
  have q1 : ¬ b < 0 := by omega
  have q2 : min b.toNat 64 = b.toNat := by omega
  simp [eqGuard,binOp,Op.shift,q1,hk,q2,hr]
theorem run_shr (hk : k.bits = 64) (h0 : 0 ≤ b) (h1 : b ≤ 64) (hr : a / 2 ^ b.toNat = r) : ∀ W,(do eqGuard .shr T x y (.int k a) (.int k' b);binOp .shr T (.int k a) (.int k' b) : Sem Value).run P W = .ok (.int k r) W := fun W => by
  have q1 : ¬ b < 0 := by omega
  have q2 : min b.toNat 64 = b.toNat := by omega
  simp [eqGuard,binOp,Op.shift,q1,hk,q2]
  first | exact hr | (rw [Int.fdiv_eq_ediv_of_nonneg _ (Int.le_of_lt (Int.pow_pos (by decide)))];exact hr)
end
theorem wrap_u64 {n : Int} (h0 : 0 ≤ n) (h1 : n < 18446744073709551616) : IntKind.u64.wrap n = n := by
  have e : IntKind.u64.wrap n = n % 18446744073709551616 := by simp [IntKind.wrap,IntKind.signed,IntKind.bits]
  rw [e];omega
theorem bits_or_add {a b : Int} (m : Nat) (h0 : 0 ≤ a) (h1 : a < 18446744073709551616) (h2 : a % 2 ^ m = 0) (h3 : 0 ≤ b) (h4 : b < 2 ^ m) (h5 : a + b < 18446744073709551616) : bits .or .u64 a b = a + b := by
  unfold bits
  have e : IntKind.u64.bits = 64 := rfl
  obtain ⟨A,rfl⟩ := Int.eq_ofNat_of_zero_le h0
  obtain ⟨B,rfl⟩ := Int.eq_ofNat_of_zero_le h3
  have hA : A < 18446744073709551616 := by omega
  have hB : B < 2 ^ m := by exact_mod_cast h4
  have hAm : A % 2 ^ m = 0 := by exact_mod_cast h2
  have hBb : B < 18446744073709551616 := by omega
  dsimp only
  rw [e]
  have n1 : (BitVec.ofInt 64 (A : Int)).toNat = A := by rw [BitVec.toNat_ofInt];omega
  have n2 : (BitVec.ofInt 64 (B : Int)).toNat = B := by rw [BitVec.toNat_ofInt];omega
  rw [BitVec.toNat_or,n1,n2]
  obtain ⟨q,hq⟩ : ∃ q,A = 2 ^ m * q := ⟨A / 2 ^ m,by have := Nat.div_add_mod A (2 ^ m);omega⟩
  rw [hq,← Nat.two_pow_add_eq_or_of_lt hB q,← hq]
  rw [wrap_u64 (by omega) (by omega)]
  omega
theorem bits_and_mask {a : Int} (h0 : 0 ≤ a) (h1 : a < 18446744073709551616) : bits .and .u64 a 4294967295 = a % 4294967296 := by
  unfold bits
  have e : IntKind.u64.bits = 64 := rfl
  obtain ⟨A,rfl⟩ := Int.eq_ofNat_of_zero_le h0
  dsimp only
  rw [e]
  have n1 : (BitVec.ofInt 64 (A : Int)).toNat = A := by rw [BitVec.toNat_ofInt];omega
  have n2 : (BitVec.ofInt 64 (4294967295 : Int)).toNat = 2 ^ 32 - 1 := by decide
  rw [BitVec.toNat_and,n1,n2,Nat.and_two_pow_sub_one_eq_mod]
  rw [wrap_u64 (by omega) (by omega)]
  omega
theorem GC.of_vals {P : Program} {f : FuncId} {args : List AV} {x : AV} {r : Value} {vs : List Value} (hr : ∀ {L : Nat → Prop} {ρ : Nat → Value} {w : World},RV L ρ (ofO []) w x r) (hv : vals args = some vs) (h : ∀ w,Calls P f vs.toArray w fun e w' => e = .returned r ∧ Grow w w') : GC P f args [] x [] := by
  intro L w cs ρ fp hL hargs hob hdj hLf
  have hcs := vals_eq hv hargs
  subst hcs
  refine Calls.mono (h w) ?_
  rintro e w' ⟨rfl,g⟩
  refine ⟨x,[],⟨rfl,rfl⟩,r,ρ,fun _ => [],rfl,⟨g.below.os,g.below.tape,g.below.output,g.size,fun b hb _ => g.below.block b hb,fun b o hb hlt => ?_⟩,hr,fun i => rfl,by simp,by simp⟩
  rcases hb with ⟨i,hi⟩ | hb
  · have := (hob i).only hi
    cases this.1
  · exact g.nf b o hb hlt
theorem RV.tupv {L : Nat → Prop} {ρ : Nat → Value} {H : Nat → AO} {w : World} : ∀ {l : List AV} {cs : List Value},l = cs.map (fun c => .p (.v c)) → cs.all (·.oneCell') = true → RV L ρ H w (.tup l) (.tuple cs.toArray) := fun {l cs} h1 h2 => by
  subst h1
  rw [RV]
  exact ⟨cs,rfl,RVL.pv cs h2⟩

def swp (a b i : Nat) : Nat := if i = a then b else if i = b then a else i
theorem swp_swp (a b i : Nat) : swp a b (swp a b i) = i := by
  unfold swp
  split
  · rename_i h;subst h
    by_cases e : b = i
    · subst e;simp
    · rw [if_neg e,if_pos rfl]
  · rename_i h
    split
    · rename_i h2;subst h2;simp
    · rename_i h2;first | rfl | rw [if_neg h,if_neg h2]
theorem swp_inj {a b i j : Nat} (h : swp a b i = swp a b j) : i = j := by rw [← swp_swp a b i,h,swp_swp]
mutual
def per (a b : Nat) : AV → AV
  | .own id => .own (swp a b id)
  | .sub id off len => .sub (swp a b id) off len
  | .ptr id r k => .ptr (swp a b id) r k
  | .agg l => .agg (perL a b l)
  | .tup l => .tup (perL a b l)
  | .clo fn f l => .clo fn (perL a b f) (perL a b l)
  | x => x
def perL (a b : Nat) : List AV → List AV
  | [] => []
  | x :: l => per a b x :: perL a b l
end
def AO.per (a b : Nat) : AO → AO
  | .box T p cells => .box T p (perL a b cells)
  | o => o
theorem perL_length (a b : Nat) : ∀ l,(perL a b l).length = l.length
  | [] => rfl
  | x :: xs => by rw [perL,List.length_cons,perL_length a b xs,List.length_cons]
theorem AO.per_here (a b : Nat) (o : AO) : (o.per a b).here = o.here := by cases o <;> rfl
theorem AO.per_len (a b : Nat) (o : AO) : (o.per a b).len = o.len := by cases o <;> rfl
theorem AO.per_sz (a b : Nat) (o : AO) : (o.per a b).sz = o.sz := by
  cases o with
  | box T p cells => exact perL_length a b cells
  | _ => rfl
theorem per_cell (a b : Nat) (x : AV) (h : x.cell = true) : (per a b x).cell = true := by
  cases x <;> simp only [AV.cell,Bool.false_eq_true] at h <;> simp only [per] <;> rfl
theorem perL_cell (a b : Nat) : ∀ (l : List AV),(∀ x ∈ l,x.cell = true) → ∀ x ∈ perL a b l,x.cell = true
  | [],h => h
  | y :: l,h => by
    rw [perL]
    intro x hx
    rcases List.mem_cons.1 hx with rfl | hx
    · exact per_cell a b y (h y (by simp))
    · exact perL_cell a b l (fun z hz => h z (by simp [hz])) x hx
section
variable {a b : Nat} {L : Nat → Prop} {ρ : Nat → Value} {H : Nat → AO} {w : World}
theorem live_per {x : Nat} : live L (fun j => ρ (swp a b j)) (fun j => (H (swp a b j)).per a b) x ↔ live L ρ H x := by
  unfold live
  constructor
  · rintro (h | ⟨j,h1,h2⟩)
    · exact .inl h
    · rw [AO.per_here] at h1;exact .inr ⟨_,h1,h2⟩
  · rintro (h | ⟨j,h1,h2⟩)
    · exact .inl h
    · refine .inr ⟨swp a b j,?_,?_⟩
      · rw [AO.per_here,swp_swp];exact h1
      · show (ρ (swp a b (swp a b j))).ownBlock = some x
        rw [swp_swp];exact h2
mutual
theorem RV.per : ∀ (x : AV) {c : Value},RV L ρ H w x c → RV L (fun j => ρ (swp a b j)) (fun j => (H (swp a b j)).per a b) w (_root_.Go.Proofs.YtohobndkbmpfcaaGreat.per a b x) c
  | .p x,c,h => by
    rw [_root_.Go.Proofs.YtohobndkbmpfcaaGreat.per] <;> try (intros;contradiction)
    rw [RV] at *
    obtain ⟨fp,h1,h2⟩ := h
    exact ⟨fp,h1,fun b hb hl => h2 b hb (live_per.1 hl)⟩
  | .own j,c,h => by
    rw [_root_.Go.Proofs.YtohobndkbmpfcaaGreat.per]
    rw [RV] at *
    rw [swp_swp,AO.per_here]
    exact h
  | .sub j off len,c,h => by
    rw [_root_.Go.Proofs.YtohobndkbmpfcaaGreat.per]
    rw [RV] at *
    rw [swp_swp,AO.per_here,AO.per_len,AO.per_sz]
    exact h
  | .ptr j i kk,c,h => by
    rw [_root_.Go.Proofs.YtohobndkbmpfcaaGreat.per]
    rw [RV] at *
    rw [swp_swp,AO.per_here,AO.per_len,AO.per_sz]
    exact h
  | .rp cells,c,h => by
    rw [_root_.Go.Proofs.YtohobndkbmpfcaaGreat.per] <;> try (intros;contradiction)
    rw [RV] at *
    obtain ⟨b,off,cs,fp,rfl,h1,h2,h3,h4,h5⟩ := h
    exact ⟨b,off,cs,fp,rfl,h1,h2,h3,fun hl => h4 (live_per.1 hl),fun b hb hl => h5 b hb (live_per.1 hl)⟩
  | .agg l,c,h => by
    rw [_root_.Go.Proofs.YtohobndkbmpfcaaGreat.per]
    rw [RV] at *
    obtain ⟨cs,rfl,h1⟩ := h
    exact ⟨cs,rfl,RVL.per l h1⟩
  | .tup l,c,h => by
    rw [_root_.Go.Proofs.YtohobndkbmpfcaaGreat.per]
    rw [RV] at *
    obtain ⟨cs,rfl,h1⟩ := h
    exact ⟨cs,rfl,RVL.per l h1⟩
  | .clo fn f l,c,h => by
    rw [_root_.Go.Proofs.YtohobndkbmpfcaaGreat.per]
    rw [RV] at *
    obtain ⟨fs,cs,rfl,h1,h2⟩ := h
    exact ⟨fs,cs,rfl,RVL.per f h1,RVL.per l h2⟩
  | .dead,c,h => by
    rw [_root_.Go.Proofs.YtohobndkbmpfcaaGreat.per] <;> try (intros;contradiction)
    rw [RV] at *;exact h
  | .bad,c,h => by
    rw [_root_.Go.Proofs.YtohobndkbmpfcaaGreat.per] <;> try (intros;contradiction)
    rw [RV];trivial
theorem RVL.per : ∀ (x : List AV) {c : List Value},RVL L ρ H w x c → RVL L (fun j => ρ (swp a b j)) (fun j => (H (swp a b j)).per a b) w (perL a b x) c
  | [],c,h => by rw [perL];rw [RVL] at *;exact h
  | x :: xs,c,h => by
    rw [perL]
    rw [RVL] at *
    obtain ⟨c,r,rfl,h1,h2⟩ := h
    exact ⟨c,r,rfl,RV.per x h1,RVL.per xs h2⟩
end
end
section
variable {P : Program} {L O : Nat → Prop} {w0 : World} {N : Nat} {τ : Nat → AV} {H : Nat → AO} {Q : AQ} {ops : Array Oper} {l : List Oper}
theorem RR.swap {ρ : Nat → Value} {fp : Nat → List Nat} {act : Act} {w : World} (h : RR L O w0 N τ H ρ fp act w) (a b : Nat) : RR L O w0 N (fun t => per a b (τ t)) (fun j => (H (swp a b j)).per a b) (fun j => ρ (swp a b j)) (fun j => fp (swp a b j)) act w := by
  refine ⟨h.chg,h.size,h.defers,fun t => RV.per _ (h.tm t),fun j => ?_,fun i j hij x hx => h.dj _ _ (fun e => hij (swp_inj e)) x hx,fun j => h.own _,h.lo⟩
  have := h.ob (swp a b j)
  cases hj : H (swp a b j) with
  | box T p cells =>
    rw [hj] at this
    obtain ⟨xs,h1,h2,h3,h4,h5⟩ := this
    exact ⟨xs,RVL.per cells h1,perL_cell a b cells h2,by rw [perL_length];exact h3,h4,h5⟩
  | arr e sz rows =>
    rw [hj] at this
    obtain ⟨xs,fr,h1,h2,h3,h4,h5⟩ := this
    exact ⟨xs,fr,h1,fun b hb hl => h2 b hb (live_per.1 hl),h3,h4,h5⟩
  | gone => rw [hj] at this;exact this
theorem AW.swap (a b : Nat) {c : Code} (h : AW P L O w0 N c (fun t => per a b (τ t)) (fun j => (H (swp a b j)).per a b) Q) : AW P L O w0 N c τ H Q := fun ρ fp act w hr => h _ _ act w (hr.swap a b)
theorem AL.swap (a b : Nat) (h : AL P L O w0 N ops l (fun t => per a b (τ t)) (fun j => (H (swp a b j)).per a b) Q) : AL P L O w0 N ops l τ H Q := fun ρ fp act w hr => h _ _ act w (hr.swap a b)
theorem QQ.swap {e : Exit} (a b : Nat) (h : Q e (fun t => per a b (τ t)) (fun j => (H (swp a b j)).per a b)) {ρ : Nat → Value} {fp : Nat → List Nat} {act : Act} {w : World} (hr : RR L O w0 N τ H ρ fp act w) : QQ L O w0 N Q e act w := ⟨_,_,_,_,hr.swap a b,h⟩
end

section
variable {P : Program} {L O : Nat → Prop} {w0 : World} {N : Nat} {τ τ' : Nat → AV} {H H' : Nat → AO} {Q : AQ} {ops : Array Oper} {o : Oper}
def AG1 (P : Program) (L O : Nat → Prop) (w0 : World) (N : Nat) (ops : Array Oper) (f : Nat) (X : Nat → Bool) (n : Nat) (listed : Array Bool) (i : Nat) (τ : Nat → AV) (H : Nat → AO) (Q : AQ) : Prop :=
  ∀ ρ fp a w,RR L O w0 N τ H ρ fp a w → wpOp P ops (QQ L O w0 N Q) i (fun a' w' => (i ≠ f → Keep X ρ H w w') ∧ wpAnyG P .any ops (QQ L O w0 N Q) (Keep X ρ H w) f n (listed.setIfInBounds i true) a' w') a w
theorem AG.two {f i j : Nat} {X : Nat → Bool} {n : Nat} {listed : Array Bool} (hr : Region.ready .any ops listed = [i,j]) (h1 : AG1 P L O w0 N ops f X n listed i τ H Q) (h2 : AG1 P L O w0 N ops f X n listed j τ H Q) : AG P L O w0 N ops f X (n + 1) listed τ H Q := fun ρ fp a w hrr => by
  refine ⟨fun h0 => (by rw [hr] at h0;cases h0),fun k hk => ?_⟩
  rw [hr] at hk
  simp only [List.mem_cons,List.not_mem_nil,or_false] at hk
  rcases hk with rfl | rfl
  · exact h1 ρ fp a w hrr
  · exact h2 ρ fp a w hrr
theorem AG1.st {f i : Nat} {X : Nat → Bool} {n : Nat} {listed : Array Bool} {E : List Nat} (ho : ops[i]? = some o) (hs : St P o N τ H E τ' H') (hX : ∀ id ∈ E,X id = true) (hg : gv τ ops o = some true)
    (h : AG P L O w0 N ops f X n (listed.setIfInBounds i true) τ' H' Q) : AG1 P L O w0 N ops f X n listed i τ H Q := fun ρ fp a w hrr =>
  wpOp_step ho fun K hK => by
    rw [hrr.wanted hg,if_pos rfl]
    exact hs.run hrr (fun a' w' ρ' fp' hr' hmv => hK _ _ ⟨fun _ => (hmv X hX).1,wpAnyG_mono (fun W hW => (hmv X hX).keep hW) _ _ _ _ (h ρ' fp' a' w' hr')⟩)
theorem AG1.stx {f i : Nat} {X : Nat → Bool} {n : Nat} {listed : Array Bool} {E : List Nat} {Z : (Nat → AV) → (Nat → AO) → Prop} (ho : ops[i]? = some o) (hs : StX P o N τ H E Z) (hX : ∀ id ∈ E,X id = true) (hg : gv τ ops o = some true)
    (h : ∀ τ' H',Z τ' H' → AG P L O w0 N ops f X n (listed.setIfInBounds i true) τ' H' Q) : AG1 P L O w0 N ops f X n listed i τ H Q := fun ρ fp a w hrr =>
  wpOp_step ho fun K hK => by
    rw [hrr.wanted hg,if_pos rfl]
    exact hs.run hrr (fun τ' H' a' w' ρ' fp' hz hr' hmv => hK _ _ ⟨fun _ => (hmv X hX).1,wpAnyG_mono (fun W hW => (hmv X hX).keep hW) _ _ _ _ (h τ' H' hz ρ' fp' a' w' hr')⟩)
def sameX (B : List (Nat × AO)) (H : Nat → AO) : List Nat → Prop
  | [] => True
  | i :: l => ofO B i = H i ∧ sameX B H l
theorem sameX.at {B : List (Nat × AO)} : ∀ {X : List Nat},sameX B H X → ∀ i ∈ X,ofO B i = H i
  | [],_,i,hi => by cases hi
  | j :: l,h,i,hi => by
    rcases List.mem_cons.1 hi with rfl | hi
    · exact h.1
    · exact sameX.at h.2 i hi
theorem AG.tidyX (T : List (Nat × AV)) (B : List (Nat × AO)) {X : List Nat} {f n : Nat} {listed : Array Bool} (h1 : allT T τ) (h2 : allO B H) (hX : sameX B H X) (h : AG P L O w0 N ops f (inK X) n listed (ofT T) (ofO B) Q) : AG P L O w0 N ops f (inK X) n listed τ H Q := fun ρ fp a w hr => by
  obtain ⟨fp',hr',_⟩ := hr.weak h1.weak h2.weak
  have e : Keep (inK X) ρ (ofO B) w = Keep (inK X) ρ H w := by
    funext W
    unfold Keep
    have hh : ∀ id,inK X id = true → ofO B id = H id := fun id hid => hX.at id (by unfold inK at hid;rwa [List.contains_iff_mem] at hid)
    refine propext ⟨fun q => ⟨q.1,fun b hb hn => q.2 b hb fun id h3 h4 => hn id h3 (by rw [← hh id h3];exact h4)⟩,fun q => ⟨q.1,fun b hb hn => q.2 b hb fun id h3 h4 => hn id h3 (by rw [hh id h3];exact h4)⟩⟩
  rw [← e]
  exact h ρ fp' a w hr'
end

theorem RWL.flat_fp {w : World} {st : Bool} : ∀ {x : List PV} {c : List Value} {fp : List Nat},RWL w st x c fp → (∀ p ∈ x,∃ v,p = PV.v v) → fp = []
  | [],c,fp,h,_ => by rw [RWL] at h;exact h.2
  | x :: xs,c,fp,h,hf => by
    rw [RWL] at h
    obtain ⟨c,r,f1,f2,rfl,rfl,h1,h2⟩ := h
    obtain ⟨v,rfl⟩ := hf x (by simp)
    rw [RW] at h1
    rw [h1.2.1,RWL.flat_fp h2 (fun p hp => hf p (by simp [hp]))]
    rfl
theorem RWR.flat_fp {w : World} {st : Bool} {sz : Nat} : ∀ {x : List (List PV)} {c : List Value} {fp : List Nat},RWR w st sz x c fp → (∀ r ∈ x,∀ p ∈ r,∃ v,p = PV.v v) → fp = []
  | [],c,fp,h,_ => by rw [RWR] at h;exact h.2
  | x :: xs,c,fp,h,hf => by
    rw [RWR] at h
    obtain ⟨hl,c,r,f1,f2,rfl,rfl,h1,h2⟩ := h
    rw [h1.flat_fp (hf x (by simp)),RWR.flat_fp h2 (fun r hr => hf r (by simp [hr]))]
    rfl
theorem flat_rowsOf {α : Type} {enc : α → List Value} {l : List α} : ∀ r ∈ rowsOf enc l,∀ p ∈ r,∃ v,p = PV.v v := fun r hr p hp => by
  unfold rowsOf at hr
  obtain ⟨a,_,rfl⟩ := List.mem_map.1 hr
  obtain ⟨v,_,rfl⟩ := List.mem_map.1 hp
  exact ⟨v,rfl⟩
section
variable {P : Program} {N : Nat} {τ : Nat → AV} {H : Nat → AO} {o : Oper}
theorem St.lendO (id : Nat) {y : Operand} {l : List Operand} {ts : Array TypeId} {f : FuncId} {fn : Func} {args : List AV} {i sz : Nat} {e : TypeId} {rows : List (List PV)} (ho : o.op = .call { callee := .value y,args := l.toArray,argTypes := ts }) (ht : ∀ s,o.dst = some s → s < N)
    (hy : ev τ y = .clo (.func f) [] []) (hf : P.funcs[f]? = some fn) (hf1 : (fn.name == "runtime.NumGoroutine") = false) (hf2 : fn.body.isNone = false) (hc : GC P f args [] (.own i) [(i,.arr ⟨e,none⟩ sz rows)]) (hfl : ∀ r ∈ rows,∀ p ∈ r,∃ v,p = PV.v v) (ha : lendL H (l.map (ev τ)) = args) :
    St P o N τ H [] (updo (fun t => kil (one? id) (τ t)) o.dst (.own id)) (upd (fun j => (H j).kil (one? id)) id (.arr ⟨e,none⟩ sz rows)) := by
  refine ⟨?_⟩
  intro L O w0 ρ fp a w K Q hrr hk
  have ey := hrr.ev y
  rw [hy,RV] at ey
  obtain ⟨cf,cc,ey,e1,e2⟩ := ey
  rw [RVL] at e1 e2
  subst e1 e2
  have hv := RVL.lend (fun id => ⟨_,hrr.ob id⟩) _ (RVL.map (fun z => hrr.ev z) l)
  rw [ha] at hv
  have hcall := hc L0 w (l.map a.eval) ρ0 (fun _ => []) (fun _ q => q.elim) hv (fun i => rfl) (by simp) (by simp)
  have hrun : (execOp a.eval o).run P w = .ok (.enter f (l.map a.eval).toArray) w := by
    simp only [execOp,ho,resolve,Deferred.ofValue,ey,invoke,callFunc,Sem.run_bind,Sem.run_pure,Result.andThen_ok,run_program,hf,hf1,hf2,Bool.false_eq_true,if_false,List.map_toArray,List.append_toArray,List.nil_append,List.append_nil]
  unfold Oper.wp
  rw [hrun]
  show Calls P f _ w _
  refine Calls.mono hcall ?_
  rintro e w' ⟨_,_,⟨rfl,rfl⟩,v,ρ',fp',rfl,g1,g2,g3,g4,g5⟩
  have hg : Chg (fun _ => False) w w' := ⟨g1.os,g1.tape,g1.output,g1.size,fun b hb _ => g1.block b hb (by simp),fun b o hb hlt => g1.nf b o (by simpa using hb) hlt⟩
  have ho1 : ofO [(i,AO.arr ⟨e,none⟩ sz rows)] i = .arr ⟨e,none⟩ sz rows := by simp [ofO]
  have gi := g3 i
  rw [ho1] at gi
  rw [RV,ho1] at g2
  have hve : v = ρ' i := g2.2 rfl
  obtain ⟨xs,fr,k1,k2,k3,k4,_⟩ := gi
  have hfr := k1.flat_fp hfl
  subst hfr
  have hnew : ∀ b ∈ fp' i,w.heap.size ≤ b := fun b hb => by
    rcases (g5 i b hb).1 with ⟨j,q⟩ | q
    · cases q
    · exact q
  have hlt0 : w0.heap.size ≤ w.heap.size := hrr.chg.size
  have hr' := hrr.turnK (one? id) (id := id) (o' := .arr ⟨e,none⟩ sz rows) (v' := ρ' i) (f' := fp' i) (hrr.grow hg).chg hg.size (fun b hb _ => hg.block b hb (fun q => q))
    (fun hk => by simp [one?] at hk) (fun _ b hb => .inl (hnew b (by rw [k4];simpa [Option.mem_toList] using hb)))
    (fun E => ⟨xs,[],k1,by simp,k3,k4,fun u hu => by cases hu⟩)
    (fun b hb => ⟨.inr (Nat.le_trans hlt0 (hnew b hb)),fun hL => by have := hrr.lo b hL;have := hnew b hb;omega⟩)
    (fun j hj b hb hbj => by have := (hrr.ob j).lt b hbj;have := hnew b hb;omega)
  refine hk _ _ _ _ (hr'.puto o.dst (c := v) ?_ ht) (fun X hX => ⟨⟨hg.size,fun b hb _ => hg.block b hb (fun q => q)⟩,fun j hj hh b hb => ?_⟩)
  · rw [RV,upd_same,upd_same]
    exact ⟨g2.1,fun _ => hve⟩
  · by_cases ej : j = id
    · subst ej
      rw [upd_same] at hb
      exact .inl (hnew b (by rw [k4];simpa [Option.mem_toList] using hb))
    · rw [upd_ne _ _ ej] at hb hh
      rw [AO.kil_here] at hh
      exact .inr ⟨j,hj,hh,hb⟩
end

def KeepA (w W : World) : Prop := w.heap.size ≤ W.heap.size ∧ ∀ b,b < w.heap.size → W.heap[b]? = w.heap[b]?
theorem KeepA.refl (w : World) : KeepA w w := ⟨Nat.le_refl _,fun _ _ => rfl⟩
theorem KeepA.trans {u v w : World} (h : KeepA u v) (h2 : KeepA v w) : KeepA u w := ⟨Nat.le_trans h.1 h2.1,fun b hb => by rw [h2.2 b (Nat.lt_of_lt_of_le hb h.1),h.2 b hb]⟩
theorem KeepA.of {ρ : Nat → Value} {H : Nat → AO} {w W : World} (h : Keep (fun _ => false) ρ H w W) : KeepA w W := ⟨h.1,fun b hb => h.2 b hb fun id q => by cases q⟩
theorem KeepA.to {ρ : Nat → Value} {H : Nat → AO} {w W : World} (h : KeepA w W) : Keep (fun _ => false) ρ H w W := ⟨h.1,fun b hb _ => h.2 b hb⟩
section
variable {P : Program} {ops : Array Oper} {Q : Exit → Act → World → Prop} {md : Region.Mode} {F : List Nat}
def wpAnyF (P : Program) (md : Region.Mode) (ops : Array Oper) (Q : Exit → Act → World → Prop) (F : List Nat) : Nat → Array Bool → Act → World → Prop
  | 0,listed,a,w => Region.ready md ops listed = [] ∧ Q .normal a w
  | fuel + 1,listed,a,w =>
    (Region.ready md ops listed = [] → Q .normal a w) ∧
    ∀ i ∈ Region.ready md ops listed,wpOp P ops Q i (fun a' w' => (F.contains i = false → KeepA w w') ∧ wpAnyF P md ops Q F fuel (listed.setIfInBounds i true) a' w') a w
theorem wpAny_of_F : ∀ (fuel : Nat) (listed : Array Bool) (a : Act) (w : World),wpAnyF P md ops Q F fuel listed a w → wpAny P md ops Q fuel listed a w
  | 0,_,_,_,h => h
  | fuel + 1,_,_,_,h => ⟨h.1,fun i hi => wpOp_mono (fun a' w' h' => wpAny_of_F fuel _ a' w' h'.2) (h.2 i hi)⟩
def reachF (md : Region.Mode) (ops : Array Oper) (F : List Nat) (listed : Array Bool) (i : Nat) : Bool := F.all fun j => listed.getD j true || (reachB md ops j).getD i false
theorem YieldsIf.less {S S' : World → Prop} {o : Oper} {v : Value} {a : Act} (h : YieldsIf P ops S o v a) (hs : ∀ w,S' w → S w) : YieldsIf P ops S' o v a := by
  rcases h with ⟨h1,h2⟩ | h
  · exact .inl ⟨h1,fun w hw => h2 w (hs w hw)⟩
  · exact .inr h
theorem wpAnyF_first {i : Nat} {oi : Oper} {v : Value} (hi : ops[i]? = some oi) (hsel : ∀ (j : Nat) (o : Oper) cs b,ops[j]? = some o → o.op ≠ .select cs b)
    (hQ : ∀ c a w,Q (.panic c) (a.put oi.dst v) w → Q (.panic c) a w) :
    ∀ (fuel : Nat) (listed : Array Bool) (a : Act) (w : World),
      (∀ j oj,ops[j]? = some oj → j ≠ i → listed.getD j true = false → (∀ e ∈ oj.after,Region.binds md e = true → e.on ≠ i) → oi.apart ops oj = true) →
      (∀ j,F.contains j = true → listed.getD j true = false → (reachB md ops j).getD i false = true) →
      Closed md ops listed → i ∈ Region.ready md ops listed → YieldsIf P ops (KeepA w) oi v a →
      wpAnyF P md ops Q F fuel (listed.setIfInBounds i true) (a.put oi.dst v) w → wpAnyF P md ops Q F (fuel + 1) listed a w := by
  intro fuel
  induction fuel with
  | zero =>
    intro listed a w _ _ _ hr hy H
    refine ⟨fun h => (by rw [h] at hr;cases hr),fun j hj => ?_⟩
    by_cases hji : j = i
    · subst hji;exact hy.wpOp hi (KeepA.refl w) ⟨fun _ => KeepA.refl w,H⟩
    · have := ready_mono hj hji
      rw [H.1] at this
      cases this
  | succ fuel ih =>
    intro listed a w hfree hF hcl hr hy H
    refine ⟨fun h => (by rw [h] at hr;cases hr),fun j hj => ?_⟩
    by_cases hji : j = i
    · subst hji;exact hy.wpOp hi (KeepA.refl w) ⟨fun _ => KeepA.refl w,H⟩
    · have h1 := H.2 j (ready_mono hj hji)
      obtain ⟨hjun,oj,hoj,hall⟩ := mem_ready.1 hj
      have hnot : ∀ e ∈ oj.after,Region.binds md e = true → e.on ≠ i := fun e he hb heq => by
        have h1 := hall e he hb
        have h0 := (mem_ready.1 hr).1
        rw [heq] at h1
        rcases Nat.lt_or_ge i listed.size with h' | h'
        · simp [h'] at h0 h1;rw [h0] at h1;cases h1
        · simp [Array.getElem?_eq_none h'] at h1
      have h2 := wpOp_putIf hoj (hfree j oj hoj hji hjun hnot) (fun cs b => hsel i oi cs b hi) (fun cs b => hsel j oj cs b hoj) hQ hy h1
      have hun' : ∀ k,(listed.setIfInBounds j true).getD k true = false → listed.getD k true = false := fun k hun => by
        by_cases hjk : j = k
        · subst hjk;exact hjun
        · rw [getD_set_ne true hjk] at hun;exact hun
      have hjf : F.contains j = false := by
        rcases q : F.contains j with _ | _
        · rfl
        · exfalso
          have hl := reachB_listed hcl (fun of_ hof e he hb => by rw [hoj] at hof;injection hof with hof;subst hof;exact hall e he hb) (hF j q hjun)
          rcases hl with hl | hl
          · exact hji hl.symm
          · have h0 := (mem_ready.1 hr).1
            rcases Nat.lt_or_ge i listed.size with h' | h'
            · simp [h'] at h0 hl;rw [h0] at hl;cases hl
            · simp [Array.getElem?_eq_none h'] at hl
      refine wpOp_mono (fun a' w' h3 => ⟨fun _ => h3.2.1 hjf,ih (listed.setIfInBounds j true) a' w' (fun k ok hk hki hun hno => hfree k ok hk hki (hun' k hun) hno) (fun k hk hun => hF k hk (hun' k hun)) (hcl.set hj) (ready_mono hr (Ne.symm hji)) (YieldsIf.less h3.1 fun W hW => (h3.2.1 hjf).trans hW) ?_⟩) h2
      rw [Array.setIfInBounds_comm _ _ hji]
      exact h3.2.2
theorem wpAnyF_firstP {i : Nat} {oi : Oper} {v : Value} (hi : ops[i]? = some oi) (hsel : ∀ (j : Nat) (o : Oper) cs b,ops[j]? = some o → o.op ≠ .select cs b)
    (hQ : ∀ c a w,Q (.panic c) (a.put oi.dst v) w → Q (.panic c) a w) :
    ∀ (fuel : Nat) (listed : Array Bool) (a : Act) (w : World),
      (∀ j oj,ops[j]? = some oj → j ≠ i → listed.getD j true = false → (∀ e ∈ oj.after,Region.binds md e = true → e.on ≠ i) → oi.apart ops oj = true) →
      Closed md ops listed → i ∈ Region.ready md ops listed → YieldsIf P ops (fun _ => True) oi v a →
      wpAnyF P md ops Q F fuel (listed.setIfInBounds i true) (a.put oi.dst v) w → wpAnyF P md ops Q F (fuel + 1) listed a w := by
  intro fuel
  induction fuel with
  | zero =>
    intro listed a w _ _ hr hy H
    refine ⟨fun h => (by rw [h] at hr;cases hr),fun j hj => ?_⟩
    by_cases hji : j = i
    · subst hji;exact hy.wpOp hi trivial ⟨fun _ => KeepA.refl w,H⟩
    · have := ready_mono hj hji
      rw [H.1] at this
      cases this
  | succ fuel ih =>
    intro listed a w hfree hcl hr hy H
    refine ⟨fun h => (by rw [h] at hr;cases hr),fun j hj => ?_⟩
    by_cases hji : j = i
    · subst hji;exact hy.wpOp hi trivial ⟨fun _ => KeepA.refl w,H⟩
    · have h1 := H.2 j (ready_mono hj hji)
      obtain ⟨hjun,oj,hoj,hall⟩ := mem_ready.1 hj
      have hnot : ∀ e ∈ oj.after,Region.binds md e = true → e.on ≠ i := fun e he hb heq => by
        have h1 := hall e he hb
        have h0 := (mem_ready.1 hr).1
        rw [heq] at h1
        rcases Nat.lt_or_ge i listed.size with h' | h'
        · simp [h'] at h0 h1;rw [h0] at h1;cases h1
        · simp [Array.getElem?_eq_none h'] at h1
      have h2 := wpOp_putIf hoj (hfree j oj hoj hji hjun hnot) (fun cs b => hsel i oi cs b hi) (fun cs b => hsel j oj cs b hoj) hQ hy h1
      have hun' : ∀ k,(listed.setIfInBounds j true).getD k true = false → listed.getD k true = false := fun k hun => by
        by_cases hjk : j = k
        · subst hjk;exact hjun
        · rw [getD_set_ne true hjk] at hun;exact hun
      refine wpOp_mono (fun a' w' h3 => ⟨h3.2.1,ih (listed.setIfInBounds j true) a' w' (fun k ok hk hki hun hno => hfree k ok hk hki (hun' k hun) hno) (hcl.set hj) (ready_mono hr (Ne.symm hji)) h3.1 ?_⟩) h2
      rw [Array.setIfInBounds_comm _ _ hji]
      exact h3.2.2
theorem wpAnyF_take {i : Nat} {oi : Oper} {v : Value} {fuel : Nat} {listed : Array Bool} {a : Act} {w : World} (hi : ops[i]? = some oi)
    (hs : Region.noSelect ops = true) (hf : Region.free md ops listed i = true) (hr : (Region.ready md ops listed).contains i = true) (hw : reachF md ops F listed i = true) (hc : closedB md ops listed = true)
    (hQ : ∀ c a w,Q (.panic c) (a.put oi.dst v) w → Q (.panic c) a w) (hy : YieldsIf P ops (KeepA w) oi v a)
    (h : wpAnyF P md ops Q F fuel (listed.setIfInBounds i true) (a.put oi.dst v) w) : wpAnyF P md ops Q F (fuel + 1) listed a w :=
  wpAnyF_first hi (Region.noSelect_spec hs) hQ fuel listed a w (Region.free_spec hi hf) (fun j hj hun => by
    have := List.all_eq_true.1 hw j (List.contains_iff_mem.1 hj)
    rw [hun,Bool.false_or] at this
    exact this) (Closed.of hc) (by simpa using hr) hy h
theorem wpAnyF_takeP {i : Nat} {oi : Oper} {v : Value} {fuel : Nat} {listed : Array Bool} {a : Act} {w : World} (hi : ops[i]? = some oi)
    (hs : Region.noSelect ops = true) (hf : Region.free md ops listed i = true) (hr : (Region.ready md ops listed).contains i = true) (hc : closedB md ops listed = true)
    (hQ : ∀ c a w,Q (.panic c) (a.put oi.dst v) w → Q (.panic c) a w) (hy : YieldsIf P ops (fun _ => True) oi v a)
    (h : wpAnyF P md ops Q F fuel (listed.setIfInBounds i true) (a.put oi.dst v) w) : wpAnyF P md ops Q F (fuel + 1) listed a w :=
  wpAnyF_firstP hi (Region.noSelect_spec hs) hQ fuel listed a w (Region.free_spec hi hf) (Closed.of hc) (by simpa using hr) hy h
theorem wpAnyF_one {i : Nat} {o : Oper} {fuel : Nat} {listed : Array Bool} {a : Act} {w : World} (ho : ops[i]? = some o) (hr : Region.ready md ops listed = [i])
    (h : ∀ K' : Act → World → Prop,(∀ a w',(F.contains i = false → KeepA w w') → wpAnyF P md ops Q F fuel (listed.setIfInBounds i true) a w' → K' a w') → if Region.wanted o (yielded ops a.tmps) = true then Oper.wp P o a w K' Q else K' (a.put o.dst undef) w) :
    wpAnyF P md ops Q F (fuel + 1) listed a w := by
  refine ⟨fun h0 => (by rw [hr] at h0;cases h0),fun j hj => ?_⟩
  rw [hr] at hj
  obtain rfl := List.mem_singleton.1 hj
  exact wpOp_step ho (fun K' hK => h K' (fun a w h1 h2 => hK a w ⟨h1,h2⟩))
theorem wpAnyF_done {listed : Array Bool} {a : Act} {w : World} (hr : Region.ready md ops listed = []) (h : Q .normal a w) : ∀ fuel,wpAnyF P md ops Q F fuel listed a w
  | 0 => ⟨hr,h⟩
  | _ + 1 => ⟨fun _ => h,by rw [hr];simp⟩
theorem wp_region_F {id : Nat} {a : Act} {w : World} (hm : P.follows .mixedOrders = true) (h : wpAnyF P .any ops Q F ops.size (Array.replicate ops.size false) a w.drew) : (Code.region id ops true).wp P Q a w :=
  wp_region_any hm (wpAny_of_F _ _ _ _ h)
end
structure Pd (P : Program) (o : Oper) (τ : Nat → AV) (H : Nat → AO) (x : AV) : Prop where
  run : ∀ {L O : Nat → Prop} {w0 : World} {N : Nat} {ρ : Nat → Value} {fp : Nat → List Nat} {a : Act} {w : World},RR L O w0 N τ H ρ fp a w →
    ∃ c,RV L ρ H w x c ∧ ∀ W,(execOp a.eval o).run P W = .ok (.value c) W
section
variable {P : Program} {o : Oper} {τ : Nat → AV} {H : Nat → AO}
theorem Pd.pure {x : AV} (h : ∀ {L : Nat → Prop} {ρ : Nat → Value} {a : Act} {w : World},(∀ y,RV L ρ H w (ev τ y) (a.eval y)) → ∃ c,RV L ρ H w x c ∧ ∀ W,(execOp a.eval o).run P W = .ok (.value c) W) : Pd P o τ H x :=
  ⟨fun hr => h (fun y => hr.ev y)⟩
theorem pd_mvx {x : Operand} {v : AV} (ho : o.op = .move x ∨ o.op = .assign x) (hv : ev τ x = v) : Pd P o τ H v := by
  subst hv
  refine Pd.pure fun {L ρ a w} he => ⟨a.eval x,he x,fun W => ?_⟩
  rcases ho with ho | ho <;> simp [execOp,ho]
theorem pd_faddr_rp {t : TypeId} {x : Operand} {k off : Nat} {ft : TypeId} {cells : List PV} (ho : o.op = .fieldAddr t x k) (hf : fldA P t k = some (off,ft)) (h0 : P.cellsOf ft ≠ 0) (hd : (P.underlying ft).isSome = true) (hx : ev τ x = .rp cells) : Pd P o τ H (.rp (cells.drop off)) := by
  apply Pd.pure;intro L ρ a w he
  have h := he x
  rw [hx,RV] at h
  obtain ⟨b,c,cs,fp,e,p1,p2,p3,p4,p5⟩ := h
  obtain ⟨f2,q1,q2⟩ := RWL.drop off p1
  exact ⟨_,by rw [RV];exact ⟨b,_,_,f2,rfl,q1,p2.drop off,p3,p4,fun b hb => p5 b (q2 hb)⟩,faddr_run ho hf h0 hd e⟩
theorem pd_faddr {t : TypeId} {x : Operand} {k off : Nat} {ft : TypeId} {id i j : Nat} (ho : o.op = .fieldAddr t x k) (hf : fldA P t k = some (off,ft)) (h0 : P.cellsOf ft ≠ 0) (hd : (P.underlying ft).isSome = true) (hx : ev τ x = .ptr id i j) (hH : (H id).here = true) : Pd P o τ H (.ptr id i (j + off)) := by
  apply Pd.pure;intro L ρ a w he
  have h := he x
  rw [hx,RV] at h
  obtain ⟨p1,g,m,cap,p2,p3⟩ := h.2 hH
  refine ⟨_,?_,faddr_run ho hf h0 hd p3⟩
  rw [RV]
  exact ⟨rfl,fun _ => ⟨p1,g,m,cap,p2,by rw [Nat.add_assoc]⟩⟩
theorem pd_nilc {x : Operand} {id r k : Nat} (ho : o.op = .nilCheck x) (hx : ev τ x = .ptr id r k) (hh : (H id).here = true) : Pd P o τ H (.ptr id r k) := by
  refine Pd.pure fun {L ρ a w} he => ⟨a.eval x,hx ▸ he x,fun W => ?_⟩
  have h := he x
  rw [hx,RV] at h
  obtain ⟨_,g,m,cap,_,e⟩ := h.2 hh
  simp [execOp,ho,e]
end
def AF (P : Program) (L O : Nat → Prop) (w0 : World) (N : Nat) (ops : Array Oper) (F : List Nat) (n : Nat) (listed : Array Bool) (τ : Nat → AV) (H : Nat → AO) (Q : AQ) : Prop :=
  ∀ ρ fp a w,RR L O w0 N τ H ρ fp a w → wpAnyF P .any ops (QQ L O w0 N Q) F n listed a w
section
variable {P : Program} {L O : Nat → Prop} {w0 : World} {N : Nat} {τ τ' : Nat → AV} {H H' : Nat → AO} {Q : AQ} {ops : Array Oper} {o : Oper} {F : List Nat} {n : Nat} {listed : Array Bool}
theorem AW.drawF {id : Nat} (F : List Nat) (hm : P.follows .mixedOrders = true) (h : AF P L O w0 N ops F ops.size (Array.replicate ops.size false) τ H Q) : AW P L O w0 N (.region id ops true) τ H Q := fun ρ fp a w hr =>
  wp_region_F hm (h ρ fp a w.drew hr.drew)
theorem AF.done (hr : Region.ready .any ops listed = []) (h : Q .normal τ H) : AF P L O w0 N ops F n listed τ H Q := fun ρ fp a w hrr =>
  wpAnyF_done hr ⟨τ,H,ρ,fp,hrr,h⟩ n
theorem AF.rd {i : Nat} {x : AV} {t : Nat} (ho : ops[i]? = some o) (hr : Region.ready .any ops listed = [i]) (hrd : Rd P o τ H (fun _ => false) x) (hg : gv τ ops o = some true) (hd : o.dst = some t) (ht : t < N)
    (h : AF P L O w0 N ops F n (listed.setIfInBounds i true) (upd τ t x) H Q) : AF P L O w0 N ops F (n + 1) listed τ H Q := fun ρ fp a w hrr =>
  wpAnyF_one ho hr fun K hK => by
    rw [hrr.wanted hg,if_pos rfl]
    obtain ⟨c,h1,h2⟩ := hrd.run hrr
    unfold Oper.wp
    rw [h2 w (Keep.refl _ _ _ _)]
    refine hK _ _ (fun _ => KeepA.refl _) (h ρ fp _ w ?_)
    rw [hd]
    exact hrr.put h1 ht
theorem AF.no {i : Nat} {t : Nat} (ho : ops[i]? = some o) (hr : Region.ready .any ops listed = [i]) (hg : gv τ ops o = some false) (hd : o.dst = some t) (ht : t < N)
    (h : AF P L O w0 N ops F n (listed.setIfInBounds i true) (upd τ t (.tup [])) H Q) : AF P L O w0 N ops F (n + 1) listed τ H Q := fun ρ fp a w hrr =>
  wpAnyF_one ho hr fun K hK => by
    rw [hrr.wanted hg,if_neg (by simp)]
    refine hK _ _ (fun _ => KeepA.refl _) (h ρ fp _ w ?_)
    rw [hd]
    exact hrr.put (by rw [RV];exact ⟨[],rfl,by simp [RVL]⟩) ht
theorem AF.take {i : Nat} {x : AV} {t : Nat} (ho : ops[i]? = some o) (hr : (Region.ready .any ops listed).contains i = true) (hs : Region.noSelect ops = true) (hfr : Region.free .any ops listed i = true)
    (hb : reachF .any ops F listed i = true) (hc : closedB .any ops listed = true) (hrd : Rd P o τ H (fun _ => false) x) (hg : gv τ ops o = some true) (hd : o.dst = some t) (ht : t < N) (hnp : ∀ c τ H,¬ Q (.panic c) τ H)
    (h : AF P L O w0 N ops F n (listed.setIfInBounds i true) (upd τ t x) H Q) : AF P L O w0 N ops F (n + 1) listed τ H Q := fun ρ fp a w hrr => by
  obtain ⟨c,h1,h2⟩ := hrd.run hrr
  refine wpAnyF_take (v := c) ho hs hfr hr hb hc (fun c a w ⟨τ,H,_,_,_,q⟩ => absurd q (hnp c τ H)) (.inl ⟨hrr.wanted hg,fun W hW => h2 W hW.to⟩) (h ρ fp _ w ?_)
  rw [hd]
  exact hrr.put h1 ht
theorem AF.takeP {i : Nat} {x : AV} {t : Nat} (ho : ops[i]? = some o) (hr : (Region.ready .any ops listed).contains i = true) (hs : Region.noSelect ops = true) (hfr : Region.free .any ops listed i = true)
    (hc : closedB .any ops listed = true) (hrd : Pd P o τ H x) (hg : gv τ ops o = some true) (hd : o.dst = some t) (ht : t < N) (hnp : ∀ c τ H,¬ Q (.panic c) τ H)
    (h : AF P L O w0 N ops F n (listed.setIfInBounds i true) (upd τ t x) H Q) : AF P L O w0 N ops F (n + 1) listed τ H Q := fun ρ fp a w hrr => by
  obtain ⟨c,h1,h2⟩ := hrd.run hrr
  refine wpAnyF_takeP (v := c) ho hs hfr hr hc (fun c a w ⟨τ,H,_,_,_,q⟩ => absurd q (hnp c τ H)) (.inl ⟨hrr.wanted hg,fun W _ => h2 W⟩) (h ρ fp _ w ?_)
  rw [hd]
  exact hrr.put h1 ht
theorem AF.skip {i : Nat} {t : Nat} (ho : ops[i]? = some o) (hr : (Region.ready .any ops listed).contains i = true) (hs : Region.noSelect ops = true) (hfr : Region.free .any ops listed i = true)
    (hc : closedB .any ops listed = true) (hg : gv τ ops o = some false) (hd : o.dst = some t) (ht : t < N) (hnp : ∀ c τ H,¬ Q (.panic c) τ H)
    (h : AF P L O w0 N ops F n (listed.setIfInBounds i true) (upd τ t (.tup [])) H Q) : AF P L O w0 N ops F (n + 1) listed τ H Q := fun ρ fp a w hrr => by
  refine wpAnyF_takeP (v := undef) ho hs hfr hr hc (fun c a w ⟨τ,H,_,_,_,q⟩ => absurd q (hnp c τ H)) (.inr ⟨hrr.wanted hg,rfl⟩) (h ρ fp _ w ?_)
  rw [hd]
  exact hrr.put (by rw [RV];exact ⟨[],rfl,by simp [RVL]⟩) ht
theorem keepA_of {E : List Nat} {i : Nat} (hF : F.contains i = true ∨ E = []) {ρ ρ' : Nat → Value} {w w' : World} (hmv : ∀ X : Nat → Bool,(∀ id ∈ E,X id = true) → Mv X ρ H w ρ' H' w') : F.contains i = false → KeepA w w' := fun q => by
  rcases hF with hF | rfl
  · rw [hF] at q;cases q
  · exact KeepA.of (hmv (fun _ => false) (by simp)).1
theorem AF.st {i : Nat} {E : List Nat} (ho : ops[i]? = some o) (hr : Region.ready .any ops listed = [i]) (hs : St P o N τ H E τ' H') (hF : F.contains i = true ∨ E = []) (hg : gv τ ops o = some true)
    (h : AF P L O w0 N ops F n (listed.setIfInBounds i true) τ' H' Q) : AF P L O w0 N ops F (n + 1) listed τ H Q := fun ρ fp a w hrr =>
  wpAnyF_one ho hr fun K hK => by
    rw [hrr.wanted hg,if_pos rfl]
    exact hs.run hrr (fun a' w' ρ' fp' hr' hmv => hK _ _ (keepA_of hF hmv) (h ρ' fp' a' w' hr'))
theorem AF.stx {i : Nat} {E : List Nat} {Z : (Nat → AV) → (Nat → AO) → Prop} (ho : ops[i]? = some o) (hr : Region.ready .any ops listed = [i]) (hs : StX P o N τ H E Z) (hF : F.contains i = true ∨ E = []) (hg : gv τ ops o = some true)
    (h : ∀ τ' H',Z τ' H' → AF P L O w0 N ops F n (listed.setIfInBounds i true) τ' H' Q) : AF P L O w0 N ops F (n + 1) listed τ H Q := fun ρ fp a w hrr =>
  wpAnyF_one ho hr fun K hK => by
    rw [hrr.wanted hg,if_pos rfl]
    exact hs.run hrr (fun τ' H' a' w' ρ' fp' hz hr' hmv => hK _ _ (keepA_of hF hmv) (h τ' H' hz ρ' fp' a' w' hr'))
def AF1 (P : Program) (L O : Nat → Prop) (w0 : World) (N : Nat) (ops : Array Oper) (F : List Nat) (n : Nat) (listed : Array Bool) (i : Nat) (τ : Nat → AV) (H : Nat → AO) (Q : AQ) : Prop :=
  ∀ ρ fp a w,RR L O w0 N τ H ρ fp a w → wpOp P ops (QQ L O w0 N Q) i (fun a' w' => (F.contains i = false → KeepA w w') ∧ wpAnyF P .any ops (QQ L O w0 N Q) F n (listed.setIfInBounds i true) a' w') a w
theorem AF.two {i j : Nat} (hr : Region.ready .any ops listed = [i,j]) (h1 : AF1 P L O w0 N ops F n listed i τ H Q) (h2 : AF1 P L O w0 N ops F n listed j τ H Q) : AF P L O w0 N ops F (n + 1) listed τ H Q := fun ρ fp a w hrr => by
  refine ⟨fun h0 => (by rw [hr] at h0;cases h0),fun k hk => ?_⟩
  rw [hr] at hk
  simp only [List.mem_cons,List.not_mem_nil,or_false] at hk
  rcases hk with rfl | rfl
  · exact h1 ρ fp a w hrr
  · exact h2 ρ fp a w hrr
theorem AF1.st {i : Nat} {E : List Nat} (ho : ops[i]? = some o) (hs : St P o N τ H E τ' H') (hF : F.contains i = true ∨ E = []) (hg : gv τ ops o = some true)
    (h : AF P L O w0 N ops F n (listed.setIfInBounds i true) τ' H' Q) : AF1 P L O w0 N ops F n listed i τ H Q := fun ρ fp a w hrr =>
  wpOp_step ho fun K hK => by
    rw [hrr.wanted hg,if_pos rfl]
    exact hs.run hrr (fun a' w' ρ' fp' hr' hmv => hK _ _ ⟨keepA_of hF hmv,h ρ' fp' a' w' hr'⟩)
theorem AF.bool {b : Bool} {t : Nat} (ht : τ t = .p (.v (.bool b))) (h1 : b = true → AF P L O w0 N ops F n listed (upd τ t (.p (.v (.bool true)))) H Q) (h2 : b = false → AF P L O w0 N ops F n listed (upd τ t (.p (.v (.bool false)))) H Q) : AF P L O w0 N ops F n listed τ H Q := by
  cases b
  · have := h2 rfl;rwa [upd_self ht] at this
  · have := h1 rfl;rwa [upd_self ht] at this
theorem AF.slot (t : Nat) (x : AV) (ht : τ t = x) (h : AF P L O w0 N ops F n listed (upd τ t x) H Q) : AF P L O w0 N ops F n listed τ H Q := by rwa [upd_self ht] at h
theorem AF.obj (i : Nat) (x : AO) (ht : H i = x) (h : AF P L O w0 N ops F n listed τ (upd H i x) Q) : AF P L O w0 N ops F n listed τ H Q := by rwa [upd_self ht] at h
theorem AF.freeze (id : Nat) {e : Pin} {sz : Nat} {rows : List (List PV)} (hH : H id = .arr e sz rows) (h : AF P L O w0 N ops F n listed (fun t => frz id (.lst e.ty sz rows) (τ t)) (frzH id (.lst e.ty sz rows) H) Q) : AF P L O w0 N ops F n listed τ H Q :=
  fun ρ fp a w hr => h ρ _ a w (hr.freeze id hH)
theorem AF.pinB (id : Nat) {T : TypeId} {cells : List AV} {p : Option Value} (hH : H id = .box T p cells) (h : ∀ g,AF P L O w0 N ops F n listed τ (upd H id (.box T (some g) cells)) Q) : AF P L O w0 N ops F n listed τ H Q := fun ρ fp a w hr => h (ρ id) ρ fp a w (hr.pinB hH)
theorem AF.pinA (id : Nat) {e : Pin} {sz : Nat} {rows : List (List PV)} (hH : H id = .arr e sz rows) (h : ∀ g,AF P L O w0 N ops F n listed τ (upd H id (.arr ⟨e.ty,some g⟩ sz rows)) Q) : AF P L O w0 N ops F n listed τ H Q := fun ρ fp a w hr => h (ρ id) ρ fp a w (hr.pinA hH _ (fun u hu => by injection hu with hu;exact hu.symm))
end

-- A value of own rows and of what refers to no memory.
mutual
def ownA : AV → Bool
  | .p (.v _) => true
  | .own _ => true
  | .agg l => ownAL l
  | .tup l => ownAL l
  | _ => false
def ownAL : List AV → Bool
  | [] => true
  | x :: l => ownA x && ownAL l
end
section
variable {L L' : Nat → Prop} {H H' : Nat → AO} {ρ ρ' : Nat → Value} {w w' : World}
mutual
def ownN : AV → List Nat
  | .own id => [id]
  | .agg l => ownNL l
  | .tup l => ownNL l
  | _ => []
def ownNL : List AV → List Nat
  | [] => []
  | x :: l => ownN x ++ ownNL l
end
mutual
theorem RV.owned : ∀ (x : AV) {c : Value},ownA x = true → RV L ρ H w x c → (∀ id ∈ ownN x,(H id).here = true ∧ ρ' id = ρ id) → RV L' ρ' H' w' x c
  | .p (.v v),c,_,h,_ => by
    rw [RV] at *
    obtain ⟨fp,h1,_⟩ := h
    rw [RW] at h1
    obtain ⟨h1,rfl,h2⟩ := h1
    exact ⟨[],by rw [RW];exact ⟨h1,rfl,h2⟩,by simp⟩
  | .own id,c,_,h,k => by
    rw [RV] at *
    obtain ⟨q1,q2⟩ := k id (by simp [ownN])
    exact ⟨h.1,fun q => by rw [h.2 q1,q2]⟩
  | .agg l,c,hf,h,k => by
    unfold ownA at hf
    rw [RV] at *
    obtain ⟨cs,rfl,h1⟩ := h
    exact ⟨cs,rfl,RVL.owned l hf h1 fun id hid => k id (by unfold ownN;exact hid)⟩
  | .tup l,c,hf,h,k => by
    unfold ownA at hf
    rw [RV] at *
    obtain ⟨cs,rfl,h1⟩ := h
    exact ⟨cs,rfl,RVL.owned l hf h1 fun id hid => k id (by unfold ownN;exact hid)⟩
  | .p (.lst _ _ _),_,hf,_,_ => by simp [ownA] at hf
  | .sub _ _ _,_,hf,_,_ => by simp [ownA] at hf
  | .ptr _ _ _,_,hf,_,_ => by simp [ownA] at hf
  | .rp _,_,hf,_,_ => by simp [ownA] at hf
  | .clo _ _ _,_,hf,_,_ => by simp [ownA] at hf
  | .dead,_,hf,_,_ => by simp [ownA] at hf
  | .bad,_,hf,_,_ => by simp [ownA] at hf
theorem RVL.owned : ∀ (x : List AV) {c : List Value},ownAL x = true → RVL L ρ H w x c → (∀ id ∈ ownNL x,(H id).here = true ∧ ρ' id = ρ id) → RVL L' ρ' H' w' x c
  | [],c,_,h,_ => by rw [RVL] at *;exact h
  | x :: xs,c,hf,h,k => by
    unfold ownAL at hf
    simp only [Bool.and_eq_true] at hf
    rw [RVL] at *
    obtain ⟨c,r,rfl,h1,h2⟩ := h
    exact ⟨c,r,rfl,RV.owned x hf.1 h1 (fun id hid => k id (by unfold ownNL;exact List.mem_append_left _ hid)),RVL.owned xs hf.2 h2 (fun id hid => k id (by unfold ownNL;exact List.mem_append_right _ hid))⟩
end
end
def inO (l : List (Nat × AO)) (i : Nat) : Bool := (l.map Prod.fst).contains i
theorem ofO_app {l m : List (Nat × AO)} {i : Nat} : ofO (l ++ m) i = if inO l i = true then ofO l i else ofO m i := by
  induction l with
  | nil => simp [inO]
  | cons p l ih =>
    obtain ⟨j,o⟩ := p
    by_cases e : j = i
    · subst e
      simp [ofO,inO]
    · have e' : ¬ i = j := fun q => e q.symm
      have h1 : inO ((j,o) :: l) i = inO l i := by simp [inO,e']
      rw [h1]
      simp only [List.cons_append,ofO,if_neg e']
      exact ih
theorem ofO_out {l : List (Nat × AO)} {i : Nat} (h : inO l i = false) : ofO l i = .gone := by
  induction l with
  | nil => rfl
  | cons p l ih =>
    obtain ⟨j,o⟩ := p
    by_cases e : i = j
    · subst e;simp [inO] at h
    · have h1 : inO ((j,o) :: l) i = inO l i := by simp [inO,e]
      rw [h1] at h
      simp only [ofO,if_neg e]
      exact ih h
def flatO : AO → Prop
  | .arr e sz rows => e.pt = none ∧ ∀ r ∈ rows,∀ p ∈ r,∃ v,p = PV.v v
  | _ => False
def arrO : AO → Bool
  | .arr _ _ _ => true
  | _ => false
theorem ofO_mem {l : List (Nat × AO)} {i : Nat} (h : inO l i = true) : ∃ o,(i,o) ∈ l ∧ ofO l i = o := by
  induction l with
  | nil => simp [inO] at h
  | cons p l ih =>
    obtain ⟨j,o⟩ := p
    by_cases e : i = j
    · subst e;exact ⟨o,by simp,by simp [ofO]⟩
    · have h1 : inO ((j,o) :: l) i = inO l i := by simp [inO,e]
      rw [h1] at h
      obtain ⟨o',q1,q2⟩ := ih h
      exact ⟨o',List.mem_cons_of_mem _ q1,by simp only [ofO,if_neg e];exact q2⟩
theorem GC.lent {P : Program} {f : FuncId} {args args' : List AV} {x : AV} {ob0 ob1 : List (Nat × AO)} (hc : GC P f args [] x ob1) (hl : lendL (ofO ob0) args' = args) (hx : ownA x = true) (hn : ∀ id ∈ ownN x,inO ob1 id = true) (h0 : ∀ p ∈ ob0,arrO p.2 = true) (h1 : ∀ p ∈ ob1,flatO p.2) (hd : ∀ p ∈ ob0,inO ob1 p.1 = false) :
    GC P f args' ob0 x (ob1 ++ ob0) := by
  intro L w cs ρ fp hL hargs hob hdj hLf
  have hv := RVL.lend (fun id => ⟨_,hob id⟩) args' hargs
  rw [hl] at hv
  refine Calls.mono (hc L0 w cs ρ0 (fun _ => []) (fun _ q => q.elim) hv (fun i => rfl) (by simp) (by simp)) ?_
  rintro e w' ⟨y,o,⟨hy,ho⟩,v,ρ',fp',rfl,g1,g2,g3,g4,g5⟩
  replace hy := hy.symm
  replace ho := ho.symm
  subst hy ho
  have hnew : ∀ i,∀ b ∈ fp' i,w.heap.size ≤ b := fun i b hb => by
    rcases (g5 i b hb).1 with ⟨j,q⟩ | q
    · cases q
    · exact q
  have hsame : ∀ b,b < w.heap.size → w'.heap[b]? = w.heap[b]? := fun b hb => g1.block b hb (by simp)
  generalize hρ2 : (fun i => if inO ob1 i = true then ρ' i else ρ i) = ρ2
  generalize hf2 : (fun i => if inO ob1 i = true then fp' i else fp i) = f2
  have eρ1 : ∀ {i},inO ob1 i = true → ρ2 i = ρ' i := fun {i} h => by rw [← hρ2];simp only [h,if_true]
  have eρ0 : ∀ {i},inO ob1 i = false → ρ2 i = ρ i := fun {i} h => by rw [← hρ2];simp [h]
  have ef1 : ∀ {i},inO ob1 i = true → f2 i = fp' i := fun {i} h => by rw [← hf2];simp only [h,if_true]
  have ef0 : ∀ {i},inO ob1 i = false → f2 i = fp i := fun {i} h => by rw [← hf2];simp [h]
  have eH1 : ∀ {i},inO ob1 i = true → ofO (ob1 ++ ob0) i = ofO ob1 i := fun {i} h => by rw [ofO_app,if_pos h]
  have eH0 : ∀ {i},inO ob1 i = false → ofO (ob1 ++ ob0) i = ofO ob0 i := fun {i} h => by rw [ofO_app,if_neg (by simp [h])]
  have hlive : ∀ b,b < w.heap.size → ¬ live L ρ (ofO ob0) b → ¬ live L ρ2 (ofO (ob1 ++ ob0)) b := by
    rintro b hb hn (hl | ⟨i,q1,q2⟩)
    · exact hn (.inl hl)
    · rcases hi : inO ob1 i with _ | _
      · rw [eH0 hi] at q1;rw [eρ0 hi] at q2;exact hn (.inr ⟨i,q1,q2⟩)
      · rw [eH1 hi] at q1;rw [eρ1 hi] at q2
        have := hnew i b ((g3 i).top q1 q2)
        omega
  have E : Env L ρ ρ2 (ofO ob0) (ofO (ob1 ++ ob0)) w w' (inO ob1) := ⟨g1.size,fun b hb hn => ⟨hsame b hb,hlive b hb hn⟩,fun i hk hi => by
    rw [eH0 hk] at hi ⊢
    exact ⟨hi,eρ0 hk,rfl,rfl⟩⟩
  refine ⟨x,ob1 ++ ob0,⟨rfl,rfl⟩,v,ρ2,f2,rfl,⟨g1.os,g1.tape,g1.output,g1.size,fun b hb _ => hsame b hb,fun b o hb hlt => ?_⟩,?_,fun i => ?_,fun i j hij b hb hb' => ?_,fun i b hb => ?_⟩
  · rcases Nat.lt_or_ge b w.heap.size with hb2 | hb2
    · rcases hb with ⟨i,hi⟩ | hb
      · rw [World.frozen?_of_block (w := w) (hsame b hb2)]
        exact (hob i).frozen b hi o
      · omega
    · exact g1.nf b o (.inr hb2) hlt
  · refine RV.owned x hx g2 fun id hid => ?_
    obtain ⟨o,q1,q2⟩ := ofO_mem (hn id hid)
    have hfl := h1 _ q1
    refine ⟨?_,eρ1 (hn id hid)⟩
    rw [q2]
    cases o with
    | arr e sz rows => rfl
    | box T p c => exact hfl.elim
    | gone => exact hfl.elim
  · rcases hi : inO ob1 i with _ | _
    · rw [eH0 hi,eρ0 hi,ef0 hi]
      have h := (hob i).env E (fun b hb => hsame b ((hob i).lt b hb))
      have ek : (ofO ob0 i).kil (inO ob1) = ofO ob0 i := by
        rcases hj : inO ob0 i with _ | _
        · rw [ofO_out hj];rfl
        · obtain ⟨o,q1,q2⟩ := ofO_mem hj
          have := h0 _ q1
          rw [q2]
          cases o with
          | arr e sz rows => rfl
          | box T p c => cases this
          | gone => rfl
      rwa [ek] at h
    · rw [eH1 hi,eρ1 hi,ef1 hi]
      obtain ⟨o,q1,q2⟩ := ofO_mem hi
      have hfl := h1 _ q1
      have h := g3 i
      rw [q2] at h ⊢
      cases o with
      | arr e sz rows =>
        obtain ⟨xs,fr,k1,k2,k3,k4,k5⟩ := h
        have hfr := k1.flat_fp hfl.2
        subst hfr
        exact ⟨xs,[],k1,by simp,k3,k4,k5⟩
      | box T p c => exact hfl.elim
      | gone => exact hfl.elim
  · rcases hi : inO ob1 i with _ | _ <;> rcases hj : inO ob1 j with _ | _
    · rw [ef0 hi] at hb;rw [ef0 hj] at hb';exact hdj i j hij b hb hb'
    · rw [ef0 hi] at hb;rw [ef1 hj] at hb'
      have := (hob i).lt b hb
      have := hnew j b hb'
      omega
    · rw [ef1 hi] at hb;rw [ef0 hj] at hb'
      have := (hob j).lt b hb'
      have := hnew i b hb
      omega
    · rw [ef1 hi] at hb;rw [ef1 hj] at hb';exact g4 i j hij b hb hb'
  · rcases hi : inO ob1 i with _ | _
    · rw [ef0 hi] at hb;exact ⟨.inl ⟨i,hb⟩,hLf i b hb⟩
    · rw [ef1 hi] at hb
      have := hnew i b hb
      exact ⟨.inr this,fun hl => by have := hL b hl;omega⟩
section
variable {P : Program} {L O : Nat → Prop} {w0 : World} {N : Nat} {τ : Nat → AV} {H : Nat → AO} {Q : AQ} {ops : Array Oper} {F : List Nat} {n : Nat} {listed : Array Bool}
end

class CNP (Q : AQ) : Prop where
  np : NP Q
section
variable {K : (Nat → AV) → (Nat → AO) → Prop} {Q : AQ} {τ : Nat → AV} {H : Nat → AO} {id i : Nat}
instance [h : CNP Q] : CNP (AQ.andThen K Q) := ⟨h.np⟩
instance [h : CNP Q] : CNP (AQ.inBlock id Q) := ⟨h.np⟩
instance [h : CNP Q] : CNP (AQ.noGoto Q) := ⟨h.np⟩
instance {rs : List RVar} {x : AV} {ob1 : List (Nat × AO)} : CNP (Ends rs x ob1) := ⟨NP.ends⟩
instance {rs : List RVar} {R : AV → List (Nat × AO) → Prop} : CNP (EndsX rs R) := ⟨NP.endsX⟩
theorem gT (h : K τ H) : AQ.andThen K Q .normal τ H := h
theorem eT (h : Q (.exit i) τ H) : AQ.andThen K Q (.exit i) τ H := h
theorem rT (h : Q .ret τ H) : AQ.andThen K Q .ret τ H := h
theorem gB (h : Q .normal τ H) : AQ.inBlock id Q .normal τ H := h
theorem eB (h : Q .normal τ H) : AQ.inBlock id Q (.exit id) τ H := ex_block h
theorem rB (h : Q .ret τ H) : AQ.inBlock id Q .ret τ H := h
end
theorem Z {α : Sort _} {a : α} : a = a := rfl
theorem iq {a b : Int} {x : AV} (h1 : x = .p (.v (.int .i64 a))) (h : a = b := by omega) : x = .p (.v (.int .i64 b)) := by rw [h1,h]
theorem zb1 {b : Bool} : ((!b) = true) = (b = false) := by cases b <;> simp
theorem zb2 {b : Bool} : ((!b) = false) = (b = true) := by cases b <;> simp
theorem zb3 {p : Prop} [Decidable p] : (decide p = false) = ¬ p := by simp
theorem zb4 {p : Prop} [Decidable p] : (decide p = true) = p := by simp
abbrev vI (k : IntKind) (n : Int) : AV := .p (.v (.int k n))
abbrev vB (b : Bool) : AV := .p (.v (.bool b))
abbrev vV (v : Value) : AV := .p (.v v)
abbrev vL (e : TypeId) (sz : Nat) (l : List (List PV)) : AV := .p (.lst e sz l)
def of2 {α : Type} (z : α) : List Nat → List α → Nat → α
  | s :: l,x :: r,t => if t = s then x else of2 z l r t
  | _,_,_ => z
def at2 {α : Type} (τ : Nat → α) : List Nat → List α
  | [] => []
  | s :: l => τ s :: at2 τ l
theorem at2.weak {α : Type} {z : α} {τ : Nat → α} : ∀ {l : List Nat} {v : List α},at2 τ l = v → ∀ t,of2 z l v t = z ∨ of2 z l v t = τ t
  | [],_,h,t => .inl (by subst h;rfl)
  | s :: l,v,h,t => by
    subst h
    show (if t = s then τ s else of2 z l (at2 τ l) t) = z ∨ (if t = s then τ s else of2 z l (at2 τ l) t) = τ t
    split
    · rename_i q;subst q;exact .inr rfl
    · exact at2.weak rfl t
def dstOk (o : Option Nat) (N : Nat) : Bool := match o with | some t => Nat.blt t N | none => true
theorem dstOk.at {o : Option Nat} {N : Nat} (h : dstOk o N = true) : ∀ s,o = some s → s < N := fun s e => by subst e;exact Nat.le_of_ble_eq_true h
def allv (r : List (Nat × Nat)) (H : Nat → AO) : List (Nat × AO) → List (Option AO)
  | [] => []
  | (i,_) :: l => (rn r i).map (fun j => (H j).ren (sw r)) :: allv r H l
def allw : List (Nat × AO) → List (Option AO)
  | [] => []
  | (_,o) :: l => some o :: allw l
theorem allv.all0 {r : List (Nat × Nat)} {H : Nat → AO} : ∀ {l : List (Nat × AO)},allv r H l = allw l → all0 r H l
  | [],_ => trivial
  | (i,o) :: l,h => by
    unfold allv allw at h
    injection h with h1 h2
    refine ⟨?_,allv.all0 h2⟩
    cases e : rn r i with
    | none => rw [e] at h1;cases h1
    | some j => rw [e] at h1;injection h1 with h1;exact ⟨j,rfl,h1⟩
section
variable {P : Program} {L O : Nat → Prop} {w0 : World} {N : Nat} {τ τ' : Nat → AV} {H H' : Nat → AO} {Q : AQ}
theorem aS {x y : Code} (h : AW P L O w0 N x τ H (Q.andThen fun τ H => AW P L O w0 N y τ H Q)) : AW P L O w0 N (.seq x y) τ H Q := AW.seq h
theorem aL {id : Nat} {l : List Oper} (h : AL P L O w0 N l.toArray l τ H Q) : AW P L O w0 N (.region id l.toArray false) τ H Q := AW.list h
theorem aK (h : Q .normal τ H) : AW P L O w0 N .skip τ H Q := AW.skip h
theorem aR (h : Q .ret τ H) : AW P L O w0 N .ret τ H Q := AW.ret h
theorem aE {id : Nat} (h : Q (.exit id) τ H) : AW P L O w0 N (.exit id) τ H Q := AW.exit h
theorem aB {id : Nat} {c : Code} (h : AW P L O w0 N c τ H (Q.inBlock id)) : AW P L O w0 N (.block id c) τ H Q := AW.block h
theorem aY {c : Operand} {x y : Code} (hc : ev τ c = .p (.v (.bool true))) (h : AW P L O w0 N x τ H Q) : AW P L O w0 N (.cond c x y) τ H Q := AW.yes hc h
theorem aN {c : Operand} {x y : Code} (hc : ev τ c = .p (.v (.bool false))) (h : AW P L O w0 N y τ H Q) : AW P L O w0 N (.cond c x y) τ H Q := AW.no hc h
theorem aT (k : List Nat) (v : List AV) (i : List Nat) (b : List AO) {c : Code} (h1 : at2 τ k = v) (h2 : at2 H i = b) (h : AW P L O w0 N c (of2 .bad k v) (of2 .gone i b) Q) : AW P L O w0 N c τ H Q := AW.weak (at2.weak h1) (at2.weak h2) h
variable {ops : Array Oper} {o : Oper} {l : List Oper}
theorem lN (h : Q .normal τ H) : AL P L O w0 N ops [] τ H Q := AL.nil h
theorem lno {t : Nat} (h : (gv τ ops o,o.dst,Nat.blt t N) = (some false,some t,true)) (K : AL P L O w0 N ops l (upd τ t (.tup [])) H Q) : AL P L O w0 N ops (o :: l) τ H Q := by
  simp only [Prod.mk.injEq] at h
  exact AL.no h.1 h.2.1 (Nat.le_of_ble_eq_true h.2.2) K
theorem lst {E : List Nat} (hs : St P o N τ H E τ' H') (hg : gv τ ops o = some true) (h : AL P L O w0 N ops l τ' H' Q) : AL P L O w0 N ops (o :: l) τ H Q := AL.st hs hg h
theorem lT (k : List Nat) (v : List AV) (i : List Nat) (b : List AO) (h1 : at2 τ k = v) (h2 : at2 H i = b) (h : AL P L O w0 N ops l (of2 .bad k v) (of2 .gone i b) Q) : AL P L O w0 N ops l τ H Q := AL.weak (at2.weak h1) (at2.weak h2) h
end
section
variable {P : Program} {L O : Nat → Prop} {w0 : World} {N : Nat} {τ τ' : Nat → AV} {H H' : Nat → AO} {Q : AQ} {ops : Array Oper} {o : Oper} {F : List Nat} {n f : Nat} {X : Nat → Bool} {listed : Array Bool}
def tkG (ops : Array Oper) (f : Nat) (listed : Array Bool) (i : Nat) : Bool := (Region.ready .any ops listed).contains i && (Region.noSelect ops && (Region.free .any ops listed i && ((reachB .any ops f).getD i false && closedB .any ops listed)))
theorem and5 {a b c d e : Bool} (h : (a && (b && (c && (d && e)))) = true) : a = true ∧ b = true ∧ c = true ∧ d = true ∧ e = true := by simpa [Bool.and_eq_true] using h
theorem and4 {a b c e : Bool} (h : (a && (b && (c && e))) = true) : a = true ∧ b = true ∧ c = true ∧ e = true := by simpa [Bool.and_eq_true] using h
def tkF (ops : Array Oper) (F : List Nat) (listed : Array Bool) (i : Nat) : Bool := (Region.ready .any ops listed).contains i && (Region.noSelect ops && (Region.free .any ops listed i && (reachF .any ops F listed i && closedB .any ops listed)))
def tkP (ops : Array Oper) (listed : Array Bool) (i : Nat) : Bool := (Region.ready .any ops listed).contains i && (Region.noSelect ops && (Region.free .any ops listed i && closedB .any ops listed))
theorem aF {id : Nat} (F : List Nat) (h : AF P L O w0 N ops F ops.size (Array.replicate ops.size false) τ H Q) (hm : P.follows .mixedOrders = true := by kernel_rfl) : AW P L O w0 N (.region id ops true) τ H Q := AW.drawF F hm h
theorem aG {id : Nat} (f : Nat) (X : List Nat) (h : AG P L O w0 N ops f (inK X) ops.size (Array.replicate ops.size false) τ H Q) (hm : P.follows .mixedOrders = true := by kernel_rfl) : AW P L O w0 N (.region id ops true) τ H Q := AW.draw f (inK X) hm h
theorem fD (h : Q .normal τ H) (hr : Region.ready .any ops listed = [] := by kernel_rfl) : AF P L O w0 N ops F n listed τ H Q := AF.done hr h
theorem gD (h : Q .normal τ H) (hr : Region.ready .any ops listed = [] := by kernel_rfl) : AG P L O w0 N ops f X n listed τ H Q := AG.done hr h
theorem vst (i : Nat) {E : List Nat} (h0 : (ops[i]?,gv τ ops o) = (some o,some true)) (hs : St P o N τ H E τ' H') (hF : F.contains i = true ∨ E = []) (h : AF P L O w0 N ops F n (listed.setIfInBounds i true) τ' H' Q) (hr : Region.ready .any ops listed = [i] := by kernel_rfl) : AF P L O w0 N ops F (n + 1) listed τ H Q := by
  simp only [Prod.mk.injEq] at h0
  exact AF.st h0.1 hr hs hF h0.2 h
theorem yst (i : Nat) {E : List Nat} (h0 : (ops[i]?,gv τ ops o) = (some o,some true)) (hs : St P o N τ H E τ' H') (h : AG P L O w0 N ops f X n (listed.setIfInBounds i true) τ' H' Q) (hX : ∀ id ∈ E,X id = true := by decide) (hr : Region.ready .any ops listed = [i] := by kernel_rfl) : AG P L O w0 N ops f X (n + 1) listed τ H Q := by
  simp only [Prod.mk.injEq] at h0
  exact AG.st h0.1 hr hs hX h0.2 h
theorem yno (i : Nat) {t : Nat} (h0 : (ops[i]?,gv τ ops o,o.dst,Nat.blt t N) = (some o,some false,some t,true)) (h : AG P L O w0 N ops f X n (listed.setIfInBounds i true) (upd τ t (.tup [])) H Q) (hr : Region.ready .any ops listed = [i] := by kernel_rfl) : AG P L O w0 N ops f X (n + 1) listed τ H Q := by
  simp only [Prod.mk.injEq] at h0
  exact AG.no h0.1 hr h0.2.1 h0.2.2.1 (Nat.le_of_ble_eq_true h0.2.2.2) h
theorem vno (i : Nat) {t : Nat} (h0 : (ops[i]?,gv τ ops o,o.dst,Nat.blt t N) = (some o,some false,some t,true)) (h : AF P L O w0 N ops F n (listed.setIfInBounds i true) (upd τ t (.tup [])) H Q) (hr : Region.ready .any ops listed = [i] := by kernel_rfl) : AF P L O w0 N ops F (n + 1) listed τ H Q := by
  simp only [Prod.mk.injEq] at h0
  exact AF.no h0.1 hr h0.2.1 h0.2.2.1 (Nat.le_of_ble_eq_true h0.2.2.2) h
theorem tno [cq : CNP Q] (i : Nat) {t : Nat} (h0 : (ops[i]?,gv τ ops o,o.dst,Nat.blt t N) = (some o,some false,some t,true)) (h : AG P L O w0 N ops f X n (listed.setIfInBounds i true) (upd τ t (.tup [])) H Q) (hb : tkG ops f listed i = true := by kernel_rfl) : AG P L O w0 N ops f X (n + 1) listed τ H Q := by
  simp only [Prod.mk.injEq] at h0
  exact AG.skip h0.1 (and5 hb).1 (and5 hb).2.1 (and5 hb).2.2.1 (and5 hb).2.2.2.1 (and5 hb).2.2.2.2 h0.2.1 h0.2.2.1 (Nat.le_of_ble_eq_true h0.2.2.2) cq.np h
theorem pno [cq : CNP Q] (i : Nat) {t : Nat} (h0 : (ops[i]?,gv τ ops o,o.dst,Nat.blt t N) = (some o,some false,some t,true)) (h : AF P L O w0 N ops F n (listed.setIfInBounds i true) (upd τ t (.tup [])) H Q) (hb : tkP ops listed i = true := by kernel_rfl) : AF P L O w0 N ops F (n + 1) listed τ H Q := by
  simp only [Prod.mk.injEq] at h0
  exact AF.skip h0.1 (and4 hb).1 (and4 hb).2.1 (and4 hb).2.2.1 (and4 hb).2.2.2 h0.2.1 h0.2.2.1 (Nat.le_of_ble_eq_true h0.2.2.2) cq.np h
theorem fT (k : List Nat) (v : List AV) (i : List Nat) (b : List AO) (h1 : at2 τ k = v) (h2 : at2 H i = b) (h : AF P L O w0 N ops F n listed (of2 .bad k v) (of2 .gone i b) Q) : AF P L O w0 N ops F n listed τ H Q := fun ρ fp a w hr => by
  obtain ⟨fp',hr',_⟩ := hr.weak (at2.weak (z := AV.bad) h1) (at2.weak (z := AO.gone) h2)
  exact h ρ fp' a w hr'
theorem of2_zip : ∀ {k : List Nat} {v : List AV},ofT (k.zip v) = of2 .bad k v
  | [],v => funext fun t => by simp [ofT,of2]
  | s :: k,[] => funext fun t => by simp [ofT,of2]
  | s :: k,x :: v => funext fun t => by simp only [List.zip_cons_cons,ofT,of2,of2_zip]
theorem of2_zipO : ∀ {k : List Nat} {v : List AO},ofO (k.zip v) = of2 .gone k v
  | [],v => funext fun t => by simp [ofO,of2]
  | s :: k,[] => funext fun t => by simp [ofO,of2]
  | s :: k,x :: v => funext fun t => by simp only [List.zip_cons_cons,ofO,of2,of2_zipO]
theorem allT_zip : ∀ {k : List Nat} {v : List AV},at2 τ k = v → allT (k.zip v) τ
  | [],v,h => by subst h;trivial
  | s :: k,v,h => by subst h;exact ⟨rfl,allT_zip rfl⟩
theorem allO_zip : ∀ {k : List Nat} {v : List AO},at2 H k = v → allO (k.zip v) H
  | [],v,h => by subst h;trivial
  | s :: k,v,h => by subst h;exact ⟨rfl,allO_zip rfl⟩
def eqX (B H : Nat → AO) : List Nat → Prop
  | [] => True
  | i :: l => B i = H i ∧ eqX B H l
theorem eqX.to {B : List (Nat × AO)} {B' : Nat → AO} (hB : ofO B = B') : ∀ {X : List Nat},eqX B' H X → sameX B H X
  | [],_ => trivial
  | _ :: _,h => ⟨by rw [hB];exact h.1,eqX.to hB h.2⟩
theorem gX (k : List Nat) (v : List AV) (i : List Nat) (b : List AO) {X : List Nat} (h1 : at2 τ k = v) (h2 : at2 H i = b) (hX : eqX (of2 .gone i b) H X) (h : AG P L O w0 N ops f (inK X) n listed (of2 .bad k v) (of2 .gone i b) Q) : AG P L O w0 N ops f (inK X) n listed τ H Q :=
  AG.tidyX (k.zip v) (i.zip b) (allT_zip h1) (allO_zip h2) (eqX.to of2_zipO hX) (by rw [of2_zip,of2_zipO];exact h)
end
section
variable {P : Program} {o : Oper} {N : Nat} {τ : Nat → AV} {H : Nat → AO} {X : Nat → Bool}
def FA (P : Program) (T k off ft : Nat) : Prop := fldA P T k = some (off,ft) ∧ P.cellsOf ft ≠ 0 ∧ (P.underlying ft).isSome = true
theorem zfr {t k off ft : Nat} {x : Operand} {cells : List PV} (hf : FA P t k off ft) (h : (o.op,ev τ x) = (.fieldAddr t x k,.rp cells)) : Rd P o τ H X (.rp (cells.drop off)) := by
  simp only [Prod.mk.injEq] at h
  exact rd_faddr_rp h.1 hf.1 hf.2.1 hf.2.2 h.2
theorem zpfr {t k off ft : Nat} {x : Operand} {cells : List PV} (hf : FA P t k off ft) (h : (o.op,ev τ x) = (.fieldAddr t x k,.rp cells)) : Pd P o τ H (.rp (cells.drop off)) := by
  simp only [Prod.mk.injEq] at h
  exact pd_faddr_rp h.1 hf.1 hf.2.1 hf.2.2 h.2
theorem zB (id : Nat) {t T : TypeId} {x y : Operand} {k : Nat} {p : Option Value} {cells l : List AV} (hsz : P.cellsOf t = l.length) (hi : (P.info? t).isSome = true) (h : (o.op,o.dst,ev τ x,H id,cellsA (ev τ y),Nat.ble (k + l.length) cells.length) = (.store t x y,none,.ptr id 0 k,.box T p cells,some l,true)) :
    St P o N τ H [id] τ (upd H id (.box T p (cells.take k ++ l ++ cells.drop (k + l.length)))) :=
  St.storeBox (P := P) (o := o) (N := N) (τ := τ) (H := H) id (t := t) (T := T) (x := x) (y := y) (k := k) (p := p) (cells := cells) (l := l) (congrArg (·.1) h) (congrArg (·.2.1) h) (congrArg (·.2.2.1) h) (congrArg (·.2.2.2.1) h) (congrArg (·.2.2.2.2.1) h) hsz hi (Nat.le_of_ble_eq_true (congrArg (·.2.2.2.2.2) h))
theorem zA (id : Nat) {T : TypeId} {t : Nat} {zs : List Value} (hz : zeroA P T = some zs) (h : (o.op,o.dst,Nat.blt t N) = (.alloc T,some t,true)) :
    St P o N τ H [] (upd (fun s => kil (one? id) (τ s)) t (.ptr id 0 0)) (upd (fun j => (H j).kil (one? id)) id (.box T none (zs.map fun c => .p (.v c)))) :=
  St.alloc (P := P) (o := o) (N := N) (τ := τ) (H := H) id (T := T) (t := t) (zs := zs) (congrArg (·.1) h) (congrArg (·.2.1) h) (Nat.le_of_ble_eq_true (congrArg (·.2.2) h)) hz
theorem zX (id : Nat) {T : TypeId} {t : Nat} {x : Operand} {l : List AV} (h : (o.op,o.dst,Nat.blt t N,cellsA (ev τ x)) = (.box T x,some t,true,some l)) :
    St P o N τ H [] (upd (fun s => kil (one? id) (τ s)) t (.ptr id 0 0)) (upd (fun j => (H j).kil (one? id)) id (.box T none (kilL (one? id) l))) :=
  St.box (P := P) (o := o) (N := N) (τ := τ) (H := H) id (T := T) (t := t) (x := x) (l := l) (congrArg (·.1) h) (congrArg (·.2.1) h) (Nat.le_of_ble_eq_true (congrArg (·.2.2.1) h)) (congrArg (·.2.2.2) h)
theorem zC (r : List (Nat × Nat)) (kl pl : List Nat) {y : Operand} {l : List Operand} {ts : Array TypeId} {f : FuncId} {fn : Func} {fs caps args : List AV} {ob0 ob1 : List (Nat × AO)} {x : AV} (hf : P.funcs[f]? = some fn) (hc : GC P f args ob0 x ob1) (hp : pins ob0 ob1 pl)
    (h : (o.op,dstOk o.dst N,ev τ y,(fn.name == "runtime.NumGoroutine"),fn.body.isNone,renL (sw r) (fs ++ l.map (ev τ) ++ caps)) = (.call { callee := .value y,args := l.toArray,argTypes := ts },true,.clo (.func f) fs caps,false,false,args)) (h0 : allv r H ob0 = allw ob0)
    (hr : (nodupB (r.map Prod.fst) && (nodupB (r.map Prod.snd) && okK r kl pl)) = true := by decide) :
    St P o N τ H (exL r ob0) (updo (fun t => kil (inK kl) (τ t)) o.dst (ren r x)) (callH r (inK kl) ob1 H) := by
  simp only [Prod.mk.injEq] at h
  simp only [Bool.and_eq_true] at hr
  exact St.call r kl pl h.1 (dstOk.at h.2.1) h.2.2.1 hf h.2.2.2.1 h.2.2.2.2.1 hc hr (allv.all0 h0) hp h.2.2.2.2.2
theorem z5a {y : Operand} {l : List Operand} {ts : Array TypeId} {f : FuncId} {fn : Func} {fs caps args : List AV} {ob0 ob1 : List (Nat × AO)} {x : AV} (hf : P.funcs[f]? = some fn) (hc : GC P f args ob0 x ob1) (hp : pins ob0 ob1 [0])
    (h : (o.op,dstOk o.dst N,ev τ y,(fn.name == "runtime.NumGoroutine"),fn.body.isNone,renL (sw [(0,0),(1,1),(2,2),(3,3),(4,4)]) (fs ++ l.map (ev τ) ++ caps)) = (.call { callee := .value y,args := l.toArray,argTypes := ts },true,.clo (.func f) fs caps,false,false,args)) (h0 : allv [(0,0),(1,1),(2,2),(3,3),(4,4)] H ob0 = allw ob0) :
    St P o N τ H (exL [(0,0),(1,1),(2,2),(3,3),(4,4)] ob0) (updo (fun t => kil (inK [1,2,3,4]) (τ t)) o.dst (ren [(0,0),(1,1),(2,2),(3,3),(4,4)] x)) (callH [(0,0),(1,1),(2,2),(3,3),(4,4)] (inK [1,2,3,4]) ob1 H) := zC [(0,0),(1,1),(2,2),(3,3),(4,4)] [1,2,3,4] [0] hf hc hp h h0
theorem z5b {y : Operand} {l : List Operand} {ts : Array TypeId} {f : FuncId} {fn : Func} {fs caps args : List AV} {ob0 ob1 : List (Nat × AO)} {x : AV} (hf : P.funcs[f]? = some fn) (hc : GC P f args ob0 x ob1) (hp : pins ob0 ob1 [0,1])
    (h : (o.op,dstOk o.dst N,ev τ y,(fn.name == "runtime.NumGoroutine"),fn.body.isNone,renL (sw [(0,0),(1,1),(2,2),(3,3),(4,4)]) (fs ++ l.map (ev τ) ++ caps)) = (.call { callee := .value y,args := l.toArray,argTypes := ts },true,.clo (.func f) fs caps,false,false,args)) (h0 : allv [(0,0),(1,1),(2,2),(3,3),(4,4)] H ob0 = allw ob0) :
    St P o N τ H (exL [(0,0),(1,1),(2,2),(3,3),(4,4)] ob0) (updo (fun t => kil (inK [2,3,4]) (τ t)) o.dst (ren [(0,0),(1,1),(2,2),(3,3),(4,4)] x)) (callH [(0,0),(1,1),(2,2),(3,3),(4,4)] (inK [2,3,4]) ob1 H) := zC [(0,0),(1,1),(2,2),(3,3),(4,4)] [2,3,4] [0,1] hf hc hp h h0
theorem gi (t : Nat) {f : FuncId} {fn : Func} {c : Code} {args : List AV} {ob0 ob1 : List (Nat × AO)} {x : AV} (hf : P.funcs[f]? = some fn) (hb : fn.body = some c) (hn : fn.ntmps = N) (h0 : (Nat.ble args.length N,fn.results.toList) = (true,[.tmp t]))
    (h : ∀ L O w0,AW P L O w0 N c (ofL args) (ofO ob0) (Ends [.tmp t] x ob1)) : GC P f args ob0 x ob1 := GC.intro hf hb hn (Nat.le_of_ble_eq_true (congrArg (·.1) h0)) (by rw [show fn.results.toList = _ from congrArg (·.2) h0];exact ⟨rfl,trivial⟩) h
theorem zL {y : Operand} {l : List Operand} {ts : Array TypeId} {f : FuncId} {fn : Func} {args : List AV} {x : AV} (hf : P.funcs[f]? = some fn) (hc : GC P f args [] x [])
    (h : (o.op,dstOk o.dst N,ev τ y,(fn.name == "runtime.NumGoroutine"),fn.body.isNone,flatA x,lendL H (l.map (ev τ))) = (.call { callee := .value y,args := l.toArray,argTypes := ts },true,.clo (.func f) [] [],false,false,true,args)) : St P o N τ H [] (updo τ o.dst x) H := by
  simp only [Prod.mk.injEq] at h
  exact St.lend h.1 (dstOk.at h.2.1) h.2.2.1 hf h.2.2.2.1 h.2.2.2.2.1 hc h.2.2.2.2.2.1 h.2.2.2.2.2.2
end
section
variable {P : Program} {L O : Nat → Prop} {w0 : World} {N : Nat} {τ : Nat → AV} {H : Nat → AO} {Q : AQ} {ops : Array Oper} {l : List Oper} {F : List Nat} {n f : Nat} {X : Nat → Bool} {listed : Array Bool} {c : Code}
theorem lsB (t : Nat) (x : Bool) {y : Bool} (ht : τ t = boo y) (e : y = x) (h : AL P L O w0 N ops l (upd τ t (boo x)) H Q) : AL P L O w0 N ops l τ H Q := AL.slot t _ (ht.trans (congrArg boo e)) h
theorem lsN (t : Nat) (x : Int) {y : Int} (ht : τ t = int y) (e : y = x) (h : AL P L O w0 N ops l (upd τ t (int x)) H Q) : AL P L O w0 N ops l τ H Q := AL.slot t _ (ht.trans (congrArg int e)) h
theorem gsB (t : Nat) (x : Bool) {y : Bool} (ht : τ t = boo y) (e : y = x) (h : AG P L O w0 N ops f X n listed (upd τ t (boo x)) H Q) : AG P L O w0 N ops f X n listed τ H Q := AG.slot t _ (ht.trans (congrArg boo e)) h
theorem gsN (t : Nat) (x : Int) {y : Int} (ht : τ t = int y) (e : y = x) (h : AG P L O w0 N ops f X n listed (upd τ t (int x)) H Q) : AG P L O w0 N ops f X n listed τ H Q := AG.slot t _ (ht.trans (congrArg int e)) h
theorem fsB (t : Nat) (x : Bool) {y : Bool} (ht : τ t = boo y) (e : y = x) (h : AF P L O w0 N ops F n listed (upd τ t (boo x)) H Q) : AF P L O w0 N ops F n listed τ H Q := AF.slot t _ (ht.trans (congrArg boo e)) h
theorem fsN (t : Nat) (x : Int) {y : Int} (ht : τ t = int y) (e : y = x) (h : AF P L O w0 N ops F n listed (upd τ t (int x)) H Q) : AF P L O w0 N ops F n listed τ H Q := AF.slot t _ (ht.trans (congrArg int e)) h
theorem asB (t : Nat) (x : Bool) {y : Bool} (ht : τ t = boo y) (e : y = x) (h : AW P L O w0 N c (upd τ t (boo x)) H Q) : AW P L O w0 N c τ H Q := AW.slot t _ (ht.trans (congrArg boo e)) h
end
def Rdy (R : Prop) (N : Nat) (τ : Nat → AV) (ops : Array Oper) (o : Oper) (t : Nat) : Prop := R ∧ gv τ ops o = some true ∧ o.dst = some t ∧ t < N
def oAt (ops : Array Oper) (i : Nat) : Oper := ops.getD i default
theorem oAt.some {ops : Array Oper} {i : Nat} (h : Nat.blt i ops.size = true) : ops[i]? = some (oAt ops i) := by
  have h' : i < ops.size := Nat.le_of_ble_eq_true h
  unfold oAt
  rw [Array.getElem?_eq_getElem h']
  simp [Array.getD,h']
section
variable {P : Program} {L O : Nat → Prop} {w0 : World} {N : Nat} {τ : Nat → AV} {H : Nat → AO} {Q : AQ} {ops : Array Oper} {o : Oper} {l : List Oper} {F : List Nat} {n f : Nat} {X : Nat → Bool} {listed : Array Bool} {x : AV} {t : Nat}
theorem lq (r : Rdy (Rd P o τ H (fun _ => false) x) N τ ops o t) (K : AL P L O w0 N ops l (upd τ t x) H Q) : AL P L O w0 N ops (o :: l) τ H Q := AL.rd r.1 r.2.1 r.2.2.1 r.2.2.2 K
theorem lor {o1 o2 o3 : Oper} {A B : Bool} {y c z : Operand} {s1 s2 s3 : Nat} {T : TypeId} (h : (o1.op,ev τ y,o1.dst,o2.op,o2.dst,o3.op,o3.dst,Nat.blt s1 N,Nat.blt s2 N,Nat.blt s3 N) = (.move y,vB B,some s1,.unOp .not T (.tmp s1),some s2,.pick c z (.tmp s2),some s3,true,true,true))
    (h2 : (gv τ ops o1,gv (upd τ s1 (.tup [])) ops o2,gv (upd τ s1 (vB B)) ops o2,gv (upd (upd τ s1 (.tup [])) s2 (.tup [])) ops o3,gv (upd (upd τ s1 (vB B)) s2 (vB (!B))) ops o3) = (some (A == false),some (A == false),some (A == false),some true,some true))
    (h3 : (ev (upd (upd τ s1 (.tup [])) s2 (.tup [])) c,ev (upd (upd τ s1 (vB B)) s2 (vB (!B))) c,ev (upd (upd τ s1 (.tup [])) s2 (.tup [])) z,ev (upd (upd τ s1 (vB B)) s2 (vB (!B))) z,ev (upd (upd τ s1 (vB B)) s2 (vB (!B))) (.tmp s2)) = (vB A,vB A,vB true,vB true,vB (!B)))
    (K : AL P L O w0 N ops l (upd (upd (upd τ s1 .bad) s2 .bad) s3 (vB (A || !B))) H Q) : AL P L O w0 N ops (o1 :: o2 :: o3 :: l) τ H Q := by
  simp only [Prod.mk.injEq] at h h2 h3
  obtain ⟨a1,a2,a3,a4,a5,a6,a7,a8,a9,a10⟩ := h
  obtain ⟨b1,b2,b3,b4,b5⟩ := h2
  obtain ⟨c1,c2,c3,c4,c5⟩ := h3
  have l1 := Nat.le_of_ble_eq_true a8
  have l2 := Nat.le_of_ble_eq_true a9
  have l3 := Nat.le_of_ble_eq_true a10
  have wk : ∀ (u v : AV) t,upd (upd (upd τ s1 .bad) s2 .bad) s3 (vB (A || !B)) t = .bad ∨ upd (upd (upd τ s1 .bad) s2 .bad) s3 (vB (A || !B)) t = upd (upd (upd τ s1 u) s2 v) s3 (vB (A || !B)) t := fun u v t => by
    unfold upd
    by_cases e3 : t = s3
    · simp [e3]
    · by_cases e2 : t = s2
      · simp only [e3,if_false,e2,if_true];split <;> simp
      · by_cases e1 : t = s1
        · simp only [e3,e2,if_false,e1,if_true];(repeat' split) <;> simp
        · simp [e3,e2,e1]
  cases A with
  | true =>
    refine AL.no b1 a3 l1 (AL.no b2 a5 l2 (AL.rd (x := vB true) (rd_pick a6 ?_) b4 a7 l3 (AL.weak (wk _ _) (fun _ => .inr rfl) K)))
    rw [c1,c3];rfl
  | false =>
    refine AL.rd (x := vB B) (rd_mvx (.inl a1) a2) b1 a3 l1 (AL.rd (x := vB (!B)) (rd_un a4 (pre := True) ?_ trivial) b3 a5 l2 (AL.rd (x := vB (!B)) (rd_pick a6 ?_) b5 a7 l3 (AL.weak (wk _ _) (fun _ => .inr rfl) K)))
    · show unv .not (upd τ s1 (vB B) s1) = _
      rw [upd_same];rfl
    · rw [c2,c4,c5];rfl
theorem rd {X : Nat → Bool} (hr : Rd P o τ H X x) (h : (gv τ ops o,o.dst,Nat.blt t N) = (some true,some t,true)) : Rdy (Rd P o τ H X x) N τ ops o t := by
  simp only [Prod.mk.injEq] at h
  exact ⟨hr,h.1,h.2.1,Nat.le_of_ble_eq_true h.2.2⟩
theorem qd (hr : Pd P o τ H x) (h : (gv τ ops o,o.dst,Nat.blt t N) = (some true,some t,true)) : Rdy (Pd P o τ H x) N τ ops o t := by
  simp only [Prod.mk.injEq] at h
  exact ⟨hr,h.1,h.2.1,Nat.le_of_ble_eq_true h.2.2⟩
def tk1 (ops : Array Oper) (listed : Array Bool) (i : Nat) : Bool := Nat.blt i ops.size && (Region.ready .any ops listed == [i])
theorem tk1.at {i : Nat} (h : tk1 ops listed i = true) : ops[i]? = some (oAt ops i) ∧ Region.ready .any ops listed = [i] := by
  unfold tk1 at h
  rw [Bool.and_eq_true] at h
  exact ⟨oAt.some h.1,by simpa using h.2⟩
theorem yq (i : Nat) (r : Rdy (Rd P (oAt ops i) τ H (fun _ => false) x) N τ ops (oAt ops i) t) (K : AG P L O w0 N ops f X n (listed.setIfInBounds i true) (upd τ t x) H Q) (hb : tk1 ops listed i = true := by kernel_rfl) : AG P L O w0 N ops f X (n + 1) listed τ H Q :=
  AG.rd (tk1.at hb).1 (tk1.at hb).2 r.1 r.2.1 r.2.2.1 r.2.2.2 K
theorem vq (i : Nat) (r : Rdy (Rd P (oAt ops i) τ H (fun _ => false) x) N τ ops (oAt ops i) t) (K : AF P L O w0 N ops F n (listed.setIfInBounds i true) (upd τ t x) H Q) (hb : tk1 ops listed i = true := by kernel_rfl) : AF P L O w0 N ops F (n + 1) listed τ H Q :=
  AF.rd (tk1.at hb).1 (tk1.at hb).2 r.1 r.2.1 r.2.2.1 r.2.2.2 K
theorem tq [cq : CNP Q] (i : Nat) (r : Rdy (Rd P (oAt ops i) τ H X x) N τ ops (oAt ops i) t) (K : AG P L O w0 N ops f X n (listed.setIfInBounds i true) (upd τ t x) H Q) (hb : (Nat.blt i ops.size && tkG ops f listed i) = true := by kernel_rfl) : AG P L O w0 N ops f X (n + 1) listed τ H Q := by
  rw [Bool.and_eq_true] at hb
  have hc := and5 hb.2
  exact AG.take (oAt.some hb.1) hc.1 hc.2.1 hc.2.2.1 hc.2.2.2.1 hc.2.2.2.2 r.1 r.2.1 r.2.2.1 r.2.2.2 cq.np K
theorem sq [cq : CNP Q] (i : Nat) (r : Rdy (Rd P (oAt ops i) τ H (fun _ => false) x) N τ ops (oAt ops i) t) (K : AF P L O w0 N ops F n (listed.setIfInBounds i true) (upd τ t x) H Q) (hb : (Nat.blt i ops.size && tkF ops F listed i) = true := by kernel_rfl) : AF P L O w0 N ops F (n + 1) listed τ H Q := by
  rw [Bool.and_eq_true] at hb
  have hc := and5 hb.2
  exact AF.take (oAt.some hb.1) hc.1 hc.2.1 hc.2.2.1 hc.2.2.2.1 hc.2.2.2.2 r.1 r.2.1 r.2.2.1 r.2.2.2 cq.np K
theorem pq [cq : CNP Q] (i : Nat) (r : Rdy (Pd P (oAt ops i) τ H x) N τ ops (oAt ops i) t) (K : AF P L O w0 N ops F n (listed.setIfInBounds i true) (upd τ t x) H Q) (hb : (Nat.blt i ops.size && tkP ops listed i) = true := by kernel_rfl) : AF P L O w0 N ops F (n + 1) listed τ H Q := by
  rw [Bool.and_eq_true] at hb
  have hc := and4 hb.2
  exact AF.takeP (oAt.some hb.1) hc.1 hc.2.1 hc.2.2.1 hc.2.2.2 r.1 r.2.1 r.2.2.1 r.2.2.2 cq.np K
end
section
variable {P : Program} {o : Oper} {N : Nat} {τ : Nat → AV} {H : Nat → AO}
theorem zS (id : Nat) (rows : List (List PV)) {t e : TypeId} {len d sz : Nat} {parts : List (Nat × Operand)} {zs : List Value} {bp : List (Nat × Nat × AV)} (he : elA P t = some (e,sz)) (hz : zeroA P e = some zs)
    (h : (o.op,o.dst,Nat.blt d N,bparts (fun i => some (i * sz,sz)) τ parts,buildv ((List.replicate len zs).flatten.map fun c => .p (.v c)) bp,rows.length,Nat.ble (len * sz) 16777216,Nat.blt 0 sz,zs.length) = (.buildSlice t len parts.toArray,some d,true,some bp,some (rows.flatten.map AV.p),len,true,true,sz))
    (hrs : ∀ r ∈ rows,r.length = sz := by intro r hr;simp [rowsOf] at hr;subst hr;rfl) :
    St P o N τ H [] (upd (fun s => kil (one? id) (τ s)) d (.own id)) (upd (fun j => (H j).kil (one? id)) id (.arr e sz rows)) := by
  simp only [Prod.mk.injEq] at h
  obtain ⟨h1,h2,h3,h4,h5,h6,h7,h8,h9⟩ := h
  exact St.bslice id h1 h2 (Nat.le_of_ble_eq_true h3) he hz h9 h4 h5 rfl hrs h6 (Nat.le_of_ble_eq_true h7) (Nat.le_of_ble_eq_true h8)
theorem zP (id : Nat) {t e : TypeId} {s x : Operand} {d sz : Nat} {zs : List Value} {rows rows2 : List (List PV)} {pn : Option Value} (he : elA P t = some (e,sz)) (hz : zeroA P e = some zs) (hb : P.bytesOf e ≤ 512)
    (h : (o.op,o.dst,Nat.blt d N,zs.length,Nat.blt 0 sz,ev τ s,H id) = (.call { callee := .builtin .append,args := #[s,x],argTypes := #[t,t] },some d,true,sz,true,.own id,.arr ⟨e,pn⟩ sz rows)) (hsrc : Src τ H x sz rows2) (hm : rows.length + rows2.length ≤ 274877906944 := by simp [rowsOf] at *;omega) :
    St P o N τ H [id] (upd (fun s => kil (one? id) (τ s)) d (.own id)) (upd (fun j => (H j).kil (one? id)) id (.arr e sz (rows ++ rows2))) := by
  simp only [Prod.mk.injEq] at h
  obtain ⟨h1,h2,h3,h4,h5,h6,h7⟩ := h
  exact St.app id h1 h2 (Nat.le_of_ble_eq_true h3) he hz h4 (Nat.le_of_ble_eq_true h5) h6 h7 hsrc (by unfold maxLen;omega) (Nat.le_trans (Nat.mul_le_mul_left _ hb) (by omega))
theorem zQ (id : Nat) (pl : List PV) {t : TypeId} {e : Pin} {x y : Operand} {i k sz : Nat} {rows : List (List PV)} {row : List PV} (hsz : P.cellsOf t = pl.length) (hi : (P.info? t).isSome = true)
    (h : (o.op,o.dst,ev τ x,H id,cellsA (ev τ y),Nat.ble (k + pl.length) sz) = (.store t x y,none,.ptr id i k,.arr e sz rows,some (pl.map AV.p),true)) (hrow : rows[i]? = some row) :
    St P o N τ H [id] τ (upd H id (.arr e sz (rows.set i (row.take k ++ pl ++ row.drop (k + pl.length))))) := by
  simp only [Prod.mk.injEq] at h
  obtain ⟨h1,h2,h3,h4,h5,h6⟩ := h
  exact St.storeArr id h1 h2 h3 h4 hrow h5 hsz hi (Nat.le_of_ble_eq_true h6)
variable {ops : Array Oper} {X : Nat → Bool} {t : Nat}
theorem rj (i1 : Nat) {T e : TypeId} {e' : Pin} {y y2 : Operand} {k0 : IntKind} {sz id : Nat} {n1 : Int} {rows : List (List PV)} (f0 : elA P T = some (e,sz)) (h : (o.op,ev τ y,H id,ev τ y2,n1,gv τ ops o,o.dst,Nat.blt t N) = (.indexAddr T y y2,.own id,.arr e' sz rows,.p (.v (.int k0 n1)),(i1 : Int),some true,some t,true)) (hi : i1 < rows.length) : Rdy (Rd P o τ H X (.ptr id i1 0)) N τ ops o t := by
  simp only [Prod.mk.injEq] at h
  obtain ⟨h1,h2,h3,h4,h5,h6,h7,h8⟩ := h
  exact ⟨rd_iaddr_own h1 f0 h2 h3 h4 h5 hi,h6,h7,Nat.le_of_ble_eq_true h8⟩
end
section
variable {P : Program} {L O : Nat → Prop} {w0 : World} {N : Nat} {τ τ' : Nat → AV} {H H' : Nat → AO} {Q : AQ} {ops : Array Oper} {o : Oper} {F : List Nat} {n f : Nat} {X : Nat → Bool} {listed : Array Bool}
theorem v1 (i : Nat) {E : List Nat} (h0 : (ops[i]?,gv τ ops o) = (some o,some true)) (hs : St P o N τ H E τ' H') (hF : F.contains i = true ∨ E = []) (h : AF P L O w0 N ops F n (listed.setIfInBounds i true) τ' H' Q) : AF1 P L O w0 N ops F n listed i τ H Q := by
  simp only [Prod.mk.injEq] at h0
  exact AF1.st h0.1 hs hF h0.2 h
theorem yl {E : List Nat} (h0 : (ops[f]?,gv τ ops o) = (some o,some true)) (hs : St P o N τ H E τ' H') (h : Q .normal τ' H') (hr : (Region.ready .any ops listed == [f] && Region.ready .any ops (listed.setIfInBounds f true) == []) = true := by kernel_rfl) : AG P L O w0 N ops f X (n + 1) listed τ H Q := by
  simp only [Prod.mk.injEq] at h0
  simp only [Bool.and_eq_true,beq_iff_eq] at hr
  exact AG.last h0.1 hr.1 hr.2 hs h0.2 h
variable {id : Nat} {l l2 : List Oper} {y : Code}
theorem nG {K : (Nat → AV) → (Nat → AO) → Prop} (h : K τ H) : AL P L O w0 N ops [] τ H (AQ.andThen K Q) := AL.nil h
theorem sL (h : AL P L O w0 N l2.toArray l2 τ H (Q.andThen fun τ H => AW P L O w0 N y τ H Q)) : AW P L O w0 N (.seq (.region id l2.toArray false) y) τ H Q := AW.seq (AW.list h)
theorem gA (h : AL P L O w0 N l2.toArray l2 τ H (Q.andThen fun τ H => AW P L O w0 N y τ H Q)) : AQ.andThen (fun τ H => AW P L O w0 N (.seq (.region id l2.toArray false) y) τ H Q) Q .normal τ H := sL (id := id) h
theorem nA (h : AL P L O w0 N l2.toArray l2 τ H (Q.andThen fun τ H => AW P L O w0 N y τ H Q)) : AL P L O w0 N ops [] τ H (AQ.andThen (fun τ H => AW P L O w0 N (.seq (.region id l2.toArray false) y) τ H Q) Q) := AL.nil (sL (id := id) h)
end
abbrev Hm (o : Oper) (N : Nat) (τ : Nat → AV) (H : Nat → AO) (X : Nat → Bool) (ops : Array Oper) (t : Nat) (x : AV) (y : Operand) : Prop := (o.op,ev τ y,gv τ ops o,o.dst,Nat.blt t N) = (.move y,x,some true,some t,true)
abbrev Ha (o : Oper) (N : Nat) (τ : Nat → AV) (H : Nat → AO) (X : Nat → Bool) (ops : Array Oper) (t : Nat) (x : AV) (y : Operand) : Prop := (o.op,ev τ y,gv τ ops o,o.dst,Nat.blt t N) = (.assign y,x,some true,some t,true)
abbrev Hb (o : Oper) (N : Nat) (τ : Nat → AV) (H : Nat → AO) (X : Nat → Bool) (ops : Array Oper) (t : Nat) (x : AV) (op : BinOp) (T yT : TypeId) (y y2 : Operand) (A : IntKind) : Prop := (o.op,binv op (ev τ y) (ev τ y2),gv τ ops o,o.dst,Nat.blt t N) = (.binOp op T y y2 yT,some ((A = A),x),some true,some t,true)
abbrev Hk (o : Oper) (N : Nat) (τ : Nat → AV) (H : Nat → AO) (X : Nat → Bool) (ops : Array Oper) (t : Nat) (x : AV) (c y y2 : Operand) : Prop := (o.op,pickv (ev τ c) (ev τ y) (ev τ y2),gv τ ops o,o.dst,Nat.blt t N) = (.pick c y y2,some x,some true,some t,true)
abbrev Hu (o : Oper) (N : Nat) (τ : Nat → AV) (H : Nat → AO) (X : Nat → Bool) (ops : Array Oper) (t : Nat) (x : AV) (uop : UnOp) (T : TypeId) (y : Operand) : Prop := (o.op,unv uop (ev τ y),gv τ ops o,o.dst,Nat.blt t N) = (.unOp uop T y,some (True,x),some true,some t,true)
abbrev Hx (o : Oper) (N : Nat) (τ : Nat → AV) (H : Nat → AO) (X : Nat → Bool) (ops : Array Oper) (t : Nat) (x : AV) (y : Operand) (k : Nat) : Prop := (o.op,extv (ev τ y) k,gv τ ops o,o.dst,Nat.blt t N) = (.extract y k,some x,some true,some t,true)
abbrev Hn (o : Oper) (N : Nat) (τ : Nat → AV) (H : Nat → AO) (X : Nat → Bool) (ops : Array Oper) (t : Nat) (x : AV) (y : Operand) (T : TypeId) : Prop := (o.op,lenv H (ev τ y),gv τ ops o,o.dst,Nat.blt t N) = (.call { callee := .builtin .len,args := #[y],argTypes := #[T] },some x,some true,some t,true)
abbrev Ho (o : Oper) (N : Nat) (τ : Nat → AV) (H : Nat → AO) (X : Nat → Bool) (ops : Array Oper) (t : Nat) (x : AV) (y : Operand) (T T2 : TypeId) (n0 : Option Nat) (id k : Nat) (p : Option Value) (cells : List AV) : Prop := (o.op,ev τ y,H id,X id,ldA n0 (cells.drop k),gv τ ops o,o.dst,Nat.blt t N) = (.load T y,.ptr id 0 k,.box T2 p cells,false,some x,some true,some t,true)
abbrev Hr (o : Oper) (N : Nat) (τ : Nat → AV) (H : Nat → AO) (X : Nat → Bool) (ops : Array Oper) (t : Nat) (x : AV) (y : Operand) (T : TypeId) (n0 : Option Nat) (cellp : List PV) : Prop := (o.op,ev τ y,ldA n0 (cellp.map AV.p),gv τ ops o,o.dst,Nat.blt t N) = (.load T y,.rp cellp,some x,some true,some t,true)
abbrev Hh (o : Oper) (N : Nat) (τ : Nat → AV) (H : Nat → AO) (X : Nat → Bool) (ops : Array Oper) (t : Nat) (x : AV) (op : BinOp) (T yT : TypeId) (y y2 : Operand) (pre : Prop) : Prop := (o.op,binv op (ev τ y) (ev τ y2),gv τ ops o,o.dst,Nat.blt t N) = (.binOp op T y y2 yT,some (pre,x),some true,some t,true)
abbrev Hg (o : Oper) (N : Nat) (τ : Nat → AV) (H : Nat → AO) (X : Nat → Bool) (ops : Array Oper) (t : Nat) (x : AV) (op : BinOp) (T yT : TypeId) (y y2 : Operand) (A : IntKind) (n1 : Int) : Prop := (o.op,binv op (ev τ y) (ev τ y2),gv τ ops o,o.dst,Nat.blt t N) = (.binOp op T y y2 yT,some ((A = A ∧ Fits .i64 n1),x),some true,some t,true)
abbrev Hf (o : Oper) (N : Nat) (τ : Nat → AV) (H : Nat → AO) (X : Nat → Bool) (ops : Array Oper) (t : Nat) (x : AV) (k1 : Nat) (T k off ft : Nat) (y : Operand) (id i1 j : Nat) : Prop := (o.op,ev τ y,(H id).here,j + off,gv τ ops o,o.dst,Nat.blt t N) = (.fieldAddr T y k,.ptr id i1 j,true,k1,some true,some t,true)
abbrev Hc (o : Oper) (N : Nat) (τ : Nat → AV) (H : Nat → AO) (X : Nat → Bool) (ops : Array Oper) (t : Nat) (x : AV) (y : Operand) (id i1 k1 : Nat) : Prop := (o.op,ev τ y,(H id).here,gv τ ops o,o.dst,Nat.blt t N) = (.nilCheck y,.ptr id i1 k1,true,some true,some t,true)
abbrev Hi (o : Oper) (N : Nat) (τ : Nat → AV) (H : Nat → AO) (X : Nat → Bool) (ops : Array Oper) (t : Nat) (x : AV) (i1 : Nat) (T e e2 sz : Nat) (y y2 : Operand) (k0 : IntKind) (n1 : Int) (rows : List (List PV)) (row : List PV) : Prop := (o.op,ev τ y,ev τ y2,n1,gv τ ops o,o.dst,Nat.blt t N) = (.indexAddr T y y2,.p (.lst e2 sz rows),.p (.v (.int k0 n1)),(i1 : Int),some true,some t,true)
section
variable {P : Program} {o : Oper} {N : Nat} {τ : Nat → AV} {H : Nat → AO} {X : Nat → Bool} {ops : Array Oper} {y y2 c : Operand} {op : BinOp} {uop : UnOp} {T T2 yT e e2 ft : TypeId} {A k0 : IntKind} {n0 : Option Nat} {id k t off i1 j sz k1 : Nat} {p : Option Value} {cells : List AV} {cellp : List PV} {pre : Prop} {n1 : Int} {rows : List (List PV)} {row : List PV} {xi : Int} {xb : Bool} {xv : Value} {xo xp xq xt : Nat} {xl : List (List PV)} {xr : List PV}
theorem rmX (x : AV) (h : Hm o N τ H X ops t x y) : Rdy (Rd P o τ H X x) N τ ops o t := by
  have ⟨q0,h⟩ := Prod.mk.inj h
  have ⟨q1,h⟩ := Prod.mk.inj h
  have ⟨q2,h⟩ := Prod.mk.inj h
  have ⟨q3,q4⟩ := Prod.mk.inj h
  exact ⟨rd_mvx (.inl q0) q1,q2,q3,Nat.le_of_ble_eq_true q4⟩
theorem rmI (h : Hm o N τ H X ops t (vI k0 xi) y) : Rdy (Rd P o τ H X (vI k0 xi)) N τ ops o t := rmX (vI k0 xi) h
theorem rmB (h : Hm o N τ H X ops t (vB xb) y) : Rdy (Rd P o τ H X (vB xb)) N τ ops o t := rmX (vB xb) h
theorem rmT (h : Hm o N τ H X ops t (vB true) y) : Rdy (Rd P o τ H X (vB true)) N τ ops o t := rmX (vB true) h
theorem rmZ (h : Hm o N τ H X ops t (vB false) y) : Rdy (Rd P o τ H X (vB false)) N τ ops o t := rmX (vB false) h
theorem rmO (h : Hm o N τ H X ops t (.own xo) y) : Rdy (Rd P o τ H X (.own xo)) N τ ops o t := rmX (.own xo) h
theorem rmP (h : Hm o N τ H X ops t (.ptr xo xp xq) y) : Rdy (Rd P o τ H X (.ptr xo xp xq)) N τ ops o t := rmX (.ptr xo xp xq) h
theorem rmL (h : Hm o N τ H X ops t (vL xt xo xl) y) : Rdy (Rd P o τ H X (vL xt xo xl)) N τ ops o t := rmX (vL xt xo xl) h
theorem qmX (x : AV) (h : Hm o N τ H (fun _ => false) ops t x y) : Rdy (Pd P o τ H x) N τ ops o t := by
  have ⟨q0,h⟩ := Prod.mk.inj h
  have ⟨q1,h⟩ := Prod.mk.inj h
  have ⟨q2,h⟩ := Prod.mk.inj h
  have ⟨q3,q4⟩ := Prod.mk.inj h
  exact ⟨pd_mvx (.inl q0) q1,q2,q3,Nat.le_of_ble_eq_true q4⟩
theorem qmP (h : Hm o N τ H (fun _ => false) ops t (.ptr xo xp xq) y) : Rdy (Pd P o τ H (.ptr xo xp xq)) N τ ops o t := qmX (.ptr xo xp xq) h
theorem qmL (h : Hm o N τ H (fun _ => false) ops t (vL xt xo xl) y) : Rdy (Pd P o τ H (vL xt xo xl)) N τ ops o t := qmX (vL xt xo xl) h
theorem raX (x : AV) (h : Ha o N τ H X ops t x y) : Rdy (Rd P o τ H X x) N τ ops o t := by
  have ⟨q0,h⟩ := Prod.mk.inj h
  have ⟨q1,h⟩ := Prod.mk.inj h
  have ⟨q2,h⟩ := Prod.mk.inj h
  have ⟨q3,q4⟩ := Prod.mk.inj h
  exact ⟨rd_mvx (.inr q0) q1,q2,q3,Nat.le_of_ble_eq_true q4⟩
theorem raI (h : Ha o N τ H X ops t (vI k0 xi) y) : Rdy (Rd P o τ H X (vI k0 xi)) N τ ops o t := raX (vI k0 xi) h
theorem raB (h : Ha o N τ H X ops t (vB xb) y) : Rdy (Rd P o τ H X (vB xb)) N τ ops o t := raX (vB xb) h
theorem raT (h : Ha o N τ H X ops t (vB true) y) : Rdy (Rd P o τ H X (vB true)) N τ ops o t := raX (vB true) h
theorem raZ (h : Ha o N τ H X ops t (vB false) y) : Rdy (Rd P o τ H X (vB false)) N τ ops o t := raX (vB false) h
theorem raV (h : Ha o N τ H X ops t (vV xv) y) : Rdy (Rd P o τ H X (vV xv)) N τ ops o t := raX (vV xv) h
theorem raO (h : Ha o N τ H X ops t (.own xo) y) : Rdy (Rd P o τ H X (.own xo)) N τ ops o t := raX (.own xo) h
theorem raP (h : Ha o N τ H X ops t (.ptr xo xp xq) y) : Rdy (Rd P o τ H X (.ptr xo xp xq)) N τ ops o t := raX (.ptr xo xp xq) h
theorem raL (h : Ha o N τ H X ops t (vL xt xo xl) y) : Rdy (Rd P o τ H X (vL xt xo xl)) N τ ops o t := raX (vL xt xo xl) h
theorem rbB (h : Hb o N τ H X ops t (vB xb) op T yT y y2 A) : Rdy (Rd P o τ H X (vB xb)) N τ ops o t := by
  have ⟨q0,h⟩ := Prod.mk.inj h
  have ⟨q1,h⟩ := Prod.mk.inj h
  have ⟨q2,h⟩ := Prod.mk.inj h
  have ⟨q3,q4⟩ := Prod.mk.inj h
  exact ⟨rd_bin q0 q1 rfl,q2,q3,Nat.le_of_ble_eq_true q4⟩
theorem rkX (x : AV) (h : Hk o N τ H X ops t x c y y2) : Rdy (Rd P o τ H X x) N τ ops o t := by
  have ⟨q0,h⟩ := Prod.mk.inj h
  have ⟨q1,h⟩ := Prod.mk.inj h
  have ⟨q2,h⟩ := Prod.mk.inj h
  have ⟨q3,q4⟩ := Prod.mk.inj h
  exact ⟨rd_pick q0 q1,q2,q3,Nat.le_of_ble_eq_true q4⟩
theorem rkB (h : Hk o N τ H X ops t (vB xb) c y y2) : Rdy (Rd P o τ H X (vB xb)) N τ ops o t := rkX (vB xb) h
theorem rkT (h : Hk o N τ H X ops t (vB true) c y y2) : Rdy (Rd P o τ H X (vB true)) N τ ops o t := rkX (vB true) h
theorem rkZ (h : Hk o N τ H X ops t (vB false) c y y2) : Rdy (Rd P o τ H X (vB false)) N τ ops o t := rkX (vB false) h
theorem ruB (h : Hu o N τ H X ops t (vB xb) uop T y) : Rdy (Rd P o τ H X (vB xb)) N τ ops o t := by
  have ⟨q0,h⟩ := Prod.mk.inj h
  have ⟨q1,h⟩ := Prod.mk.inj h
  have ⟨q2,h⟩ := Prod.mk.inj h
  have ⟨q3,q4⟩ := Prod.mk.inj h
  exact ⟨rd_un q0 q1 trivial,q2,q3,Nat.le_of_ble_eq_true q4⟩
theorem ruT (h : Hu o N τ H X ops t (vB true) uop T y) : Rdy (Rd P o τ H X (vB true)) N τ ops o t := by
  have ⟨q0,h⟩ := Prod.mk.inj h
  have ⟨q1,h⟩ := Prod.mk.inj h
  have ⟨q2,h⟩ := Prod.mk.inj h
  have ⟨q3,q4⟩ := Prod.mk.inj h
  exact ⟨rd_un q0 q1 trivial,q2,q3,Nat.le_of_ble_eq_true q4⟩
theorem ruZ (h : Hu o N τ H X ops t (vB false) uop T y) : Rdy (Rd P o τ H X (vB false)) N τ ops o t := by
  have ⟨q0,h⟩ := Prod.mk.inj h
  have ⟨q1,h⟩ := Prod.mk.inj h
  have ⟨q2,h⟩ := Prod.mk.inj h
  have ⟨q3,q4⟩ := Prod.mk.inj h
  exact ⟨rd_un q0 q1 trivial,q2,q3,Nat.le_of_ble_eq_true q4⟩
theorem rxX (x : AV) (h : Hx o N τ H X ops t x y k) : Rdy (Rd P o τ H X x) N τ ops o t := by
  have ⟨q0,h⟩ := Prod.mk.inj h
  have ⟨q1,h⟩ := Prod.mk.inj h
  have ⟨q2,h⟩ := Prod.mk.inj h
  have ⟨q3,q4⟩ := Prod.mk.inj h
  exact ⟨rd_ext q0 q1,q2,q3,Nat.le_of_ble_eq_true q4⟩
theorem rxI (h : Hx o N τ H X ops t (vI k0 xi) y k) : Rdy (Rd P o τ H X (vI k0 xi)) N τ ops o t := rxX (vI k0 xi) h
theorem rxB (h : Hx o N τ H X ops t (vB xb) y k) : Rdy (Rd P o τ H X (vB xb)) N τ ops o t := rxX (vB xb) h
theorem rxO (h : Hx o N τ H X ops t (.own xo) y k) : Rdy (Rd P o τ H X (.own xo)) N τ ops o t := rxX (.own xo) h
theorem rnI (f0 : isSlice P T = true) (h : Hn o N τ H X ops t (vI k0 xi) y T) : Rdy (Rd P o τ H X (vI k0 xi)) N τ ops o t := by
  have ⟨q0,h⟩ := Prod.mk.inj h
  have ⟨q1,h⟩ := Prod.mk.inj h
  have ⟨q2,h⟩ := Prod.mk.inj h
  have ⟨q3,q4⟩ := Prod.mk.inj h
  exact ⟨rd_len q0 f0 q1,q2,q3,Nat.le_of_ble_eq_true q4⟩
theorem roX (x : AV) (f0 : kindA P T = some n0) (h : Ho o N τ H X ops t x y T T2 n0 id k p cells) : Rdy (Rd P o τ H X x) N τ ops o t := by
  have ⟨q0,h⟩ := Prod.mk.inj h
  have ⟨q1,h⟩ := Prod.mk.inj h
  have ⟨q2,h⟩ := Prod.mk.inj h
  have ⟨q3,h⟩ := Prod.mk.inj h
  have ⟨q4,h⟩ := Prod.mk.inj h
  have ⟨q5,h⟩ := Prod.mk.inj h
  have ⟨q6,q7⟩ := Prod.mk.inj h
  exact ⟨rd_load_box q0 f0 q1 q2 q3 q4,q5,q6,Nat.le_of_ble_eq_true q7⟩
theorem roI (f0 : kindA P T = some n0) (h : Ho o N τ H X ops t (vI k0 xi) y T T2 n0 id k p cells) : Rdy (Rd P o τ H X (vI k0 xi)) N τ ops o t := roX (vI k0 xi) f0 h
theorem roB (f0 : kindA P T = some n0) (h : Ho o N τ H X ops t (vB xb) y T T2 n0 id k p cells) : Rdy (Rd P o τ H X (vB xb)) N τ ops o t := roX (vB xb) f0 h
theorem roO (f0 : kindA P T = some n0) (h : Ho o N τ H X ops t (.own xo) y T T2 n0 id k p cells) : Rdy (Rd P o τ H X (.own xo)) N τ ops o t := roX (.own xo) f0 h
theorem roL (f0 : kindA P T = some n0) (h : Ho o N τ H X ops t (vL xt xo xl) y T T2 n0 id k p cells) : Rdy (Rd P o τ H X (vL xt xo xl)) N τ ops o t := roX (vL xt xo xl) f0 h
theorem rrX (x : AV) (f0 : kindA P T = some n0) (h : Hr o N τ H X ops t x y T n0 cellp) : Rdy (Rd P o τ H X x) N τ ops o t := by
  have ⟨q0,h⟩ := Prod.mk.inj h
  have ⟨q1,h⟩ := Prod.mk.inj h
  have ⟨q2,h⟩ := Prod.mk.inj h
  have ⟨q3,h⟩ := Prod.mk.inj h
  have ⟨q4,q5⟩ := Prod.mk.inj h
  exact ⟨rd_load_rp q0 f0 q1 q2,q3,q4,Nat.le_of_ble_eq_true q5⟩
theorem rrI (f0 : kindA P T = some n0) (h : Hr o N τ H X ops t (vI k0 xi) y T n0 cellp) : Rdy (Rd P o τ H X (vI k0 xi)) N τ ops o t := rrX (vI k0 xi) f0 h
theorem rrB (f0 : kindA P T = some n0) (h : Hr o N τ H X ops t (vB xb) y T n0 cellp) : Rdy (Rd P o τ H X (vB xb)) N τ ops o t := rrX (vB xb) f0 h
theorem rrL (f0 : kindA P T = some n0) (h : Hr o N τ H X ops t (vL xt xo xl) y T n0 cellp) : Rdy (Rd P o τ H X (vL xt xo xl)) N τ ops o t := rrX (vL xt xo xl) f0 h
theorem rhX (x : AV) (h : Hh o N τ H X ops t x op T yT y y2 pre) (hp : pre) : Rdy (Rd P o τ H X x) N τ ops o t := by
  have ⟨q0,h⟩ := Prod.mk.inj h
  have ⟨q1,h⟩ := Prod.mk.inj h
  have ⟨q2,h⟩ := Prod.mk.inj h
  have ⟨q3,q4⟩ := Prod.mk.inj h
  exact ⟨rd_bin q0 q1 hp,q2,q3,Nat.le_of_ble_eq_true q4⟩
theorem rhI (h : Hh o N τ H X ops t (vI k0 xi) op T yT y y2 pre) (hp : pre) : Rdy (Rd P o τ H X (vI k0 xi)) N τ ops o t := rhX (vI k0 xi) h hp
theorem rgI (h : Hg o N τ H X ops t (vI k0 xi) op T yT y y2 A n1) (hp : i64 n1) : Rdy (Rd P o τ H X (vI k0 xi)) N τ ops o t := by
  have ⟨q0,h⟩ := Prod.mk.inj h
  have ⟨q1,h⟩ := Prod.mk.inj h
  have ⟨q2,h⟩ := Prod.mk.inj h
  have ⟨q3,q4⟩ := Prod.mk.inj h
  exact ⟨rd_bin q0 q1 ⟨rfl,fits_i64 hp⟩,q2,q3,Nat.le_of_ble_eq_true q4⟩
theorem rf (k1 : Nat) (f0 : FA P T k off ft) (h : Hf o N τ H X ops t (.ptr id i1 k1) k1 T k off ft y id i1 j) : Rdy (Rd P o τ H X (.ptr id i1 k1)) N τ ops o t := by
  have ⟨q0,h⟩ := Prod.mk.inj h
  have ⟨q1,h⟩ := Prod.mk.inj h
  have ⟨q2,h⟩ := Prod.mk.inj h
  have ⟨q3,h⟩ := Prod.mk.inj h
  have ⟨q4,h⟩ := Prod.mk.inj h
  have ⟨q5,q6⟩ := Prod.mk.inj h
  subst q3
  exact ⟨rd_faddr q0 f0.1 f0.2.1 f0.2.2 q1 q2,q4,q5,Nat.le_of_ble_eq_true q6⟩
theorem qf (k1 : Nat) (f0 : FA P T k off ft) (h : Hf o N τ H (fun _ => false) ops t (.ptr id i1 k1) k1 T k off ft y id i1 j) : Rdy (Pd P o τ H (.ptr id i1 k1)) N τ ops o t := by
  have ⟨q0,h⟩ := Prod.mk.inj h
  have ⟨q1,h⟩ := Prod.mk.inj h
  have ⟨q2,h⟩ := Prod.mk.inj h
  have ⟨q3,h⟩ := Prod.mk.inj h
  have ⟨q4,h⟩ := Prod.mk.inj h
  have ⟨q5,q6⟩ := Prod.mk.inj h
  subst q3
  exact ⟨pd_faddr q0 f0.1 f0.2.1 f0.2.2 q1 q2,q4,q5,Nat.le_of_ble_eq_true q6⟩
theorem rc (h : Hc o N τ H X ops t (.ptr id i1 k1) y id i1 k1) : Rdy (Rd P o τ H X (.ptr id i1 k1)) N τ ops o t := by
  have ⟨q0,h⟩ := Prod.mk.inj h
  have ⟨q1,h⟩ := Prod.mk.inj h
  have ⟨q2,h⟩ := Prod.mk.inj h
  have ⟨q3,h⟩ := Prod.mk.inj h
  have ⟨q4,q5⟩ := Prod.mk.inj h
  exact ⟨rd_nilc q0 q1 q2,q3,q4,Nat.le_of_ble_eq_true q5⟩
theorem qc (h : Hc o N τ H (fun _ => false) ops t (.ptr id i1 k1) y id i1 k1) : Rdy (Pd P o τ H (.ptr id i1 k1)) N τ ops o t := by
  have ⟨q0,h⟩ := Prod.mk.inj h
  have ⟨q1,h⟩ := Prod.mk.inj h
  have ⟨q2,h⟩ := Prod.mk.inj h
  have ⟨q3,h⟩ := Prod.mk.inj h
  have ⟨q4,q5⟩ := Prod.mk.inj h
  exact ⟨pd_nilc q0 q1 q2,q3,q4,Nat.le_of_ble_eq_true q5⟩
theorem ri (i1 : Nat) (f0 : elA P T = some (e,sz)) (h : Hi o N τ H X ops t (.rp row) i1 T e e2 sz y y2 k0 n1 rows row) (hr : rows[i1]? = some row) : Rdy (Rd P o τ H X (.rp row)) N τ ops o t := by
  have ⟨q0,h⟩ := Prod.mk.inj h
  have ⟨q1,h⟩ := Prod.mk.inj h
  have ⟨q2,h⟩ := Prod.mk.inj h
  have ⟨q3,h⟩ := Prod.mk.inj h
  have ⟨q4,h⟩ := Prod.mk.inj h
  have ⟨q5,q6⟩ := Prod.mk.inj h
  exact ⟨rd_iaddr_p q0 f0 q1 q2 q3 hr,q4,q5,Nat.le_of_ble_eq_true q6⟩
variable {L O : Nat → Prop} {w0 : World} {Q : AQ} {l : List Oper}
theorem lmI (h : Hm o N τ H (fun _ => false) ops t (vI k0 xi) y) (K : AL P L O w0 N ops l (upd τ t (vI k0 xi)) H Q) : AL P L O w0 N ops (o :: l) τ H Q := lq (rmI h) K
theorem lmB (h : Hm o N τ H (fun _ => false) ops t (vB xb) y) (K : AL P L O w0 N ops l (upd τ t (vB xb)) H Q) : AL P L O w0 N ops (o :: l) τ H Q := lq (rmB h) K
theorem lmT (h : Hm o N τ H (fun _ => false) ops t (vB true) y) (K : AL P L O w0 N ops l (upd τ t (vB true)) H Q) : AL P L O w0 N ops (o :: l) τ H Q := lq (rmT h) K
theorem lmZ (h : Hm o N τ H (fun _ => false) ops t (vB false) y) (K : AL P L O w0 N ops l (upd τ t (vB false)) H Q) : AL P L O w0 N ops (o :: l) τ H Q := lq (rmZ h) K
theorem lmO (h : Hm o N τ H (fun _ => false) ops t (.own xo) y) (K : AL P L O w0 N ops l (upd τ t (.own xo)) H Q) : AL P L O w0 N ops (o :: l) τ H Q := lq (rmO h) K
theorem lmP (h : Hm o N τ H (fun _ => false) ops t (.ptr xo xp xq) y) (K : AL P L O w0 N ops l (upd τ t (.ptr xo xp xq)) H Q) : AL P L O w0 N ops (o :: l) τ H Q := lq (rmP h) K
theorem lmL (h : Hm o N τ H (fun _ => false) ops t (vL xt xo xl) y) (K : AL P L O w0 N ops l (upd τ t (vL xt xo xl)) H Q) : AL P L O w0 N ops (o :: l) τ H Q := lq (rmL h) K
theorem lmX (x : AV) (h : Hm o N τ H (fun _ => false) ops t x y) (K : AL P L O w0 N ops l (upd τ t x) H Q) : AL P L O w0 N ops (o :: l) τ H Q := lq (rmX x h) K
theorem laI (h : Ha o N τ H (fun _ => false) ops t (vI k0 xi) y) (K : AL P L O w0 N ops l (upd τ t (vI k0 xi)) H Q) : AL P L O w0 N ops (o :: l) τ H Q := lq (raI h) K
theorem laB (h : Ha o N τ H (fun _ => false) ops t (vB xb) y) (K : AL P L O w0 N ops l (upd τ t (vB xb)) H Q) : AL P L O w0 N ops (o :: l) τ H Q := lq (raB h) K
theorem laT (h : Ha o N τ H (fun _ => false) ops t (vB true) y) (K : AL P L O w0 N ops l (upd τ t (vB true)) H Q) : AL P L O w0 N ops (o :: l) τ H Q := lq (raT h) K
theorem laZ (h : Ha o N τ H (fun _ => false) ops t (vB false) y) (K : AL P L O w0 N ops l (upd τ t (vB false)) H Q) : AL P L O w0 N ops (o :: l) τ H Q := lq (raZ h) K
theorem laV (h : Ha o N τ H (fun _ => false) ops t (vV xv) y) (K : AL P L O w0 N ops l (upd τ t (vV xv)) H Q) : AL P L O w0 N ops (o :: l) τ H Q := lq (raV h) K
theorem laO (h : Ha o N τ H (fun _ => false) ops t (.own xo) y) (K : AL P L O w0 N ops l (upd τ t (.own xo)) H Q) : AL P L O w0 N ops (o :: l) τ H Q := lq (raO h) K
theorem laP (h : Ha o N τ H (fun _ => false) ops t (.ptr xo xp xq) y) (K : AL P L O w0 N ops l (upd τ t (.ptr xo xp xq)) H Q) : AL P L O w0 N ops (o :: l) τ H Q := lq (raP h) K
theorem laL (h : Ha o N τ H (fun _ => false) ops t (vL xt xo xl) y) (K : AL P L O w0 N ops l (upd τ t (vL xt xo xl)) H Q) : AL P L O w0 N ops (o :: l) τ H Q := lq (raL h) K
theorem lbB (h : Hb o N τ H (fun _ => false) ops t (vB xb) op T yT y y2 A) (K : AL P L O w0 N ops l (upd τ t (vB xb)) H Q) : AL P L O w0 N ops (o :: l) τ H Q := lq (rbB h) K
theorem lkB (h : Hk o N τ H (fun _ => false) ops t (vB xb) c y y2) (K : AL P L O w0 N ops l (upd τ t (vB xb)) H Q) : AL P L O w0 N ops (o :: l) τ H Q := lq (rkB h) K
theorem lkT (h : Hk o N τ H (fun _ => false) ops t (vB true) c y y2) (K : AL P L O w0 N ops l (upd τ t (vB true)) H Q) : AL P L O w0 N ops (o :: l) τ H Q := lq (rkT h) K
theorem lkZ (h : Hk o N τ H (fun _ => false) ops t (vB false) c y y2) (K : AL P L O w0 N ops l (upd τ t (vB false)) H Q) : AL P L O w0 N ops (o :: l) τ H Q := lq (rkZ h) K
theorem luB (h : Hu o N τ H (fun _ => false) ops t (vB xb) uop T y) (K : AL P L O w0 N ops l (upd τ t (vB xb)) H Q) : AL P L O w0 N ops (o :: l) τ H Q := lq (ruB h) K
theorem luT (h : Hu o N τ H (fun _ => false) ops t (vB true) uop T y) (K : AL P L O w0 N ops l (upd τ t (vB true)) H Q) : AL P L O w0 N ops (o :: l) τ H Q := lq (ruT h) K
theorem luZ (h : Hu o N τ H (fun _ => false) ops t (vB false) uop T y) (K : AL P L O w0 N ops l (upd τ t (vB false)) H Q) : AL P L O w0 N ops (o :: l) τ H Q := lq (ruZ h) K
theorem lxI (h : Hx o N τ H (fun _ => false) ops t (vI k0 xi) y k) (K : AL P L O w0 N ops l (upd τ t (vI k0 xi)) H Q) : AL P L O w0 N ops (o :: l) τ H Q := lq (rxI h) K
theorem lxB (h : Hx o N τ H (fun _ => false) ops t (vB xb) y k) (K : AL P L O w0 N ops l (upd τ t (vB xb)) H Q) : AL P L O w0 N ops (o :: l) τ H Q := lq (rxB h) K
theorem lxO (h : Hx o N τ H (fun _ => false) ops t (.own xo) y k) (K : AL P L O w0 N ops l (upd τ t (.own xo)) H Q) : AL P L O w0 N ops (o :: l) τ H Q := lq (rxO h) K
theorem lxX (x : AV) (h : Hx o N τ H (fun _ => false) ops t x y k) (K : AL P L O w0 N ops l (upd τ t x) H Q) : AL P L O w0 N ops (o :: l) τ H Q := lq (rxX x h) K
theorem lnI (f0 : isSlice P T = true) (h : Hn o N τ H (fun _ => false) ops t (vI k0 xi) y T) (K : AL P L O w0 N ops l (upd τ t (vI k0 xi)) H Q) : AL P L O w0 N ops (o :: l) τ H Q := lq (rnI f0 h) K
theorem loI (f0 : kindA P T = some n0) (h : Ho o N τ H (fun _ => false) ops t (vI k0 xi) y T T2 n0 id k p cells) (K : AL P L O w0 N ops l (upd τ t (vI k0 xi)) H Q) : AL P L O w0 N ops (o :: l) τ H Q := lq (roI f0 h) K
theorem loB (f0 : kindA P T = some n0) (h : Ho o N τ H (fun _ => false) ops t (vB xb) y T T2 n0 id k p cells) (K : AL P L O w0 N ops l (upd τ t (vB xb)) H Q) : AL P L O w0 N ops (o :: l) τ H Q := lq (roB f0 h) K
theorem loO (f0 : kindA P T = some n0) (h : Ho o N τ H (fun _ => false) ops t (.own xo) y T T2 n0 id k p cells) (K : AL P L O w0 N ops l (upd τ t (.own xo)) H Q) : AL P L O w0 N ops (o :: l) τ H Q := lq (roO f0 h) K
theorem loL (f0 : kindA P T = some n0) (h : Ho o N τ H (fun _ => false) ops t (vL xt xo xl) y T T2 n0 id k p cells) (K : AL P L O w0 N ops l (upd τ t (vL xt xo xl)) H Q) : AL P L O w0 N ops (o :: l) τ H Q := lq (roL f0 h) K
theorem loX (x : AV) (f0 : kindA P T = some n0) (h : Ho o N τ H (fun _ => false) ops t x y T T2 n0 id k p cells) (K : AL P L O w0 N ops l (upd τ t x) H Q) : AL P L O w0 N ops (o :: l) τ H Q := lq (roX x f0 h) K
theorem lrI (f0 : kindA P T = some n0) (h : Hr o N τ H (fun _ => false) ops t (vI k0 xi) y T n0 cellp) (K : AL P L O w0 N ops l (upd τ t (vI k0 xi)) H Q) : AL P L O w0 N ops (o :: l) τ H Q := lq (rrI f0 h) K
theorem lrB (f0 : kindA P T = some n0) (h : Hr o N τ H (fun _ => false) ops t (vB xb) y T n0 cellp) (K : AL P L O w0 N ops l (upd τ t (vB xb)) H Q) : AL P L O w0 N ops (o :: l) τ H Q := lq (rrB f0 h) K
theorem lrL (f0 : kindA P T = some n0) (h : Hr o N τ H (fun _ => false) ops t (vL xt xo xl) y T n0 cellp) (K : AL P L O w0 N ops l (upd τ t (vL xt xo xl)) H Q) : AL P L O w0 N ops (o :: l) τ H Q := lq (rrL f0 h) K
theorem lrX (x : AV) (f0 : kindA P T = some n0) (h : Hr o N τ H (fun _ => false) ops t x y T n0 cellp) (K : AL P L O w0 N ops l (upd τ t x) H Q) : AL P L O w0 N ops (o :: l) τ H Q := lq (rrX x f0 h) K
theorem lhI (h : Hh o N τ H (fun _ => false) ops t (vI k0 xi) op T yT y y2 pre) (hp : pre) (K : AL P L O w0 N ops l (upd τ t (vI k0 xi)) H Q) : AL P L O w0 N ops (o :: l) τ H Q := lq (rhI h hp) K
theorem lgI (h : Hg o N τ H (fun _ => false) ops t (vI k0 xi) op T yT y y2 A n1) (K : AL P L O w0 N ops l (upd τ t (vI k0 xi)) H Q) (hp : i64 n1 := by unfold i64;omega) : AL P L O w0 N ops (o :: l) τ H Q := lq (rgI h hp) K
theorem lf (k1 : Nat) (f0 : FA P T k off ft) (h : Hf o N τ H (fun _ => false) ops t (.ptr id i1 k1) k1 T k off ft y id i1 j) (K : AL P L O w0 N ops l (upd τ t (.ptr id i1 k1)) H Q) : AL P L O w0 N ops (o :: l) τ H Q := lq (rf k1 f0 h) K
theorem lc (h : Hc o N τ H (fun _ => false) ops t (.ptr id i1 k1) y id i1 k1) (K : AL P L O w0 N ops l (upd τ t (.ptr id i1 k1)) H Q) : AL P L O w0 N ops (o :: l) τ H Q := lq (rc h) K
theorem li (i1 : Nat) (f0 : elA P T = some (e,sz)) (h : Hi o N τ H (fun _ => false) ops t (.rp row) i1 T e e2 sz y y2 k0 n1 rows row) (hr : rows[i1]? = some row) (K : AL P L O w0 N ops l (upd τ t (.rp row)) H Q) : AL P L O w0 N ops (o :: l) τ H Q := lq (ri i1 f0 h hr) K
end
end Go.Proofs.YtohobndkbmpfcaaGreat

namespace Go.Proofs.YtohobndkbmpfcaaGreat.ty
open Go Go.Proofs Go.Proofs.YtohobndkbmpfcaaGreat
theorem kd3 : kindA Tryz.prog 3 = some none := by kernel_rfl
theorem co3 : Tryz.prog.cellsOf 3 = 1 := by kernel_rfl
theorem by3 : Tryz.prog.bytesOf 3 ≤ 512 := Nat.le_of_ble_eq_true (by kernel_rfl)
theorem inf3 : (Tryz.prog.info? 3).isSome = true := by kernel_rfl
theorem ik3 : intKind Tryz.prog 3 = some .i64 := by kernel_rfl
theorem ze3 : zeroA Tryz.prog 3 = some [.int .i64 0] := by kernel_rfl
theorem kd4 : kindA Tryz.prog 4 = some none := by kernel_rfl
theorem co4 : Tryz.prog.cellsOf 4 = 1 := by kernel_rfl
theorem inf4 : (Tryz.prog.info? 4).isSome = true := by kernel_rfl
theorem ze4 : zeroA Tryz.prog 4 = some [.bool false] := by kernel_rfl
theorem kd22 : kindA Tryz.prog 22 = some none := by kernel_rfl
theorem el22 : elA Tryz.prog 22 = some (122,7) := by kernel_rfl
theorem sl22 : isSlice Tryz.prog 22 = true := by kernel_rfl
theorem kd23 : kindA Tryz.prog 23 = some none := by kernel_rfl
theorem el23 : elA Tryz.prog 23 = some (124,7) := by kernel_rfl
theorem sl23 : isSlice Tryz.prog 23 = true := by kernel_rfl
theorem kd24 : kindA Tryz.prog 24 = some none := by kernel_rfl
theorem el24 : elA Tryz.prog 24 = some (126,5) := by kernel_rfl
theorem sl24 : isSlice Tryz.prog 24 = true := by kernel_rfl
theorem kd26 : kindA Tryz.prog 26 = some (some 6) := by kernel_rfl
theorem F26_0 : FA Tryz.prog 26 0 0 3 := ⟨by kernel_rfl,by rw [show Tryz.prog.cellsOf 3 = 1 by kernel_rfl];decide,by kernel_rfl⟩
theorem F26_1 : FA Tryz.prog 26 1 1 3 := ⟨by kernel_rfl,by rw [show Tryz.prog.cellsOf 3 = 1 by kernel_rfl];decide,by kernel_rfl⟩
theorem F26_2 : FA Tryz.prog 26 2 2 3 := ⟨by kernel_rfl,by rw [show Tryz.prog.cellsOf 3 = 1 by kernel_rfl];decide,by kernel_rfl⟩
theorem F26_3 : FA Tryz.prog 26 3 3 22 := ⟨by kernel_rfl,by rw [show Tryz.prog.cellsOf 22 = 1 by kernel_rfl];decide,by kernel_rfl⟩
theorem F26_4 : FA Tryz.prog 26 4 4 23 := ⟨by kernel_rfl,by rw [show Tryz.prog.cellsOf 23 = 1 by kernel_rfl];decide,by kernel_rfl⟩
theorem F26_5 : FA Tryz.prog 26 5 5 24 := ⟨by kernel_rfl,by rw [show Tryz.prog.cellsOf 24 = 1 by kernel_rfl];decide,by kernel_rfl⟩
theorem kd28 : kindA Tryz.prog 28 = some (some 7) := by kernel_rfl
theorem F28_0 : FA Tryz.prog 28 0 0 3 := ⟨by kernel_rfl,by rw [show Tryz.prog.cellsOf 3 = 1 by kernel_rfl];decide,by kernel_rfl⟩
theorem F28_1 : FA Tryz.prog 28 1 1 3 := ⟨by kernel_rfl,by rw [show Tryz.prog.cellsOf 3 = 1 by kernel_rfl];decide,by kernel_rfl⟩
theorem F28_2 : FA Tryz.prog 28 2 2 3 := ⟨by kernel_rfl,by rw [show Tryz.prog.cellsOf 3 = 1 by kernel_rfl];decide,by kernel_rfl⟩
theorem F28_3 : FA Tryz.prog 28 3 3 3 := ⟨by kernel_rfl,by rw [show Tryz.prog.cellsOf 3 = 1 by kernel_rfl];decide,by kernel_rfl⟩
theorem F28_4 : FA Tryz.prog 28 4 4 3 := ⟨by kernel_rfl,by rw [show Tryz.prog.cellsOf 3 = 1 by kernel_rfl];decide,by kernel_rfl⟩
theorem F28_5 : FA Tryz.prog 28 5 5 3 := ⟨by kernel_rfl,by rw [show Tryz.prog.cellsOf 3 = 1 by kernel_rfl];decide,by kernel_rfl⟩
theorem F28_6 : FA Tryz.prog 28 6 6 4 := ⟨by kernel_rfl,by rw [show Tryz.prog.cellsOf 4 = 1 by kernel_rfl];decide,by kernel_rfl⟩
theorem kd30 : kindA Tryz.prog 30 = some none := by kernel_rfl
theorem co30 : Tryz.prog.cellsOf 30 = 1 := by kernel_rfl
theorem inf30 : (Tryz.prog.info? 30).isSome = true := by kernel_rfl
theorem el30 : elA Tryz.prog 30 = some (78,7) := by kernel_rfl
theorem sl30 : isSlice Tryz.prog 30 = true := by kernel_rfl
theorem kd31 : kindA Tryz.prog 31 = some none := by kernel_rfl
theorem co31 : Tryz.prog.cellsOf 31 = 1 := by kernel_rfl
theorem inf31 : (Tryz.prog.info? 31).isSome = true := by kernel_rfl
theorem el31 : elA Tryz.prog 31 = some (117,7) := by kernel_rfl
theorem sl31 : isSlice Tryz.prog 31 = true := by kernel_rfl
theorem kd32 : kindA Tryz.prog 32 = some none := by kernel_rfl
theorem co32 : Tryz.prog.cellsOf 32 = 1 := by kernel_rfl
theorem inf32 : (Tryz.prog.info? 32).isSome = true := by kernel_rfl
theorem el32 : elA Tryz.prog 32 = some (120,5) := by kernel_rfl
theorem sl32 : isSlice Tryz.prog 32 = true := by kernel_rfl
theorem kd34 : kindA Tryz.prog 34 = some (some 6) := by kernel_rfl
theorem co34 : Tryz.prog.cellsOf 34 = 6 := by kernel_rfl
theorem inf34 : (Tryz.prog.info? 34).isSome = true := by kernel_rfl
theorem F34_0 : FA Tryz.prog 34 0 0 3 := ⟨by kernel_rfl,by rw [show Tryz.prog.cellsOf 3 = 1 by kernel_rfl];decide,by kernel_rfl⟩
theorem F34_1 : FA Tryz.prog 34 1 1 3 := ⟨by kernel_rfl,by rw [show Tryz.prog.cellsOf 3 = 1 by kernel_rfl];decide,by kernel_rfl⟩
theorem F34_2 : FA Tryz.prog 34 2 2 3 := ⟨by kernel_rfl,by rw [show Tryz.prog.cellsOf 3 = 1 by kernel_rfl];decide,by kernel_rfl⟩
theorem F34_3 : FA Tryz.prog 34 3 3 30 := ⟨by kernel_rfl,by rw [show Tryz.prog.cellsOf 30 = 1 by kernel_rfl];decide,by kernel_rfl⟩
theorem F34_4 : FA Tryz.prog 34 4 4 31 := ⟨by kernel_rfl,by rw [show Tryz.prog.cellsOf 31 = 1 by kernel_rfl];decide,by kernel_rfl⟩
theorem F34_5 : FA Tryz.prog 34 5 5 32 := ⟨by kernel_rfl,by rw [show Tryz.prog.cellsOf 32 = 1 by kernel_rfl];decide,by kernel_rfl⟩
theorem ze34 : zeroA Tryz.prog 34 = some [.int .i64 0,.int .i64 0,.int .i64 0,.slice none 0 0,.slice none 0 0,.slice none 0 0] := by kernel_rfl
theorem sa34 : structA Tryz.prog 34 = some ([.int .i64 0,.int .i64 0,.int .i64 0,.slice none 0 0,.slice none 0 0,.slice none 0 0],[(0,1),(1,1),(2,1),(3,1),(4,1),(5,1)]) := by kernel_rfl
theorem kd35 : kindA Tryz.prog 35 = some none := by kernel_rfl
theorem co35 : Tryz.prog.cellsOf 35 = 1 := by kernel_rfl
theorem inf35 : (Tryz.prog.info? 35).isSome = true := by kernel_rfl
theorem el35 : elA Tryz.prog 35 = some (109,3) := by kernel_rfl
theorem sl35 : isSlice Tryz.prog 35 = true := by kernel_rfl
theorem kd37 : kindA Tryz.prog 37 = some (some 2) := by kernel_rfl
theorem co37 : Tryz.prog.cellsOf 37 = 2 := by kernel_rfl
theorem by37 : Tryz.prog.bytesOf 37 ≤ 512 := Nat.le_of_ble_eq_true (by kernel_rfl)
theorem inf37 : (Tryz.prog.info? 37).isSome = true := by kernel_rfl
theorem F37_0 : FA Tryz.prog 37 0 0 3 := ⟨by kernel_rfl,by rw [show Tryz.prog.cellsOf 3 = 1 by kernel_rfl];decide,by kernel_rfl⟩
theorem F37_1 : FA Tryz.prog 37 1 1 35 := ⟨by kernel_rfl,by rw [show Tryz.prog.cellsOf 35 = 1 by kernel_rfl];decide,by kernel_rfl⟩
theorem ze37 : zeroA Tryz.prog 37 = some [.int .i64 0,.slice none 0 0] := by kernel_rfl
theorem sa37 : structA Tryz.prog 37 = some ([.int .i64 0,.slice none 0 0],[(0,1),(1,1)]) := by kernel_rfl
theorem kd41 : kindA Tryz.prog 41 = some (some 7) := by kernel_rfl
theorem co41 : Tryz.prog.cellsOf 41 = 7 := by kernel_rfl
theorem by41 : Tryz.prog.bytesOf 41 ≤ 512 := Nat.le_of_ble_eq_true (by kernel_rfl)
theorem inf41 : (Tryz.prog.info? 41).isSome = true := by kernel_rfl
theorem F41_0 : FA Tryz.prog 41 0 0 3 := ⟨by kernel_rfl,by rw [show Tryz.prog.cellsOf 3 = 1 by kernel_rfl];decide,by kernel_rfl⟩
theorem F41_1 : FA Tryz.prog 41 1 1 3 := ⟨by kernel_rfl,by rw [show Tryz.prog.cellsOf 3 = 1 by kernel_rfl];decide,by kernel_rfl⟩
theorem F41_2 : FA Tryz.prog 41 2 2 3 := ⟨by kernel_rfl,by rw [show Tryz.prog.cellsOf 3 = 1 by kernel_rfl];decide,by kernel_rfl⟩
theorem F41_3 : FA Tryz.prog 41 3 3 3 := ⟨by kernel_rfl,by rw [show Tryz.prog.cellsOf 3 = 1 by kernel_rfl];decide,by kernel_rfl⟩
theorem F41_4 : FA Tryz.prog 41 4 4 3 := ⟨by kernel_rfl,by rw [show Tryz.prog.cellsOf 3 = 1 by kernel_rfl];decide,by kernel_rfl⟩
theorem F41_5 : FA Tryz.prog 41 5 5 3 := ⟨by kernel_rfl,by rw [show Tryz.prog.cellsOf 3 = 1 by kernel_rfl];decide,by kernel_rfl⟩
theorem F41_6 : FA Tryz.prog 41 6 6 4 := ⟨by kernel_rfl,by rw [show Tryz.prog.cellsOf 4 = 1 by kernel_rfl];decide,by kernel_rfl⟩
theorem ze41 : zeroA Tryz.prog 41 = some [.int .i64 0,.int .i64 0,.int .i64 0,.int .i64 0,.int .i64 0,.int .i64 0,.bool false] := by kernel_rfl
theorem sa41 : structA Tryz.prog 41 = some ([.int .i64 0,.int .i64 0,.int .i64 0,.int .i64 0,.int .i64 0,.int .i64 0,.bool false],[(0,1),(1,1),(2,1),(3,1),(4,1),(5,1),(6,1)]) := by kernel_rfl
theorem el48 : elA Tryz.prog 48 = some (28,7) := by kernel_rfl
theorem sl48 : isSlice Tryz.prog 48 = true := by kernel_rfl
theorem el50 : elA Tryz.prog 50 = some (37,2) := by kernel_rfl
theorem sl50 : isSlice Tryz.prog 50 = true := by kernel_rfl
theorem el51 : elA Tryz.prog 51 = some (3,1) := by kernel_rfl
theorem sl51 : isSlice Tryz.prog 51 = true := by kernel_rfl
theorem el54 : elA Tryz.prog 54 = some (41,7) := by kernel_rfl
theorem sl54 : isSlice Tryz.prog 54 = true := by kernel_rfl
theorem F71_0 : FA Tryz.prog 71 0 0 34 := ⟨by kernel_rfl,by rw [show Tryz.prog.cellsOf 34 = 6 by kernel_rfl];decide,by kernel_rfl⟩
theorem F71_1 : FA Tryz.prog 71 1 6 35 := ⟨by kernel_rfl,by rw [show Tryz.prog.cellsOf 35 = 1 by kernel_rfl];decide,by kernel_rfl⟩
theorem F71_2 : FA Tryz.prog 71 2 7 3 := ⟨by kernel_rfl,by rw [show Tryz.prog.cellsOf 3 = 1 by kernel_rfl];decide,by kernel_rfl⟩
theorem sa71 : structA Tryz.prog 71 = some ([.int .i64 0,.int .i64 0,.int .i64 0,.slice none 0 0,.slice none 0 0,.slice none 0 0,.slice none 0 0,.int .i64 0],[(0,6),(6,1),(7,1)]) := by kernel_rfl
theorem kd78 : kindA Tryz.prog 78 = some (some 7) := by kernel_rfl
theorem co78 : Tryz.prog.cellsOf 78 = 7 := by kernel_rfl
theorem by78 : Tryz.prog.bytesOf 78 ≤ 512 := Nat.le_of_ble_eq_true (by kernel_rfl)
theorem inf78 : (Tryz.prog.info? 78).isSome = true := by kernel_rfl
theorem F78_0 : FA Tryz.prog 78 0 0 3 := ⟨by kernel_rfl,by rw [show Tryz.prog.cellsOf 3 = 1 by kernel_rfl];decide,by kernel_rfl⟩
theorem F78_1 : FA Tryz.prog 78 1 1 3 := ⟨by kernel_rfl,by rw [show Tryz.prog.cellsOf 3 = 1 by kernel_rfl];decide,by kernel_rfl⟩
theorem F78_2 : FA Tryz.prog 78 2 2 3 := ⟨by kernel_rfl,by rw [show Tryz.prog.cellsOf 3 = 1 by kernel_rfl];decide,by kernel_rfl⟩
theorem F78_3 : FA Tryz.prog 78 3 3 3 := ⟨by kernel_rfl,by rw [show Tryz.prog.cellsOf 3 = 1 by kernel_rfl];decide,by kernel_rfl⟩
theorem F78_4 : FA Tryz.prog 78 4 4 3 := ⟨by kernel_rfl,by rw [show Tryz.prog.cellsOf 3 = 1 by kernel_rfl];decide,by kernel_rfl⟩
theorem F78_5 : FA Tryz.prog 78 5 5 3 := ⟨by kernel_rfl,by rw [show Tryz.prog.cellsOf 3 = 1 by kernel_rfl];decide,by kernel_rfl⟩
theorem F78_6 : FA Tryz.prog 78 6 6 3 := ⟨by kernel_rfl,by rw [show Tryz.prog.cellsOf 3 = 1 by kernel_rfl];decide,by kernel_rfl⟩
theorem ze78 : zeroA Tryz.prog 78 = some [.int .i64 0,.int .i64 0,.int .i64 0,.int .i64 0,.int .i64 0,.int .i64 0,.int .i64 0] := by kernel_rfl
theorem sa78 : structA Tryz.prog 78 = some ([.int .i64 0,.int .i64 0,.int .i64 0,.int .i64 0,.int .i64 0,.int .i64 0,.int .i64 0],[(0,1),(1,1),(2,1),(3,1),(4,1),(5,1),(6,1)]) := by kernel_rfl
theorem F87_0 : FA Tryz.prog 87 0 0 34 := ⟨by kernel_rfl,by rw [show Tryz.prog.cellsOf 34 = 6 by kernel_rfl];decide,by kernel_rfl⟩
theorem F87_1 : FA Tryz.prog 87 1 6 35 := ⟨by kernel_rfl,by rw [show Tryz.prog.cellsOf 35 = 1 by kernel_rfl];decide,by kernel_rfl⟩
theorem F87_2 : FA Tryz.prog 87 2 7 3 := ⟨by kernel_rfl,by rw [show Tryz.prog.cellsOf 3 = 1 by kernel_rfl];decide,by kernel_rfl⟩
theorem sa87 : structA Tryz.prog 87 = some ([.int .i64 0,.int .i64 0,.int .i64 0,.slice none 0 0,.slice none 0 0,.slice none 0 0,.slice none 0 0,.int .i64 0],[(0,6),(6,1),(7,1)]) := by kernel_rfl
theorem el102 : elA Tryz.prog 102 = some (4,1) := by kernel_rfl
theorem kd107 : kindA Tryz.prog 107 = some (some 2) := by kernel_rfl
theorem F107_0 : FA Tryz.prog 107 0 0 3 := ⟨by kernel_rfl,by rw [show Tryz.prog.cellsOf 3 = 1 by kernel_rfl];decide,by kernel_rfl⟩
theorem F107_1 : FA Tryz.prog 107 1 1 3 := ⟨by kernel_rfl,by rw [show Tryz.prog.cellsOf 3 = 1 by kernel_rfl];decide,by kernel_rfl⟩
theorem sa107 : structA Tryz.prog 107 = some ([.int .i64 0,.int .i64 0],[(0,1),(1,1)]) := by kernel_rfl
theorem kd109 : kindA Tryz.prog 109 = some (some 3) := by kernel_rfl
theorem co109 : Tryz.prog.cellsOf 109 = 3 := by kernel_rfl
theorem by109 : Tryz.prog.bytesOf 109 ≤ 512 := Nat.le_of_ble_eq_true (by kernel_rfl)
theorem inf109 : (Tryz.prog.info? 109).isSome = true := by kernel_rfl
theorem F109_0 : FA Tryz.prog 109 0 0 107 := ⟨by kernel_rfl,by rw [show Tryz.prog.cellsOf 107 = 2 by kernel_rfl];decide,by kernel_rfl⟩
theorem F109_1 : FA Tryz.prog 109 1 2 3 := ⟨by kernel_rfl,by rw [show Tryz.prog.cellsOf 3 = 1 by kernel_rfl];decide,by kernel_rfl⟩
theorem ze109 : zeroA Tryz.prog 109 = some [.int .i64 0,.int .i64 0,.int .i64 0] := by kernel_rfl
theorem sa109 : structA Tryz.prog 109 = some ([.int .i64 0,.int .i64 0,.int .i64 0],[(0,2),(2,1)]) := by kernel_rfl
theorem kd117 : kindA Tryz.prog 117 = some (some 7) := by kernel_rfl
theorem co117 : Tryz.prog.cellsOf 117 = 7 := by kernel_rfl
theorem by117 : Tryz.prog.bytesOf 117 ≤ 512 := Nat.le_of_ble_eq_true (by kernel_rfl)
theorem inf117 : (Tryz.prog.info? 117).isSome = true := by kernel_rfl
theorem F117_0 : FA Tryz.prog 117 0 0 3 := ⟨by kernel_rfl,by rw [show Tryz.prog.cellsOf 3 = 1 by kernel_rfl];decide,by kernel_rfl⟩
theorem F117_1 : FA Tryz.prog 117 1 1 3 := ⟨by kernel_rfl,by rw [show Tryz.prog.cellsOf 3 = 1 by kernel_rfl];decide,by kernel_rfl⟩
theorem F117_2 : FA Tryz.prog 117 2 2 3 := ⟨by kernel_rfl,by rw [show Tryz.prog.cellsOf 3 = 1 by kernel_rfl];decide,by kernel_rfl⟩
theorem F117_3 : FA Tryz.prog 117 3 3 3 := ⟨by kernel_rfl,by rw [show Tryz.prog.cellsOf 3 = 1 by kernel_rfl];decide,by kernel_rfl⟩
theorem F117_4 : FA Tryz.prog 117 4 4 3 := ⟨by kernel_rfl,by rw [show Tryz.prog.cellsOf 3 = 1 by kernel_rfl];decide,by kernel_rfl⟩
theorem F117_5 : FA Tryz.prog 117 5 5 4 := ⟨by kernel_rfl,by rw [show Tryz.prog.cellsOf 4 = 1 by kernel_rfl];decide,by kernel_rfl⟩
theorem F117_6 : FA Tryz.prog 117 6 6 3 := ⟨by kernel_rfl,by rw [show Tryz.prog.cellsOf 3 = 1 by kernel_rfl];decide,by kernel_rfl⟩
theorem ze117 : zeroA Tryz.prog 117 = some [.int .i64 0,.int .i64 0,.int .i64 0,.int .i64 0,.int .i64 0,.bool false,.int .i64 0] := by kernel_rfl
theorem sa117 : structA Tryz.prog 117 = some ([.int .i64 0,.int .i64 0,.int .i64 0,.int .i64 0,.int .i64 0,.bool false,.int .i64 0],[(0,1),(1,1),(2,1),(3,1),(4,1),(5,1),(6,1)]) := by kernel_rfl
theorem kd120 : kindA Tryz.prog 120 = some (some 5) := by kernel_rfl
theorem co120 : Tryz.prog.cellsOf 120 = 5 := by kernel_rfl
theorem by120 : Tryz.prog.bytesOf 120 ≤ 512 := Nat.le_of_ble_eq_true (by kernel_rfl)
theorem inf120 : (Tryz.prog.info? 120).isSome = true := by kernel_rfl
theorem F120_0 : FA Tryz.prog 120 0 0 3 := ⟨by kernel_rfl,by rw [show Tryz.prog.cellsOf 3 = 1 by kernel_rfl];decide,by kernel_rfl⟩
theorem F120_1 : FA Tryz.prog 120 1 1 3 := ⟨by kernel_rfl,by rw [show Tryz.prog.cellsOf 3 = 1 by kernel_rfl];decide,by kernel_rfl⟩
theorem F120_2 : FA Tryz.prog 120 2 2 3 := ⟨by kernel_rfl,by rw [show Tryz.prog.cellsOf 3 = 1 by kernel_rfl];decide,by kernel_rfl⟩
theorem F120_3 : FA Tryz.prog 120 3 3 3 := ⟨by kernel_rfl,by rw [show Tryz.prog.cellsOf 3 = 1 by kernel_rfl];decide,by kernel_rfl⟩
theorem F120_4 : FA Tryz.prog 120 4 4 3 := ⟨by kernel_rfl,by rw [show Tryz.prog.cellsOf 3 = 1 by kernel_rfl];decide,by kernel_rfl⟩
theorem ze120 : zeroA Tryz.prog 120 = some [.int .i64 0,.int .i64 0,.int .i64 0,.int .i64 0,.int .i64 0] := by kernel_rfl
theorem sa120 : structA Tryz.prog 120 = some ([.int .i64 0,.int .i64 0,.int .i64 0,.int .i64 0,.int .i64 0],[(0,1),(1,1),(2,1),(3,1),(4,1)]) := by kernel_rfl
theorem kd122 : kindA Tryz.prog 122 = some (some 7) := by kernel_rfl
theorem F122_0 : FA Tryz.prog 122 0 0 3 := ⟨by kernel_rfl,by rw [show Tryz.prog.cellsOf 3 = 1 by kernel_rfl];decide,by kernel_rfl⟩
theorem F122_1 : FA Tryz.prog 122 1 1 3 := ⟨by kernel_rfl,by rw [show Tryz.prog.cellsOf 3 = 1 by kernel_rfl];decide,by kernel_rfl⟩
theorem F122_2 : FA Tryz.prog 122 2 2 3 := ⟨by kernel_rfl,by rw [show Tryz.prog.cellsOf 3 = 1 by kernel_rfl];decide,by kernel_rfl⟩
theorem F122_3 : FA Tryz.prog 122 3 3 3 := ⟨by kernel_rfl,by rw [show Tryz.prog.cellsOf 3 = 1 by kernel_rfl];decide,by kernel_rfl⟩
theorem F122_4 : FA Tryz.prog 122 4 4 3 := ⟨by kernel_rfl,by rw [show Tryz.prog.cellsOf 3 = 1 by kernel_rfl];decide,by kernel_rfl⟩
theorem F122_5 : FA Tryz.prog 122 5 5 3 := ⟨by kernel_rfl,by rw [show Tryz.prog.cellsOf 3 = 1 by kernel_rfl];decide,by kernel_rfl⟩
theorem F122_6 : FA Tryz.prog 122 6 6 3 := ⟨by kernel_rfl,by rw [show Tryz.prog.cellsOf 3 = 1 by kernel_rfl];decide,by kernel_rfl⟩
theorem kd124 : kindA Tryz.prog 124 = some (some 7) := by kernel_rfl
theorem F124_0 : FA Tryz.prog 124 0 0 3 := ⟨by kernel_rfl,by rw [show Tryz.prog.cellsOf 3 = 1 by kernel_rfl];decide,by kernel_rfl⟩
theorem F124_1 : FA Tryz.prog 124 1 1 3 := ⟨by kernel_rfl,by rw [show Tryz.prog.cellsOf 3 = 1 by kernel_rfl];decide,by kernel_rfl⟩
theorem F124_2 : FA Tryz.prog 124 2 2 3 := ⟨by kernel_rfl,by rw [show Tryz.prog.cellsOf 3 = 1 by kernel_rfl];decide,by kernel_rfl⟩
theorem F124_3 : FA Tryz.prog 124 3 3 3 := ⟨by kernel_rfl,by rw [show Tryz.prog.cellsOf 3 = 1 by kernel_rfl];decide,by kernel_rfl⟩
theorem F124_4 : FA Tryz.prog 124 4 4 3 := ⟨by kernel_rfl,by rw [show Tryz.prog.cellsOf 3 = 1 by kernel_rfl];decide,by kernel_rfl⟩
theorem F124_5 : FA Tryz.prog 124 5 5 4 := ⟨by kernel_rfl,by rw [show Tryz.prog.cellsOf 4 = 1 by kernel_rfl];decide,by kernel_rfl⟩
theorem F124_6 : FA Tryz.prog 124 6 6 3 := ⟨by kernel_rfl,by rw [show Tryz.prog.cellsOf 3 = 1 by kernel_rfl];decide,by kernel_rfl⟩
theorem kd126 : kindA Tryz.prog 126 = some (some 5) := by kernel_rfl
theorem F126_0 : FA Tryz.prog 126 0 0 3 := ⟨by kernel_rfl,by rw [show Tryz.prog.cellsOf 3 = 1 by kernel_rfl];decide,by kernel_rfl⟩
theorem F126_1 : FA Tryz.prog 126 1 1 3 := ⟨by kernel_rfl,by rw [show Tryz.prog.cellsOf 3 = 1 by kernel_rfl];decide,by kernel_rfl⟩
theorem F126_2 : FA Tryz.prog 126 2 2 3 := ⟨by kernel_rfl,by rw [show Tryz.prog.cellsOf 3 = 1 by kernel_rfl];decide,by kernel_rfl⟩
theorem F126_3 : FA Tryz.prog 126 3 3 3 := ⟨by kernel_rfl,by rw [show Tryz.prog.cellsOf 3 = 1 by kernel_rfl];decide,by kernel_rfl⟩
theorem F126_4 : FA Tryz.prog 126 4 4 3 := ⟨by kernel_rfl,by rw [show Tryz.prog.cellsOf 3 = 1 by kernel_rfl];decide,by kernel_rfl⟩
theorem ik148 : intKind Tryz.prog 148 = some .u64 := by kernel_rfl
theorem ik152 : intKind Tryz.prog 152 = some .u64 := by kernel_rfl
theorem sf41 : Tryz.prog.fieldsOf 41 = ([{ name := "Kind",type := 3,offset := 0,embedded := false,tag := "",pkgPath := "",byteOffset := 0 },{ name := "Key",type := 3,offset := 1,embedded := false,tag := "",pkgPath := "",byteOffset := 8 },{ name := "Ch",type := 3,offset := 2,embedded := false,tag := "",pkgPath := "",byteOffset := 16 },{ name := "To",type := 3,offset := 3,embedded := false,tag := "",pkgPath := "",byteOffset := 24 },{ name := "Amt",type := 3,offset := 4,embedded := false,tag := "",pkgPath := "",byteOffset := 32 },{ name := "Fee",type := 3,offset := 5,embedded := false,tag := "",pkgPath := "",byteOffset := 40 },{ name := "Yes",type := 4,offset := 6,embedded := false,tag := "",pkgPath := "",byteOffset := 48 }] : List Field).toArray := by unfold Program.fieldsOf;rw [Tryz.underlying41]
theorem su41 : Tryz.prog.underlying 41 = some (.struct (Tryz.prog.fieldsOf 41)) := by rw [sf41];exact Tryz.underlying41
theorem sh41 : Tryz.prog.stoodInHeld 41 = false := by kernel_rfl
theorem sg41 : Tryz.prog.eqGuardType Tryz.prog.depth 41 = false := by kernel_rfl
theorem sf107 : Tryz.prog.fieldsOf 107 = ([{ name := "Kind",type := 3,offset := 0,embedded := false,tag := "",pkgPath := "",byteOffset := 0 },{ name := "Ch",type := 3,offset := 1,embedded := false,tag := "",pkgPath := "",byteOffset := 8 }] : List Field).toArray := by unfold Program.fieldsOf;rw [Tryz.underlying107]
theorem su107 : Tryz.prog.underlying 107 = some (.struct (Tryz.prog.fieldsOf 107)) := by rw [sf107];exact Tryz.underlying107
theorem sh107 : Tryz.prog.stoodInHeld 107 = false := by kernel_rfl
theorem sg107 : Tryz.prog.eqGuardType Tryz.prog.depth 107 = false := by kernel_rfl
end Go.Proofs.YtohobndkbmpfcaaGreat.ty

namespace Go.Proofs.YtohobndkbmpfcaaGreat
open Go.RowKit
set_option maxHeartbeats 16000000
set_option maxRecDepth 100000
set_option linter.unusedSimpArgs false
set_option linter.unusedVariables false
def lessA (a b : Acc) : Bool := decide (a.kind < b.kind) || ((a.kind == b.kind) && decide (a.ch < b.ch))
def rangeA (n : Int) : Bool := inB n (-1125899906842624) 1125899906842624
theorem dec_beq (x y : Int) : decide (x = y) = (x == y) := by by_cases h : x = y <;> simp [h]
def mergeL : List Line → List Line → Option (List Line)
  | [],b => some b
  | x :: a,[] => some (x :: a)
  | x :: a,y :: b =>
    if lessA x.acc y.acc then (mergeL a (y :: b)).map (x :: ·)
    else if lessA y.acc x.acc then (mergeL (x :: a) b).map (y :: ·)
    else if rangeA (x.amt + y.amt) then (if x.amt + y.amt = 0 then mergeL a b else (mergeL a b).map (⟨x.acc,x.amt + y.amt⟩ :: ·))
    else none
termination_by a b => a.length + b.length
theorem mergeL_nil (b : List Line) : mergeL [] b = some b := by unfold mergeL;rfl
theorem mergeL_nil2 : ∀ (a : List Line),mergeL a [] = some a
  | [] => by unfold mergeL;rfl
  | x :: a => by unfold mergeL;rfl
theorem mergeL_lt {x y : Line} {a b : List Line} (h : lessA x.acc y.acc = true) : mergeL (x :: a) (y :: b) = (mergeL a (y :: b)).map (x :: ·) := by
  conv => lhs;unfold mergeL
  rw [if_pos h]
theorem mergeL_gt {x y : Line} {a b : List Line} (h : lessA x.acc y.acc = false) (h2 : lessA y.acc x.acc = true) : mergeL (x :: a) (y :: b) = (mergeL (x :: a) b).map (y :: ·) := by
  conv => lhs;unfold mergeL
  rw [if_neg (by simp [h]),if_pos h2]
theorem mergeL_bad {x y : Line} {a b : List Line} (h : lessA x.acc y.acc = false) (h2 : lessA y.acc x.acc = false) (h3 : rangeA (x.amt + y.amt) = false) : mergeL (x :: a) (y :: b) = none := by
  unfold mergeL
  rw [if_neg (by simp [h]),if_neg (by simp [h2]),if_neg (by simp [h3])]
theorem mergeL_zero {x y : Line} {a b : List Line} (h : lessA x.acc y.acc = false) (h2 : lessA y.acc x.acc = false) (h3 : rangeA (x.amt + y.amt) = true) (h4 : x.amt + y.amt = 0) : mergeL (x :: a) (y :: b) = mergeL a b := by
  conv => lhs;unfold mergeL
  rw [if_neg (by simp [h]),if_neg (by simp [h2]),if_pos h3,if_pos h4]
theorem mergeL_sum {x y : Line} {a b : List Line} (h : lessA x.acc y.acc = false) (h2 : lessA y.acc x.acc = false) (h3 : rangeA (x.amt + y.amt) = true) (h4 : ¬ x.amt + y.amt = 0) : mergeL (x :: a) (y :: b) = (mergeL a b).map (⟨x.acc,x.amt + y.amt⟩ :: ·) := by
  conv => lhs;unfold mergeL
  rw [if_neg (by simp [h]),if_neg (by simp [h2]),if_pos h3,if_neg h4]
theorem map_app1 {o : List Line} {x : Line} {m : Option (List Line)} : (m.map (x :: ·)).map (o ++ ·) = m.map ((o ++ [x]) ++ ·) := by cases m <;> simp
theorem rowsOf_app {α : Type} (enc : α → List Value) (xs ys : List α) : rowsOf enc (xs ++ ys) = rowsOf enc xs ++ rowsOf enc ys := List.map_append
theorem take_rows {α : Type} {enc : α → List Value} {x : α} {xs : List α} : ((rowsOf enc (x :: xs)).take (rowsOf enc (x :: xs)).length).drop 1 = rowsOf enc xs := by rw [List.take_length];rfl
def mgR (a b : List Line) : AV → List (Nat × AO) → Prop := fun x ob1 => match mergeL a b with
  | some l => x = .tup [.own 50,boo true] ∧ ob1 = [(50,.arr 109 3 (rowsOf encLine l))]
  | none => x = .tup [.p (.v (.slice none 0 0)),boo false] ∧ ob1 = []
theorem in_e (a b c : Int) : GC Tryz.prog 96 [int a,int b,int c] [] (boo (inB a b c)) [] := by
 refine gi 6 Tryz.func96 rfl Tryz.ntmps96 rfl ?_
 intro L O w0
 refine sL<|laZ Z<|nA<|lmI Z<|lmI Z<|lbB Z<|lmB Z ?_
 refine AL.bool (t := 10) rfl ?_ ?_
 ·intro h1
  refine lmI Z<|lmI Z<|lbB Z<|lkB Z<|laB Z<|nG<|aR ?_
  refine end_ret ?_ trivial
  refine congrArg (fun b => some (boo b)) ?_
  first | rfl | (simp_all [inB];done) | (simp_all [inB];omega)
 ·intro h1
  refine lno Z<|lno Z<|lno Z<|lkZ Z<|laZ Z<|nG<|aR ?_
  refine end_ret ?_ trivial
  refine congrArg (fun b => some (boo b)) ?_
  first | rfl | (simp_all [inB];done) | (simp_all [inB];omega)
theorem lessA_e (a b : Acc) : GC Tryz.prog 126 [.agg [int a.kind,int a.ch],.agg [int b.kind,int b.ch]] [] (boo (lessA a b)) [] := by
 refine gi 4 Tryz.func126 rfl Tryz.ntmps126 rfl ?_
 intro L O w0
 refine sL<|lst (zX 2002 Z) Z<|lst (zX 2003 Z) Z<|laZ Z<|nA<|lf 0 ty.F107_0 Z<|loI ty.kd3 Z<|lf 0 ty.F107_0 Z<|loI ty.kd3 Z<|lbB Z<|lmB Z ?_
 refine AL.bool (t := 10) rfl ?_ ?_
 ·intro h1
  refine lno Z<|lno Z<|lno Z<|lno Z<|lno Z<|lno Z<|lno Z<|lno Z<|lno Z<|lno Z<|lno Z<|lno Z<|lkT Z<|laT Z<|nG<|aR ?_
  refine end_ret ?_ trivial
  refine congrArg (fun b => some (boo b)) ?_
  unfold lessA;simp_all
 ·intro h1
  refine lf 0 ty.F107_0 Z<|loI ty.kd3 Z<|lf 0 ty.F107_0 Z<|loI ty.kd3 Z<|lbB Z<|lmB Z ?_
  refine AL.bool (t := 16) rfl ?_ ?_
  ·intro h2
   refine lf 1 ty.F107_1 Z<|loI ty.kd3 Z<|lf 1 ty.F107_1 Z<|loI ty.kd3 Z<|lbB Z<|lkB Z<|lkB Z<|laB Z<|nG<|aR ?_
   refine end_ret ?_ trivial
   refine congrArg (fun b => some (boo b)) ?_
   unfold lessA;simp_all
  ·intro h2
   refine lno Z<|lno Z<|lno Z<|lno Z<|lno Z<|lkZ Z<|lkZ Z<|laZ Z<|nG<|aR ?_
   refine end_ret ?_ trivial
   refine congrArg (fun b => some (boo b)) ?_
   unfold lessA;simp_all
theorem merged_e (a b : List Line) (hn : a.length + b.length ≤ 1000000) (ha : ∀ z ∈ a,rangeA z.amt = true) (hb : ∀ z ∈ b,rangeA z.amt = true) : GX Tryz.prog 103 [.p (.lst 109 3 (rowsOf encLine a)),.p (.lst 109 3 (rowsOf encLine b))] [] (mgR a b) := by
 refine GX.intro (rs := [.tmp 4,.tmp 5]) Tryz.func103 rfl Tryz.ntmps103 (Nat.le_of_ble_eq_true rfl) ⟨rfl,rfl,trivial⟩ ?_
 intro L O w0
 refine sL<|laV Z<|laZ Z<|nA<|laV Z<|nG<|aS<|aB ?_
 refine AW.adoptT 50 6 109 3 rfl ?_
 refine AW.loopE [(4,vV _),(5,vB false)] [] (D := List Line × List Line × List Line) (fun d => [(0,.p (.lst 109 3 (rowsOf encLine d.1))),(1,.p (.lst 109 3 (rowsOf encLine d.2.1))),(6,.own 50)]) (fun d => [(50,.arr 109 3 (rowsOf encLine d.2.2))]) (fun d => (mergeL d.1 d.2.1).map (d.2.2 ++ ·) = mergeL a b ∧ d.2.2.length + d.1.length + d.2.1.length ≤ a.length + b.length ∧ (∀ z ∈ d.1,rangeA z.amt = true) ∧ ∀ z ∈ d.2.1,rangeA z.amt = true) (fun d => d.1.length + d.2.1.length) ((a,b,[])) (⟨by cases mergeL a b <;> simp,by simp,ha,hb⟩) ⟨rfl,rfl,rfl,trivial⟩ ⟨rfl,trivial⟩ ⟨rfl,rfl,trivial⟩ trivial ?_
 intro d hI
 obtain ⟨a',b',o⟩ := d
 obtain ⟨hI,hlen,hra,hrb⟩ := hI
 dsimp only at hI hlen hra hrb ⊢
 rcases a' with _ | ⟨x,a2⟩ <;> rcases b' with _ | ⟨y,b2⟩
 ·skip
  refine aS<|sL<|lmL Z<|lnI ty.sl35 Z<|lbB Z<|lsB 10 false rfl (by first | (simp [rowsOf];done) | (simp [rowsOf];omega))<|lmZ Z<|lmL Z<|lnI ty.sl35 Z<|lbB Z<|lsB 14 false rfl (by first | (simp [rowsOf];done) | (simp [rowsOf];omega))<|lkZ Z<|nG<|aN Z<|aE<|eT<|eT<|eB<|gA<|lmO Z<|laO Z<|laT Z<|nG<|aR ?_
  have hm : mergeL a b = some o := by rw [← hI,mergeL_nil];simp
  refine end_xret (.tup [.own 50,boo true]) [(50,.arr 109 3 (rowsOf encLine o))] ?_ rfl ⟨rfl,trivial⟩
  unfold mgR;rw [hm];exact ⟨rfl,rfl⟩
 ·skip
  refine aS<|sL<|lmL Z<|lnI ty.sl35 Z<|lbB Z<|lsB 10 false rfl (by first | (simp [rowsOf];done) | (simp [rowsOf];omega))<|lmZ Z<|lmL Z<|lnI ty.sl35 Z<|lbB Z<|lsB 14 true rfl (by first | (simp [rowsOf];done) | (simp [rowsOf];omega))<|lkT Z<|nG<|aY Z<|aK<|gT<|aB<|aB<|aS<|aG 19 []<|yq 0 (rmL rfl)<|yq 1 (rnI ty.sl35 rfl)<|yq 2 (rbB rfl)<|gsB 46 false rfl (by first | (simp [rowsOf];done) | (simp [rowsOf];omega))<|yq 3 (rmZ rfl)<|yq 4 (rmL rfl)<|yq 5 (rnI ty.sl35 rfl)<|yq 6 (rbB rfl) ?_
  refine gsB 50 false rfl (by first | (simp [rowsOf];done) | (simp [rowsOf];omega))<|yq 7 (rmZ rfl)<|gX [0,1,4,5,6,47,51] [vL _ _ _,vL _ _ _,vV _,vB false,.own _,vB false,vB false] [50] [.arr _ _ _] rfl rfl trivial<|tno 8 Z<|tno 9 Z<|tno 10 Z<|tno 11 Z<|yno 12 Z<|yno 13 Z<|yno 14 Z<|yno 15 Z<|yno 16 Z<|yq 17 (rkZ rfl)<|yq 18 (rkZ rfl)<|yq 19 (raZ rfl)<|gD<|gT<|aN Z<|aS<|aG 14 []<|yq 0 (rmL rfl)<|yq 1 (rnI ty.sl35 rfl)<|yq 2 (rbB rfl)<|gsB 74 true rfl (by first | (simp [rowsOf];done) | (simp [rowsOf];omega))<|yq 3 (rmT rfl)<|tno 4 Z<|tno 5 Z<|tno 6 Z<|tno 7 Z<|yno 8 rfl ?_
  refine yno 9 Z<|yno 10 Z<|yno 11 Z<|yno 12 Z<|yq 13 (rkT Z)<|yq 14 (raT Z)<|gD<|gT<|aY Z<|sL<|lmO Z<|lmL Z<|li 0 ty.el35 Z (Z)<|lrX (.agg [vI _ _,vI _ _,vI _ _]) ty.kd109 Z<|lst (zS 2090 (rowsOf encLine [y]) ty.el35 ty.ze109 Z) Z<|lT [0,1,4,5,6,86,90] [vL _ _ _,vL _ _ _,vV _,vB false,.own _,.own _,.own _] [50,2090] [.arr _ _ _,.arr _ _ _] Z Z<|lst (zP 50 ty.el35 ty.ze109 ty.by109 Z (Src.own Z Z)) Z<|laO Z<|nG<|aL<|lmL Z ?_
  refine lq (rd (x := vL _ _ _) (rd_slc_p (l := 1) (h := _) rfl ty.el35 rfl ⟨_,rfl⟩ rfl (by simp [rowsOf]) (Nat.le_refl _)) rfl)<|laL Z<|lN<|gB<|gB<|gT ?_
  refine ⟨([],b2,o ++ [y]),⟨by rw [← hI,mergeL_nil,mergeL_nil];simp,by simp at *;omega,hra,fun z hz => hrb z (List.mem_cons_of_mem _ hz)⟩,by simp,⟨rfl,(congrArg (fun r => AV.p (.lst 109 3 r)) take_rows),rfl,trivial⟩,⟨(congrArg (AO.arr 109 3) (rowsOf_app encLine _ [_]).symm),trivial⟩,⟨rfl,rfl,trivial⟩,trivial⟩
 ·skip
  refine aS<|sL<|lmL Z<|lnI ty.sl35 Z<|lbB Z<|lsB 10 true rfl (by first | (simp [rowsOf];done) | (simp [rowsOf];omega))<|lmT Z<|lno Z<|lno Z<|lno Z<|lkT Z<|nG<|aY Z<|aK<|gT<|aB<|aB<|aS<|aG 19 []<|yq 0 (rmL rfl)<|yq 1 (rnI ty.sl35 rfl)<|yq 2 (rbB rfl)<|gsB 46 true rfl (by first | (simp [rowsOf];done) | (simp [rowsOf];omega))<|yq 3 (rmT rfl)<|yno 4 Z<|yno 5 Z<|yno 6 Z<|yno 7 rfl ?_
  refine tno 8 Z<|tno 9 Z<|tno 10 Z<|tno 11 Z<|yno 12 Z<|yno 13 Z<|yno 14 Z<|yno 15 Z<|yno 16 Z<|yno 17 Z<|yq 18 (rkT Z)<|yq 19 (raT Z)<|gD<|gT<|aY Z<|sL<|lmO Z<|lmL Z<|li 0 ty.el35 Z (Z)<|lrX (.agg [vI _ _,vI _ _,vI _ _]) ty.kd109 Z<|lst (zS 2067 (rowsOf encLine [x]) ty.el35 ty.ze109 Z) Z<|lT [0,1,4,5,6,63,67] [vL _ _ _,vL _ _ _,vV _,vB false,.own _,.own _,.own _] [50,2067] [.arr _ _ _,.arr _ _ _] Z Z<|lst (zP 50 ty.el35 ty.ze109 ty.by109 Z (Src.own Z Z)) Z<|laO Z<|nG<|aL<|lmL Z ?_
  refine lq (rd (x := vL _ _ _) (rd_slc_p (l := 1) (h := _) rfl ty.el35 rfl ⟨_,rfl⟩ rfl (by simp [rowsOf]) (Nat.le_refl _)) rfl)<|laL Z<|lN<|gB<|gB<|gT ?_
  refine ⟨(a2,[],o ++ [x]),⟨by rw [← hI,mergeL_nil2,mergeL_nil2];simp,by simp at *;omega,fun z hz => hra z (List.mem_cons_of_mem _ hz),hrb⟩,by simp,⟨(congrArg (fun r => AV.p (.lst 109 3 r)) take_rows),rfl,rfl,trivial⟩,⟨(congrArg (AO.arr 109 3) (rowsOf_app encLine _ [_]).symm),trivial⟩,⟨rfl,rfl,trivial⟩,trivial⟩
 ·skip
  refine aS<|sL<|lmL Z<|lnI ty.sl35 Z<|lbB Z<|lsB 10 true rfl (by first | (simp [rowsOf];done) | (simp [rowsOf];omega))<|lmT Z<|lno Z<|lno Z<|lno Z<|lkT Z<|nG<|aY Z<|aK<|gT<|aB<|aB<|aS<|aG 19 []<|yq 0 (rmL rfl)<|yq 1 (rnI ty.sl35 rfl)<|yq 2 (rbB rfl)<|gsB 46 false rfl (by first | (simp [rowsOf];done) | (simp [rowsOf];omega))<|yq 3 (rmZ rfl)<|yq 4 (rmL rfl)<|yq 5 (rnI ty.sl35 rfl)<|yq 6 (rbB rfl)<|gsB 50 true rfl (by first | (simp [rowsOf];done) | (simp [rowsOf];omega)) ?_
  refine yq 7 (rmT Z)<|tq 8 (rmL Z)<|tq 9 (ri 0 ty.el35 Z (Z))<|tq 10 (rd (x := .rp _) (zfr ty.F109_0 Z) Z)<|tq 11 (rrX (.agg [vI _ _,vI _ _]) ty.kd107 Z)<|yq 12 (rmL Z)<|yq 13 (ri 0 ty.el35 Z (Z))<|yq 14 (rd (x := .rp _) (zfr ty.F109_0 Z) Z)<|yq 15 (rrX (.agg [vI _ _,vI _ _]) ty.kd107 Z)<|yst 16 Z (zL Tryz.func126 (lessA_e _ _) Z)<|gX [0,1,4,5,6,47,51,60] [vL _ _ _,vL _ _ _,vV _,vB false,.own _,vB false,vB true,vB _] [50] [.arr _ _ _] Z Z trivial<|yq 17 (rkB Z)<|yq 18 (rkB Z)<|yq 19 (raB Z)<|gD<|gT ?_
  refine AW.cond rfl ?_ ?_
  ·intro h1
   refine sL<|lmO Z<|lmL Z<|li 0 ty.el35 Z (Z)<|lrX (.agg [vI _ _,vI _ _,vI _ _]) ty.kd109 Z<|lst (zS 2067 (rowsOf encLine [x]) ty.el35 ty.ze109 Z) Z<|lst (zP 50 ty.el35 ty.ze109 ty.by109 Z (Src.own Z Z)) Z<|laO Z<|nG<|aL<|lmL Z ?_
   refine lq (rd (x := vL _ _ _) (rd_slc_p (l := 1) (h := _) rfl ty.el35 rfl ⟨_,rfl⟩ rfl (by simp [rowsOf]) (Nat.le_refl _)) rfl)<|laL Z<|lN<|gB<|gB<|gT ?_
   refine ⟨(a2,y :: b2,o ++ [x]),⟨by rw [← hI,mergeL_lt h1,map_app1],by simp at *;omega,fun z hz => hra z (List.mem_cons_of_mem _ hz),hrb⟩,by simp,⟨(congrArg (fun r => AV.p (.lst 109 3 r)) take_rows),rfl,rfl,trivial⟩,⟨(congrArg (AO.arr 109 3) (rowsOf_app encLine _ [_]).symm),trivial⟩,⟨rfl,rfl,trivial⟩,trivial⟩
  ·intro h1
   refine aS<|aG 14 []<|yq 0 (rmL rfl)<|yq 1 (rnI ty.sl35 rfl)<|yq 2 (rbB rfl)<|gsB 74 false rfl (by first | (simp [rowsOf];done) | (simp [rowsOf];omega))<|yq 3 (rmZ rfl)<|tq 4 (rmL rfl)<|tq 5 (ri 0 ty.el35 rfl (rfl))<|tq 6 (rd (x := .rp _) (zfr ty.F109_0 rfl) rfl)<|tq 7 (rrX (.agg [vI _ _,vI _ _]) ty.kd107 rfl)<|yq 8 (rmL rfl)<|yq 9 (ri 0 ty.el35 rfl (rfl))<|yq 10 (rd (x := .rp _) (zfr ty.F109_0 rfl) rfl)<|yq 11 (rrX (.agg [vI _ _,vI _ _]) ty.kd107 rfl)<|yst 12 rfl (zL Tryz.func126 (lessA_e _ _) rfl)<|gX [0,1,4,5,6,75,84] [vL _ _ _,vL _ _ _,vV _,vB false,.own _,vB false,vB _] [50] [.arr _ _ _] rfl rfl trivial<|yq 13 (rkB rfl)<|yq 14 (raB rfl)<|gD<|gT ?_
   refine AW.cond rfl ?_ ?_
   ·intro h2
    refine sL<|lmO Z<|lmL Z<|li 0 ty.el35 Z (Z)<|lrX (.agg [vI _ _,vI _ _,vI _ _]) ty.kd109 Z<|lst (zS 2090 (rowsOf encLine [y]) ty.el35 ty.ze109 Z) Z<|lst (zP 50 ty.el35 ty.ze109 ty.by109 Z (Src.own Z Z)) Z<|laO Z<|nG<|aL<|lmL Z ?_
    refine lq (rd (x := vL _ _ _) (rd_slc_p (l := 1) (h := _) rfl ty.el35 rfl ⟨_,rfl⟩ rfl (by simp [rowsOf]) (Nat.le_refl _)) rfl)<|laL Z<|lN<|gB<|gB<|gT ?_
    refine ⟨(x :: a2,b2,o ++ [y]),⟨by rw [← hI,mergeL_gt h1 h2,map_app1],by simp at *;omega,hra,fun z hz => hrb z (List.mem_cons_of_mem _ hz)⟩,by simp,⟨rfl,(congrArg (fun r => AV.p (.lst 109 3 r)) take_rows),rfl,trivial⟩,⟨(congrArg (AO.arr 109 3) (rowsOf_app encLine _ [_]).symm),trivial⟩,⟨rfl,rfl,trivial⟩,trivial⟩
   ·intro h2
    refine aS<|aG 9 []<|tq 0 (rmL Z)<|tq 1 (ri 0 ty.el35 Z (Z))<|tq 2 (rd (x := .rp _) (zfr ty.F109_1 Z) Z)<|tq 3 (rrI ty.kd3 Z)<|yq 4 (rmL Z)<|yq 5 (ri 0 ty.el35 Z (Z))<|yq 6 (rd (x := .rp _) (zfr ty.F109_1 Z) Z)<|yq 7 (rrI ty.kd3 Z) ?_
    have q1 := inB_true.1 (hra x (by simp))
    have q2 := inB_true.1 (hrb y (by simp))
    refine yq 8 (rgI rfl (by unfold i64;omega))<|yq 9 (raI rfl)<|gD<|gT<|aS<|sL<|lmI Z<|lst (zL Tryz.func96 (in_e _ _ _) rfl) Z<|lT [0,1,4,5,6,7,26] [vL _ _ _,vL _ _ _,vV _,vB false,.own _,vI _ _,vB _] [50] [.arr _ _ _] rfl Z<|luB Z<|nG ?_
    refine AW.cond rfl ?_ ?_
    ·intro h3
     refine sL<|laV Z<|laZ Z<|nG<|aR<|rT<|rB<|rB<|rT<|rB<|rT ?_
     have hm : mergeL a b = none := by rw [← hI,mergeL_bad h1 h2 (by simpa [rangeA] using h3)];rfl
     refine end_xret (.tup [.p (.v (.slice none 0 0)),boo false]) [] ?_ rfl trivial
     unfold mgR;rw [hm];exact ⟨rfl,rfl⟩
    ·intro h3
     refine aK<|gT<|aS<|sL<|lmI Z<|lbB Z<|nG ?_
     refine AW.cond rfl ?_ ?_
     ·intro h4
      refine aL<|lmO Z<|lmL Z<|li 0 ty.el35 Z (Z)<|lq (rd (x := .rp _) (zfr ty.F109_0 Z) Z)<|lrX (.agg [vI _ _,vI _ _]) ty.kd107 Z<|lmI Z<|lq (rd (x := .agg [vI _ _,vI _ _,vI _ _]) (rd_build Z ty.sa109 Z Z Z) Z) ?_
      refine lst (zS 2037 (rowsOf encLine [⟨x.acc,x.amt + y.amt⟩]) ty.el35 ty.ze109 rfl) Z<|lst (zP 50 ty.el35 ty.ze109 ty.by109 rfl (Src.own rfl rfl)) Z<|lT [0,1,4,5,38] [vL _ _ _,vL _ _ _,vV _,vB false,.own _] [50,2037] [.arr _ _ _,.arr _ _ _] rfl Z<|laO Z<|nG<|aG 5 []<|tq 0 (rmL rfl) ?_
      refine tq 1 (rd (x := vL _ _ _) (rd_slc_p (l := 1) (h := _) rfl ty.el35 rfl ⟨_,rfl⟩ rfl (by simp [rowsOf]) (Nat.le_refl _)) rfl)<|tq 2 (rmL rfl) ?_
      refine tq 3 (rd (x := vL _ _ _) (rd_slc_p (l := 1) (h := _) rfl ty.el35 rfl ⟨_,rfl⟩ rfl (by simp [rowsOf]) (Nat.le_refl _)) rfl)<|yq 4 (raL rfl)<|yq 5 (raL rfl)<|gD<|gB<|gB<|gT ?_
      refine ⟨(a2,b2,o ++ [⟨x.acc,x.amt + y.amt⟩]),⟨by rw [← hI,mergeL_sum h1 h2 (by simpa [rangeA] using h3) (by simpa using h4),map_app1],by simp at *;omega,fun z hz => hra z (List.mem_cons_of_mem _ hz),fun z hz => hrb z (List.mem_cons_of_mem _ hz)⟩,by simp;omega,⟨(congrArg (fun r => AV.p (.lst 109 3 r)) take_rows),(congrArg (fun r => AV.p (.lst 109 3 r)) take_rows),rfl,trivial⟩,⟨(congrArg (AO.arr 109 3) (rowsOf_app encLine _ [_]).symm),trivial⟩,⟨rfl,rfl,trivial⟩,trivial⟩
     ·intro h4
      refine aK<|gT<|aG 5 []<|tq 0 (rmL Z) ?_
      refine tq 1 (rd (x := vL _ _ _) (rd_slc_p (l := 1) (h := _) rfl ty.el35 rfl ⟨_,rfl⟩ rfl (by simp [rowsOf]) (Nat.le_refl _)) rfl)<|tq 2 (rmL rfl) ?_
      refine tq 3 (rd (x := vL _ _ _) (rd_slc_p (l := 1) (h := _) rfl ty.el35 rfl ⟨_,rfl⟩ rfl (by simp [rowsOf]) (Nat.le_refl _)) rfl)<|yq 4 (raL rfl)<|yq 5 (raL rfl)<|gD<|gB<|gB<|gT ?_
      refine ⟨(a2,b2,o),⟨by rw [← hI,mergeL_zero h1 h2 (by simpa [rangeA] using h3) (by simpa using h4)],by simp at *;omega,fun z hz => hra z (List.mem_cons_of_mem _ hz),fun z hz => hrb z (List.mem_cons_of_mem _ hz)⟩,by simp;omega,⟨(congrArg (fun r => AV.p (.lst 109 3 r)) take_rows),(congrArg (fun r => AV.p (.lst 109 3 r)) take_rows),rfl,trivial⟩,⟨rfl,trivial⟩,⟨rfl,rfl,trivial⟩,trivial⟩

abbrev u64 (n : Int) : AV := .p (.v (.int .u64 n))
theorem lz_e : GC Tryz.prog 136 [u64 1000000] [] (int 44) [] := GC.of_vals (r := .int .i64 44) (RV.v_mk rfl) rfl fun w => by
 refine (Tryz.bits_LeadingZeros64 1000000 w (by omega) (by omega)).mono ?_
 rintro e w' ⟨rfl,rfl⟩
 exact ⟨by congr 2,Grow.refl _⟩
theorem mul64_e (a b : Int) (a0 : 0 ≤ a) (a1 : a ≤ 1125899906842624) (b0 : 0 ≤ b) (b1 : b ≤ 1125899906842624) : GC Tryz.prog 134 [u64 a,u64 b] [] (.tup [u64 (a * b / 18446744073709551616),u64 (a * b % 18446744073709551616)]) [] :=
 GC.of_vals (r := .tuple #[.int .u64 (a * b / 18446744073709551616),.int .u64 (a * b % 18446744073709551616)]) (RV.tupv (cs := [.int .u64 (a * b / 18446744073709551616),.int .u64 (a * b % 18446744073709551616)]) rfl rfl) rfl fun w => by
   obtain ⟨A,rfl⟩ := Int.eq_ofNat_of_zero_le a0
   obtain ⟨C,rfl⟩ := Int.eq_ofNat_of_zero_le b0
   refine (Tryz.bits_Mul64 A C (by omega) (by omega) w).mono ?_
   rintro e w' ⟨rfl,rfl⟩
   refine ⟨?_,Grow.refl _⟩
   simp
theorem amtOk_e (n : Int) : GC Tryz.prog 95 [int n] [] (boo (amtOk n)) [] := GC.of_vals (r := .bool (amtOk n)) (RV.v_mk rfl) rfl fun w => (impl_AmtOk_c n w).mono fun e w' h => ⟨h.1,h.2 ▸ Grow.refl _⟩
theorem samtOk_e (n : Int) : GC Tryz.prog 74 [int n] [] (boo (amtOk n)) [] := GC.of_vals (r := .bool (amtOk n)) (RV.v_mk rfl) rfl fun w => (spec_AmtOk_c n w).mono fun e w' h => ⟨h.1,h.2 ▸ Grow.refl _⟩
def addOk (a b : Int) : Bool := amtOk a && amtOk b && amtOk (a + b)
def addV (a b : Int) : Int := if addOk a b then a + b else 0
theorem addV_no {a b : Int} (h : addOk a b = false) : addV a b = 0 := by unfold addV;rw [h];rfl
theorem addV_yes {a b : Int} (h : addOk a b = true) : addV a b = a + b := by unfold addV;rw [h];rfl
def feeQ (ppm n : Int) : Int := if 0 < n * ppm % 1000000 then n * ppm / 1000000 + 1 else n * ppm / 1000000
def feeIn (ppm n : Int) : Bool := amtOk n && inB ppm 0 1000000
def feeOk (base ppm n : Int) : Bool := feeIn ppm n && addOk base (feeQ ppm n)
def feeV (base ppm n : Int) : Int := if feeIn ppm n then addV base (feeQ ppm n) else 0
theorem fee_no {base ppm n : Int} (h : feeIn ppm n = false) : feeOk base ppm n = false ∧ feeV base ppm n = 0 := by unfold feeOk feeV;rw [h];exact ⟨rfl,rfl⟩
theorem fee_yes {base ppm n : Int} (h : feeIn ppm n = true) : feeOk base ppm n = addOk base (feeQ ppm n) ∧ feeV base ppm n = addV base (feeQ ppm n) := by unfold feeOk feeV;rw [h];exact ⟨rfl,rfl⟩
theorem mil_le {n ppm : Int} (n0 : 0 ≤ n) (p0 : 0 ≤ ppm) (p1 : ppm ≤ 1000000) : 0 ≤ n * ppm ∧ n * ppm ≤ n * 1000000 := ⟨Int.mul_nonneg n0 p0,Int.mul_le_mul_of_nonneg_left p1 n0⟩
theorem mil_big {n ppm : Int} (n0 : 0 ≤ n) (n1 : n ≤ 1125899906842624) (p0 : 0 ≤ ppm) (p1 : ppm ≤ 1125899906842624) : 0 ≤ n * ppm ∧ n * ppm ≤ 1125899906842624 * 1125899906842624 := ⟨Int.mul_nonneg n0 p0,Int.mul_le_mul n1 p1 p0 (by omega)⟩
def divM (a b : Int) : AV := if inB a 0 1125899906842624 && inB b 0 1125899906842624 && decide (a * b / 1000000 ≤ 1125899906842624) then .tup [int (a * b / 1000000),int (a * b % 1000000),boo true] else .tup [int 0,int 0,boo false]
theorem divM_no {a b : Int} (h : (amtOk a && amtOk b && decide (a * b / 1000000 ≤ 1125899906842624)) = false) : divM a b = .tup [int 0,int 0,boo false] := by unfold divM;unfold amtOk at h;rw [h];rfl
theorem divM_yes {a b : Int} (h : (amtOk a && amtOk b && decide (a * b / 1000000 ≤ 1125899906842624)) = true) : divM a b = .tup [int (a * b / 1000000),int (a * b % 1000000),boo true] := by unfold divM;unfold amtOk at h;rw [h];rfl
def dq1 (hi lo : Int) : Int := (hi * 17592186044416 + lo / 1048576) / 4096000000
def dun (hi lo : Int) : Int := (hi * 17592186044416 + lo / 1048576) * 4294967296 + lo * 17592186044416 % 18446744073709551616 / 4294967296 - dq1 hi lo * 17592186044416000000
def dq0 (hi lo : Int) : Int := dun hi lo / 4096000000
theorem dq1_bd {hi lo : Int} (h0 : 1 ≤ hi) (h1 : hi < 1000000) (l0 : 0 ≤ lo) (l1 : lo < 18446744073709551616) : 0 ≤ dq1 hi lo ∧ dq1 hi lo < 4294967296 ∧ dq1 hi lo * 4096000000 ≤ hi * 17592186044416 + lo / 1048576 ∧ hi * 17592186044416 + lo / 1048576 < dq1 hi lo * 4096000000 + 4096000000 := by unfold dq1;omega
theorem dun_eq {hi lo : Int} (l0 : 0 ≤ lo) (l1 : lo < 18446744073709551616) : dun hi lo = hi * 75557863725914323419136 + lo * 4096 - dq1 hi lo * 17592186044416000000 := by unfold dun;omega
theorem dun_bd {hi lo : Int} (h0 : 1 ≤ hi) (h1 : hi < 1000000) (l0 : 0 ≤ lo) (l1 : lo < 18446744073709551616) : 0 ≤ dun hi lo ∧ dun hi lo < 17592186044416000000 := by
  have := dq1_bd h0 h1 l0 l1
  rw [dun_eq l0 l1];omega
theorem dq0_bd {hi lo : Int} (h0 : 1 ≤ hi) (h1 : hi < 1000000) (l0 : 0 ≤ lo) (l1 : lo < 18446744073709551616) : 0 ≤ dq0 hi lo ∧ dq0 hi lo < 4294967296 ∧ dq0 hi lo * 4096000000 ≤ dun hi lo ∧ dun hi lo < dq0 hi lo * 4096000000 + 4096000000 := by
  have := dun_bd h0 h1 l0 l1
  unfold dq0;omega
theorem quo_mil {hi lo : Int} (h0 : 1 ≤ hi) (h1 : hi < 1000000) (l0 : 0 ≤ lo) (l1 : lo < 18446744073709551616) : dq1 hi lo * 4294967296 + dq0 hi lo = (hi * 18446744073709551616 + lo) / 1000000 := by
  have a1 := dq1_bd h0 h1 l0 l1
  have a2 := dq0_bd h0 h1 l0 l1
  have a3 := dun_eq (hi := hi) l0 l1
  generalize dq1 hi lo = p at *
  generalize dq0 hi lo = q at *
  generalize dun hi lo = u at *
  omega
theorem wrap64_eq (n : Int) : IntKind.u64.wrap n = n % 18446744073709551616 := by simp [IntKind.wrap,IntKind.signed,IntKind.bits]
theorem hw (a b c : Int) : IntKind.u64.wrap (IntKind.u64.wrap (IntKind.u64.wrap a + b) - IntKind.u64.wrap c) = (a + b - c) % 18446744073709551616 := by
  rw [wrap64_eq,wrap64_eq,wrap64_eq,wrap64_eq];omega
theorem low_zero (lo : Int) : lo * 17592186044416 % 18446744073709551616 % 4294967296 = 0 := by omega
theorem rem_mil {hi lo p q u : Int} (a5 : p * 4294967296 + q = (hi * 18446744073709551616 + lo) / 1000000) (a6 : u = hi * 75557863725914323419136 + lo * 4096 - p * 17592186044416000000) : (u * 4294967296 + lo * 17592186044416 % 18446744073709551616 % 4294967296 - q * 17592186044416000000) % 18446744073709551616 = (hi * 18446744073709551616 + lo) % 1000000 * 17592186044416 := by
  rw [low_zero]
  have h1 := Int.emod_add_mul_ediv (hi * 18446744073709551616 + lo) 1000000
  have h2 := Int.emod_nonneg (hi * 18446744073709551616 + lo) (show (1000000 : Int) ≠ 0 by decide)
  have h3 := Int.emod_lt_of_pos (hi * 18446744073709551616 + lo) (show (0 : Int) < 1000000 by decide)
  rw [← a5] at h1
  generalize (hi * 18446744073709551616 + lo) % 1000000 = r at *
  have e : u * 4294967296 + 0 - q * 17592186044416000000 = r * 17592186044416 := by omega
  rw [e]
  omega
theorem div64_e (hi lo : Int) (h0 : 1 ≤ hi) (h1 : hi < 1000000) (l0 : 0 ≤ lo) (l1 : lo < 18446744073709551616) : GC Tryz.prog 135 [u64 hi,u64 lo,u64 1000000] [] (.tup [u64 ((hi * 18446744073709551616 + lo) / 1000000),u64 ((hi * 18446744073709551616 + lo) % 1000000)]) [] := by
 refine GC.intro (rs := [.tmp 6,.tmp 7]) Tryz.func135 rfl Tryz.ntmps135 (Nat.le_of_ble_eq_true rfl) ⟨rfl,rfl,trivial⟩ ?_
 intro L O w0
 refine sL<|laI Z<|laI Z<|nG<|aS<|sL<|lmI Z<|lbB Z<|lsB 20 false rfl (rfl)<|nG<|aN Z<|aK<|gT<|aS<|sL<|lmI Z<|lmI Z<|lbB Z<|lsB 24 false rfl (by simp;omega)<|nG<|aN Z<|aK<|gT<|aS ?_
 refine sL<|lmI Z<|lbB Z<|lsB 27 false rfl (by simp;omega)<|nG<|aN Z<|aK<|gA<|lmI Z<|lst (zL Tryz.func136 (lz_e) rfl) Z<|lq (rd (x := vI _ _) (rd_conv rfl ty.ik3 ty.ik152 rfl) rfl) ?_
 refine AL.slot 36 (u64 44) rfl ?_
 refine laI Z<|nA<|lmI Z<|lmI Z<|lq (rd (x := vI _ _) (rd_val rfl rfl rfl (run_shl (r := 17592186044416000000) rfl (by decide) (by decide) (by decide)) rfl) rfl)<|laI Z<|nA<|lmI Z<|lq (rd (x := vI _ _) (rd_val rfl rfl rfl (run_shr (r := 4096000000) rfl (by decide) (by decide) (by decide)) rfl) rfl)<|laI Z<|nA<|lmI Z<|lq (rd (x := vI _ _) (rd_val rfl rfl rfl (run_and (r := 0) (by decide)) rfl) rfl)<|laI Z<|nA<|lmI Z<|lmI Z<|lq (rd (x := vI _ _) (rd_val rfl rfl rfl (run_shl (r := hi * 17592186044416) rfl (by decide) (by decide) (wrap_u64 (by show 0 ≤ hi * 17592186044416;omega) (by show hi * 17592186044416 < _;omega))) rfl) rfl) ?_
 refine lmI Z<|lmI Z<|lq (rd (x := vI _ _) (rd_val rfl rfl rfl (run_subw (r := 20) (by decide)) rfl) rfl)<|lq (rd (x := vI _ _) (rd_val rfl rfl rfl (run_shr (r := lo / 1048576) rfl (by decide) (by decide) rfl) rfl) rfl)<|lT [1,2,6,7,8,9,10,46,50] [vI _ _,vI _ _,vI _ _,vI _ _,vI _ _,vI _ _,vI _ _,vI _ _,vI _ _] [] [] rfl Z<|lq (rd (x := vI _ _) (rd_val rfl rfl rfl (run_or (r := hi * 17592186044416 + lo / 1048576) (bits_or_add 44 (by omega) (by omega) (by omega) (by omega) (by omega) (by omega))) rfl) rfl)<|laI Z<|nA<|lmI Z<|lmI Z<|lq (rd (x := vI _ _) (rd_val rfl rfl rfl (run_shl (r := lo * 17592186044416 % 18446744073709551616) rfl (by decide) (by decide) (by show IntKind.u64.wrap (lo * 17592186044416) = _;simp [IntKind.wrap,IntKind.signed,IntKind.bits])) rfl) rfl)<|laI Z<|nA<|lmI Z<|lq (rd (x := vI _ _) (rd_val rfl rfl rfl (run_shr (r := lo * 17592186044416 % 18446744073709551616 / 4294967296) rfl (by decide) (by decide) rfl) rfl) rfl)<|laI Z<|nA<|lmI Z<|lq (rd (x := vI _ _) (rd_val rfl rfl rfl (run_and (r := lo * 17592186044416 % 18446744073709551616 % 4294967296) (bits_and_mask (by omega) (by omega))) rfl) rfl)<|laI Z<|lN ?_
 refine gA<|lmI Z<|lmI Z ?_
 have a1 := dq1_bd h0 h1 l0 l1
 refine lhI rfl ⟨rfl,by decide,wrap_u64 (by show 0 ≤ (hi * 17592186044416 + lo / 1048576).tdiv 4096000000;rw [Int.tdiv_eq_ediv_of_nonneg (by omega)];exact a1.1) (by show (hi * 17592186044416 + lo / 1048576).tdiv 4096000000 < _;rw [Int.tdiv_eq_ediv_of_nonneg (by omega)];have := a1.2.1;unfold dq1 at this;omega)⟩ ?_
 refine AL.slot 61 (u64 (dq1 hi lo)) (Eq.trans (b := u64 _) rfl (congrArg u64 (by unfold dq1;exact Int.tdiv_eq_ediv_of_nonneg (by omega)))) ?_
 refine laI Z<|nA<|lmI Z<|lmI Z<|lmI Z ?_
 refine lhI rfl ⟨rfl,wrap_u64 (by omega) (by omega)⟩ ?_
 refine lhI rfl ⟨rfl,wrap_u64 (by omega) (by omega)⟩<|laI Z<|nG<|aS<|aB ?_
 refine AW.loopE [(2,vI _ _),(6,vI _ _),(7,vI _ _),(8,vI _ _),(9,vI _ _),(10,vI _ _),(11,vI _ _),(13,vI _ _),(14,vI _ _),(15,vI _ _),(16,vI _ _)] [] (D := Unit) (fun d => []) (fun d => []) (fun d => True) (fun d => 0) (()) (trivial) trivial trivial ⟨rfl,rfl,rfl,rfl,rfl,rfl,rfl,rfl,rfl,rfl,rfl,trivial⟩ trivial ?_
 intro d hI
 refine aS<|sL<|lmI Z<|lbB Z<|lsB 68 false rfl (by simp;omega)<|lmZ Z<|lmI Z<|lmI rfl ?_
 refine lhI rfl ⟨rfl,wrap_u64 (by omega) (by omega)⟩<|lmI rfl ?_
 refine lhI rfl ⟨rfl,wrap_u64 (by omega) (by omega)⟩<|lT [2,6,7,8,9,10,11,13,14,15,16,69,72,74] [vI _ _,vI _ _,vI _ _,vI _ _,vI _ _,vI _ _,vI _ _,vI _ _,vI _ _,vI _ _,vI _ _,vB false,vI _ _,vI _ _] [] [] rfl Z<|lmI rfl ?_
 refine lhI rfl ⟨rfl,wrap_u64 (by omega) (by omega)⟩<|lbB Z<|lsB 77 false rfl (by simp;omega)<|lkZ Z<|nG<|aN Z<|aE<|eT<|eT<|eB<|gA<|lmI Z<|lq (rd (x := vI _ _) (rd_val rfl rfl rfl (run_mulw rfl) rfl) rfl)<|lmI Z<|lq (rd (x := vI _ _) (rd_val rfl rfl rfl (run_addw rfl) rfl) rfl)<|lmI Z<|lmI Z<|lq (rd (x := vI _ _) (rd_val rfl rfl rfl (run_mulw rfl) rfl) rfl) ?_
 have a2 := dun_bd h0 h1 l0 l1
 have a4 := dq0_bd h0 h1 l0 l1
 refine lq (rd (x := vI _ _) (rd_val rfl rfl rfl (run_subw (r := dun hi lo) (by rw [hw];rw [show (hi * 17592186044416 + lo / 1048576) * 4294967296 + lo * 17592186044416 % 18446744073709551616 / 4294967296 - dq1 hi lo * 17592186044416000000 = dun hi lo from rfl];omega)) rfl) rfl)<|laI Z<|nA<|lmI Z<|lmI rfl ?_
 refine lhI rfl ⟨rfl,by decide,wrap_u64 (by rw [Int.tdiv_eq_ediv_of_nonneg (by omega)];exact a4.1) (by rw [Int.tdiv_eq_ediv_of_nonneg (by omega)];have := a4.2.1;unfold dq0 at this;omega)⟩ ?_
 refine AL.slot 96 (u64 (dq0 hi lo)) (Eq.trans (b := u64 _) rfl (congrArg u64 (by unfold dq0;exact Int.tdiv_eq_ediv_of_nonneg (by omega)))) ?_
 refine laI Z<|nA<|lmI Z<|lmI Z<|lmI Z ?_
 refine lhI rfl ⟨rfl,wrap_u64 (by omega) (by omega)⟩ ?_
 refine lhI rfl ⟨rfl,wrap_u64 (by omega) (by omega)⟩<|laI Z<|nG<|aS<|aB ?_
 refine AW.loopE [(2,vI _ _),(6,vI _ _),(7,vI _ _),(8,vI _ _),(9,vI _ _),(10,vI _ _),(14,vI _ _),(15,vI _ _),(16,vI _ _),(17,vI _ _),(18,vI _ _)] [] (D := Unit) (fun d => []) (fun d => []) (fun d => True) (fun d => 0) (()) (trivial) trivial trivial ⟨rfl,rfl,rfl,rfl,rfl,rfl,rfl,rfl,rfl,rfl,rfl,trivial⟩ trivial ?_
 intro d hI
 refine aS<|sL<|lmI Z<|lbB Z<|lsB 103 false rfl (by simp;omega)<|lmZ Z<|lmI Z<|lmI rfl ?_
 refine lhI rfl ⟨rfl,wrap_u64 (by omega) (by omega)⟩<|lmI Z<|lT [2,6,7,8,9,10,14,15,16,17,18,104,107,108] [vI _ _,vI _ _,vI _ _,vI _ _,vI _ _,vI _ _,vI _ _,vI _ _,vI _ _,vI _ _,vI _ _,vB false,vI _ _,vI _ _] [] [] rfl rfl ?_
 refine lhI rfl ⟨rfl,wrap_u64 (by omega) (by omega)⟩<|lmI rfl ?_
 refine lhI rfl ⟨rfl,wrap_u64 (by omega) (by omega)⟩<|lbB Z<|lsB 112 false rfl (by simp;omega)<|lkZ Z<|nG<|aN Z<|aE<|eT<|eT<|eB<|gA<|lmI rfl ?_
 refine lhI rfl ⟨rfl,wrap_u64 (by omega) (by omega)⟩<|lmI rfl ?_
 have a5 := quo_mil h0 h1 l0 l1
 refine lhI rfl ⟨rfl,wrap_u64 (by omega) (by omega)⟩ ?_
 refine AL.slot 124 (u64 ((hi * 18446744073709551616 + lo) / 1000000)) (Eq.trans (b := u64 _) rfl (congrArg u64 a5)) ?_
 refine lmI Z<|lq (rd (x := vI _ _) (rd_val Z Z Z (run_mulw Z) Z) Z)<|lmI Z<|lq (rd (x := vI _ _) (rd_val Z Z Z (run_addw Z) Z) Z)<|lmI Z<|lmI Z<|lq (rd (x := vI _ _) (rd_val Z Z Z (run_mulw Z) Z) Z) ?_
 have a6 := dun_eq (hi := hi) l0 l1
 refine lq (rd (x := vI _ _) (rd_val rfl rfl rfl (run_subw (r := (hi * 18446744073709551616 + lo) % 1000000 * 17592186044416) (by rw [hw];exact rem_mil a5 a6)) rfl) rfl)<|lmI Z<|lq (rd (x := vI _ _) (rd_val rfl rfl rfl (run_shr (r := (hi * 18446744073709551616 + lo) % 1000000) rfl (by decide) (by decide) (by show (hi * 18446744073709551616 + lo) % 1000000 * 17592186044416 / 17592186044416 = _;omega)) rfl) rfl)<|laI Z<|laI Z<|nG<|aR ?_
 refine end_ret ?_ trivial
 rfl
theorem div64_all (hi lo : Int) (h0 : 0 ≤ hi) (h1 : hi < 1000000) (l0 : 0 ≤ lo) (l1 : lo < 18446744073709551616) : GC Tryz.prog 135 [u64 hi,u64 lo,u64 1000000] [] (.tup [u64 ((hi * 18446744073709551616 + lo) / 1000000),u64 ((hi * 18446744073709551616 + lo) % 1000000)]) [] := by
 by_cases h : hi = 0
 ·subst h
  refine GC.of_vals (r := .tuple #[.int .u64 ((0 * 18446744073709551616 + lo) / 1000000),.int .u64 ((0 * 18446744073709551616 + lo) % 1000000)]) (RV.tupv (cs := [.int .u64 ((0 * 18446744073709551616 + lo) / 1000000),.int .u64 ((0 * 18446744073709551616 + lo) % 1000000)]) rfl rfl) rfl fun w => ?_
  refine (Div64_low_c lo 1000000 w l0 (by omega) (by omega) (by omega)).mono ?_
  rintro e w' ⟨rfl,n,rfl⟩
  exact ⟨by rw [Int.zero_mul,Int.zero_add],(Grow.refl _).drewN _⟩
 ·exact div64_e hi lo (by omega) h1 l0 l1
theorem hi_lt {a b : Int} (a0 : 0 ≤ a) (a1 : a ≤ 1125899906842624) (b0 : 0 ≤ b) (b1 : b ≤ 1125899906842624) : 0 ≤ a * b / 18446744073709551616 ∧ a * b / 18446744073709551616 ≤ 68719476736 ∧ 0 ≤ a * b % 18446744073709551616 ∧ a * b % 18446744073709551616 < 18446744073709551616 ∧ a * b / 18446744073709551616 * 18446744073709551616 + a * b % 18446744073709551616 = a * b := by
  have := mil_big a0 a1 b0 b1
  generalize a * b = p at *
  omega
theorem divided_e (a b : Int) : GC Tryz.prog 133 [int a,int b,int 1000000] [] (divM a b) [] := by
 refine GC.intro (rs := [.tmp 6,.tmp 7,.tmp 8]) Tryz.func133 rfl Tryz.ntmps133 (Nat.le_of_ble_eq_true rfl) ⟨rfl,rfl,rfl,trivial⟩ ?_
 intro L O w0
 refine sL<|laI Z<|laI Z<|laZ Z<|nG<|aS<|sL<|lmI Z<|lst (zL Tryz.func95 (amtOk_e _) Z) Z<|luB Z<|lmB Z ?_
 refine AL.bool (t := 16) rfl ?_ ?_
 ·intro h1
  refine lno Z<|lno Z<|lno Z<|lkT Z<|lmT Z<|lno Z<|lno Z<|lno Z<|lkT Z<|nG<|aY Z<|sL<|laI Z<|laI Z<|laZ Z<|nG<|aR<|rT ?_
  refine end_ret ?_ trivial
  first
  | (refine congrArg some (divM_yes ?_).symm;simp [amtOk,inB,ha,hb,hq];done)
  | (refine congrArg some (divM_no ?_).symm;simp_all;done)
  | (refine congrArg some (divM_no ?_).symm;simp only [decide_eq_true_eq] at *;rw [Bool.and_eq_false_iff];right;simp only [decide_eq_false_iff_not];omega)
 ·intro h1
  refine lmI Z<|lst (zL Tryz.func95 (amtOk_e _) Z) Z<|lT [0,1,2,6,7,8,16,18] [vI _ _,vI _ _,vI _ _,vI _ _,vI _ _,vB false,vB false,vB _] [] [] Z Z<|luB Z<|lkB Z<|lmB Z ?_
  refine AL.bool (t := 21) rfl ?_ ?_
  ·intro h2
   refine lno Z<|lno Z<|lno Z<|lkT Z<|nG<|aY Z<|sL<|laI Z<|laI Z<|laZ Z<|nG<|aR<|rT ?_
   refine end_ret ?_ trivial
   first
   | (refine congrArg some (divM_yes ?_).symm;simp [amtOk,inB,ha,hb,hq];done)
   | (refine congrArg some (divM_no ?_).symm;simp_all;done)
   | (refine congrArg some (divM_no ?_).symm;simp only [decide_eq_true_eq] at *;rw [Bool.and_eq_false_iff];right;simp only [decide_eq_false_iff_not];omega)
  ·intro h2
   refine lmI Z<|lst (zL Tryz.func96 (in_e _ _ _) rfl) Z<|lsB 23 true rfl (by decide)<|luZ Z<|lkZ Z<|nG<|aN Z<|aK<|gA ?_
   have ha := amtOk_true.1 (by simpa using h1 : amtOk a = true)
   have hb := amtOk_true.1 (by simpa using h2 : amtOk b = true)
   obtain ⟨g0,g1,g2,g3,g4⟩ := hi_lt ha.1 ha.2 hb.1 hb.2
   refine lmI Z<|lq (rd (x := vI _ _) (rd_conv Z ty.ik3 ty.ik148 Z) Z) ?_
   refine AL.slot 28 (u64 (a)) (Eq.trans (b := u64 _) rfl (congrArg u64 (wrap_u64 (by omega) (by omega)))) ?_
   refine lmI Z<|lq (rd (x := vI _ _) (rd_conv Z ty.ik3 ty.ik148 Z) Z) ?_
   refine AL.slot 30 (u64 (b)) (Eq.trans (b := u64 _) rfl (congrArg u64 (wrap_u64 (by omega) (by omega)))) ?_
   refine lst (zL Tryz.func134 (mul64_e a b ha.1 ha.2 hb.1 hb.2) Z) Z<|lT [2,6,7,8,31] [vI _ _,vI _ _,vI _ _,vB false,.tup [vI _ _,vI _ _]] [] [] Z Z<|lmX (.tup [vI _ _,vI _ _]) Z<|lxI Z<|lxI Z<|laI Z<|laI Z<|nG<|aS<|sL<|lmI Z<|lmI Z<|lq (rd (x := vI _ _) (rd_conv Z ty.ik3 ty.ik148 Z) Z) ?_
   refine AL.slot 36 (u64 (1000000)) (Eq.trans (b := u64 _) rfl (congrArg u64 (wrap_u64 (by omega) (by omega)))) ?_
   refine lbB Z<|nG ?_
   refine AW.cond rfl ?_ ?_
   ·intro h3
    refine sL<|laI Z<|laI Z<|laZ Z<|nG<|aR<|rT ?_
    refine end_ret ?_ trivial
    first
    | (refine congrArg some (divM_yes ?_).symm;simp [amtOk,inB,ha,hb,hq];done)
    | (refine congrArg some (divM_no ?_).symm;simp_all;done)
    | (refine congrArg some (divM_no ?_).symm;simp only [decide_eq_true_eq] at *;rw [Bool.and_eq_false_iff];right;simp only [decide_eq_false_iff_not];omega)
   ·intro h3
    refine aK<|gA<|lmI Z<|lmI Z<|lmI Z<|lq (rd (x := vI _ _) (rd_conv Z ty.ik3 ty.ik148 Z) Z) ?_
    refine AL.slot 42 (u64 (1000000)) (Eq.trans (b := u64 _) rfl (congrArg u64 (wrap_u64 (by omega) (by omega)))) ?_
    refine lst (zL Tryz.func135 (div64_all (a * b / 18446744073709551616) (a * b % 18446744073709551616) g0 (by have h := h3;simp only [decide_eq_false_iff_not] at h;omega) g2 g3) rfl) Z<|lT [6,7,8,43] [vI _ _,vI _ _,vB false,.tup [vI _ _,vI _ _]] [] [] rfl Z<|lmX (.tup [vI _ _,vI _ _]) Z<|lxI Z<|lxI rfl ?_
    refine AL.slot 44 (u64 (a * b / 1000000)) (Eq.trans (b := u64 _) rfl (congrArg (fun z => u64 (z / 1000000)) g4)) ?_
    refine laI rfl ?_
    refine AL.slot 45 (u64 (a * b % 1000000)) (Eq.trans (b := u64 _) rfl (congrArg (fun z => u64 (z % 1000000)) g4)) ?_
    refine laI Z<|nG<|aS<|sL<|lmI Z<|lbB Z<|nG ?_
    refine AW.cond rfl ?_ ?_
    ·intro h4
     refine sL<|laI Z<|laI Z<|laZ Z<|nG<|aR<|rT ?_
     refine end_ret ?_ trivial
     first
     | (refine congrArg some (divM_yes ?_).symm;simp [amtOk,inB,ha,hb,hq];done)
     | (refine congrArg some (divM_no ?_).symm;simp_all;done)
     | (refine congrArg some (divM_no ?_).symm;simp only [decide_eq_true_eq] at *;rw [Bool.and_eq_false_iff];right;simp only [decide_eq_false_iff_not];omega)
    ·intro h4
     refine aK<|gA<|lmI Z ?_
     have hq : a * b / 1000000 ≤ 1125899906842624 := by have h := h4;simp only [decide_eq_false_iff_not] at h;omega
     have hp := mil_big ha.1 ha.2 hb.1 hb.2
     have hq0 : 0 ≤ a * b / 1000000 := by omega
     refine lq (rd (x := vI _ _) (rd_conv rfl ty.ik148 ty.ik3 rfl) rfl)<|lsN 49 (a * b / 1000000) rfl (by rw [IntKind.wrap_i64];omega)<|lmI Z<|lq (rd (x := vI _ _) (rd_conv rfl ty.ik148 ty.ik3 rfl) rfl)<|lsN 51 (a * b % 1000000) rfl (by rw [IntKind.wrap_i64];omega)<|laI Z<|laI Z<|laT Z<|nG<|aR ?_
     refine end_ret ?_ trivial
     first
     | (refine congrArg some (divM_yes ?_).symm;simp [amtOk,inB,ha,hb,hq];done)
     | (refine congrArg some (divM_no ?_).symm;simp_all;done)
     | (refine congrArg some (divM_no ?_).symm;simp only [decide_eq_true_eq] at *;rw [Bool.and_eq_false_iff];right;simp only [decide_eq_false_iff_not];omega)
theorem divided_yes {a b : Int} (h : (amtOk a && amtOk b && decide (a * b / 1000000 ≤ 1125899906842624)) = true) : GC Tryz.prog 133 [int a,int b,int 1000000] [] (.tup [int (a * b / 1000000),int (a * b % 1000000),boo true]) [] := divM_yes h ▸ divided_e a b
theorem divided_no {a b : Int} (h : (amtOk a && amtOk b && decide (a * b / 1000000 ≤ 1125899906842624)) = false) : GC Tryz.prog 133 [int a,int b,int 1000000] [] (.tup [int 0,int 0,boo false]) [] := divM_no h ▸ divided_e a b
theorem in_div {ppm n : Int} (h : feeIn ppm n = true) : 0 ≤ n ∧ n ≤ 1125899906842624 ∧ 0 ≤ ppm ∧ ppm ≤ 1000000 ∧ n * ppm / 1000000 ≤ n ∧ 0 ≤ n * ppm / 1000000 := by
  unfold feeIn at h
  rw [Bool.and_eq_true,amtOk_true,inB_true] at h
  have := mil_le h.1.1 h.2.1 h.2.2
  generalize n * ppm = p at *
  omega
theorem feeIn_div {ppm n : Int} (h : feeIn ppm n = true) : (amtOk n && amtOk ppm && decide (n * ppm / 1000000 ≤ 1125899906842624)) = true := by
  have h2 := in_div h
  rw [Bool.and_eq_true,Bool.and_eq_true,amtOk_true,amtOk_true,decide_eq_true_eq]
  omega
theorem feeIn_of {ppm n : Int} (h : (amtOk n && amtOk ppm && decide (n * ppm / 1000000 ≤ 1125899906842624)) = true) (h2 : ¬ 1000000 < ppm) : feeIn ppm n = true := by
  rw [Bool.and_eq_true,Bool.and_eq_true,amtOk_true,amtOk_true,decide_eq_true_eq] at h
  unfold feeIn
  rw [Bool.and_eq_true,amtOk_true,inB_true]
  omega
theorem feeQ_hi {ppm n : Int} (h : 0 < n * ppm % 1000000) : feeQ ppm n = n * ppm / 1000000 + 1 := if_pos h
theorem feeQ_lo {ppm n : Int} (h : ¬ 0 < n * ppm % 1000000) : feeQ ppm n = n * ppm / 1000000 := if_neg h
theorem sdiv_e (a b : Int) (h : feeIn b a = true) : GC Tryz.prog 132 [int a,int b,int 1000000] [] (.tup [int (a * b / 1000000),int (a * b % 1000000),boo true]) [] :=
 GC.of_vals (r := .tuple #[.int .i64 (a * b / 1000000),.int .i64 (a * b % 1000000),.bool true]) (RV.tupv (cs := [.int .i64 (a * b / 1000000),.int .i64 (a * b % 1000000),.bool true]) rfl rfl) rfl fun w => by
   have h2 := in_div h
   refine (spec_l01Div_c a b 1000000 w (by omega) (by omega) (by omega) (by omega) (by omega) (by omega)).mono ?_
   rintro e w' ⟨rfl,rfl⟩
   exact ⟨by unfold divRes;rw [if_pos (by omega)],Grow.refl _⟩
theorem amt_e (n : Int) : GC Tryz.prog 128 [int n] [] (.tup [int (if amtOk n then n else 0),boo (amtOk n)]) [] := by
 refine GC.intro (rs := [.tmp 2,.tmp 3]) Tryz.func128 rfl Tryz.ntmps128 (Nat.le_of_ble_eq_true rfl) ⟨rfl,rfl,trivial⟩ ?_
 intro L O w0
 refine sL<|laI Z<|laZ Z<|nG<|aS<|sL<|lmI Z<|lst (zL Tryz.func95 (amtOk_e _) Z) Z<|luB Z<|nG ?_
 refine AW.cond rfl ?_ ?_
 ·intro h1
  refine sL<|laI Z<|laZ Z<|nG<|aR<|rT ?_
  refine end_ret ?_ trivial
  first | (simp_all;done) | (simp_all;rfl)
 ·intro h1
  refine aK<|gA<|lmI Z<|laI Z<|laT Z<|nG<|aR ?_
  refine end_ret ?_ trivial
  first | (simp_all;done) | (simp_all;rfl)
theorem addAmt_e (a b : Int) : GC Tryz.prog 108 [int a,int b] [] (.tup [int (addV a b),boo (addOk a b)]) [] := by
 refine GC.intro (rs := [.tmp 4,.tmp 5]) Tryz.func108 rfl Tryz.ntmps108 (Nat.le_of_ble_eq_true rfl) ⟨rfl,rfl,trivial⟩ ?_
 intro L O w0
 refine sL<|laI Z<|laZ Z<|nG<|aS<|sL<|lmI Z<|lst (zL Tryz.func95 (amtOk_e _) Z) Z<|luB Z<|lmB Z ?_
 refine AL.bool (t := 9) rfl ?_ ?_
 ·intro h1
  refine lno Z<|lno Z<|lno Z<|lkT Z<|nG<|aY Z<|sL<|laI Z<|laZ Z<|nG<|aR<|rT ?_
  refine end_ret ?_ trivial
  unfold addV addOk
  simp_all
  try rfl
 ·intro h1
  refine lmI Z<|lst (zL Tryz.func95 (amtOk_e _) Z) Z<|luB Z<|lkB Z<|nG ?_
  refine AW.cond rfl ?_ ?_
  ·intro h2
   refine sL<|laI Z<|laZ Z<|nG<|aR<|rT ?_
   refine end_ret ?_ trivial
   unfold addV addOk
   simp_all
   try rfl
  ·intro h2
   refine aK<|gA<|lmI Z<|lmI Z ?_
   have ha := amtOk_true.1 (by simpa using h1 : amtOk a = true)
   have hb := amtOk_true.1 (by simpa using h2 : amtOk b = true)
   refine lgI Z<|lst (zL Tryz.func128 (amt_e _) Z) Z<|lT [4,5,17] [vI _ _,vB false,.tup [vI _ _,vB _]] [] [] Z Z<|lxI Z<|lxB Z<|laI Z<|laB Z<|nG<|aR ?_
   refine end_ret ?_ trivial
   unfold addV addOk
   simp_all
   try rfl
theorem saddAmt_e (a b : Int) : GC Tryz.prog 35 [int a,int b] [] (.tup [int (addV a b),boo (addOk a b)]) [] := by
 refine GC.intro (rs := [.tmp 4,.tmp 5]) Tryz.func35 rfl Tryz.ntmps35 (Nat.le_of_ble_eq_true rfl) ⟨rfl,rfl,trivial⟩ ?_
 intro L O w0
 refine sL<|laI Z<|laZ Z<|nG<|aS<|sL<|lmI Z<|lst (zL Tryz.func74 (samtOk_e _) Z) Z<|luB Z<|lmB Z ?_
 refine AL.bool (t := 9) rfl ?_ ?_
 ·intro h1
  refine lno Z<|lno Z<|lno Z<|lkT Z<|lmT Z<|lno Z<|lno Z<|lno Z<|lno Z<|lno Z<|lkT Z<|nG<|aY Z<|sL<|laI Z<|laZ Z<|nG<|aR<|rT ?_
  refine end_ret ?_ trivial
  unfold addV addOk
  simp_all
  try rfl
 ·intro h1
  refine lmI Z<|lst (zL Tryz.func74 (samtOk_e _) Z) Z<|luB Z<|lkB Z<|lmB Z ?_
  refine AL.bool (t := 14) rfl ?_ ?_
  ·intro h2
   refine lno Z<|lno Z<|lno Z<|lno Z<|lno Z<|lkT Z<|nG<|aY Z<|sL<|laI Z<|laZ Z<|nG<|aR<|rT ?_
   refine end_ret ?_ trivial
   unfold addV addOk
   simp_all
   try rfl
  ·intro h2
   refine lmI Z<|lmI Z ?_
   have ha := amtOk_true.1 (by simpa using h1 : amtOk a = true)
   have hb := amtOk_true.1 (by simpa using h2 : amtOk b = true)
   refine lgI Z<|lst (zL Tryz.func74 (samtOk_e _) Z) Z<|lT [0,1,4,5,14,18] [vI _ _,vI _ _,vI _ _,vB false,vB false,vB _] [] [] Z Z<|luB Z<|lkB Z<|nG ?_
   refine AW.cond rfl ?_ ?_
   ·intro h3
    refine sL<|laI Z<|laZ Z<|nG<|aR<|rT ?_
    refine end_ret ?_ trivial
    unfold addV addOk
    simp_all
    try rfl
   ·intro h3
    refine aK<|gA<|lmI Z<|lmI Z<|lgI Z<|laI Z<|laT Z<|nG<|aR ?_
    refine end_ret ?_ trivial
    unfold addV addOk
    simp_all
    try rfl
theorem fee_e (base ppm n : Int) : GC Tryz.prog 127 [int base,int ppm,int n,boo true] [] (.tup [int (feeV base ppm n),boo (feeOk base ppm n)]) [] := by
 refine GC.intro (rs := [.tmp 8,.tmp 9]) Tryz.func127 rfl Tryz.ntmps127 (Nat.le_of_ble_eq_true rfl) ⟨rfl,rfl,trivial⟩ ?_
 intro L O w0
 refine sL<|laI Z<|laZ Z<|nA<|lmI Z<|lmI Z ?_
 rcases hd : (amtOk n && amtOk ppm && decide (n * ppm / 1000000 ≤ 1125899906842624)) with _ | _
 ·skip
  refine lst (zL Tryz.func133 (divided_no hd) Z) Z<|lmX (.tup [vI _ _,vI _ _,vB false]) Z<|lxI Z<|lxI Z<|lxX (vB false) Z<|laI Z<|laI Z<|laZ Z<|nG<|aS<|sL<|lmZ Z<|luT Z<|lmT Z<|lno Z<|lno Z<|lkT Z<|nG<|aY Z<|sL<|laI Z<|laZ Z<|nG<|aR<|rT ?_
  refine end_ret ?_ trivial
  have hf : feeIn ppm n = false := by
    rcases hq : feeIn ppm n with _ | _
    ·rfl
    ·rw [feeIn_div hq] at hd;cases hd
  rw [(fee_no hf).1,(fee_no hf).2];try rfl
 ·skip
  refine lst (zL Tryz.func133 (divided_yes hd) Z) Z<|lT [0,1,3,8,9,16] [vI _ _,vI _ _,vB true,vI _ _,vB false,.tup [vI _ _,vI _ _,vB true]] [] [] Z Z<|lmX (.tup [vI _ _,vI _ _,vB true]) Z<|lxI Z<|lxI Z<|lxX (vB true) Z<|laI Z<|laI Z<|laT Z<|nG<|aS<|sL<|lmT Z<|luZ Z<|lmZ Z<|lmI Z<|lbB Z<|lkB Z<|nG ?_
  refine AW.cond rfl ?_ ?_
  ·intro h1
   refine sL<|laI Z<|laZ Z<|nG<|aR<|rT ?_
   refine end_ret ?_ trivial
   have hf : feeIn ppm n = false := by
     rcases hq : feeIn ppm n with _ | _
     ·rfl
     ·have := in_div hq;simp only [decide_eq_true_eq] at *;omega
   rw [(fee_no hf).1,(fee_no hf).2];rfl
  ·intro h1
   refine aK<|gT<|aS<|sL ?_
   have hin := feeIn_of hd (by simpa using h1)
   have hb := in_div hin
   refine lmT Z<|lmT Z<|lmI Z<|lbB Z<|lkB Z<|nG ?_
   refine AW.cond rfl ?_ ?_
   ·intro h2
    refine aL<|lmI Z<|lgI Z<|laI Z<|nA<|lmI Z<|lmI Z<|lst (zL Tryz.func108 (addAmt_e _ _) Z) Z<|lT [8,9,35] [vI _ _,vB false,.tup [vI _ _,vB _]] [] [] Z Z<|lxI Z<|lxB Z<|laI Z<|laB Z<|nG<|aR ?_
    refine end_ret ?_ trivial
    rw [(fee_yes hin).1,(fee_yes hin).2,feeQ_hi (by simpa using h2)];rfl
   ·intro h2
    refine aK<|gA<|lmI Z<|lmI Z<|lst (zL Tryz.func108 (addAmt_e _ _) Z) Z<|lxI Z<|lxB Z<|laI Z<|laB Z<|nG<|aR ?_
    refine end_ret ?_ trivial
    rw [(fee_yes hin).1,(fee_yes hin).2,feeQ_lo (by simpa using h2)];rfl
theorem feeUp_e (base ppm n : Int) : GC Tryz.prog 107 [int base,int ppm,int n] [] (.tup [int (feeV base ppm n),boo (feeOk base ppm n)]) [] := by
 refine GC.intro (rs := [.tmp 6,.tmp 7]) Tryz.func107 rfl Tryz.ntmps107 (Nat.le_of_ble_eq_true rfl) ⟨rfl,rfl,trivial⟩ ?_
 intro L O w0
 refine sL<|laI Z<|laZ Z<|nA<|lmI Z<|lmI Z<|lmI Z<|lst (zL Tryz.func127 (fee_e _ _ _) Z) Z<|lxI Z<|lxB Z<|laI Z<|laB Z<|nG<|aR ?_
 refine end_ret ?_ trivial
 rfl
theorem sfee_e (base ppm n : Int) : GC Tryz.prog 120 [int base,int ppm,int n,boo true] [] (.tup [int (feeV base ppm n),boo (feeOk base ppm n)]) [] := by
 refine GC.intro (rs := [.tmp 8,.tmp 9]) Tryz.func120 rfl Tryz.ntmps120 (Nat.le_of_ble_eq_true rfl) ⟨rfl,rfl,trivial⟩ ?_
 intro L O w0
 refine sL<|laI Z<|laZ Z<|nG<|aS<|sL<|lmI Z<|lst (zL Tryz.func74 (samtOk_e _) Z) Z<|luB Z<|lmB Z ?_
 refine AL.bool (t := 16) rfl ?_ ?_
 ·intro h1
  refine lno Z<|lno Z<|lno Z<|lkT Z<|lmT Z<|lno Z<|lno Z<|lkT Z<|lmT Z<|lno Z<|lno Z<|lkT Z<|nG<|aY Z<|sL<|laI Z<|laZ Z<|nG<|aR<|rT ?_
  refine end_ret ?_ trivial
  first
  | (rw [(fee_yes hin).1,(fee_yes hin).2,feeQ_hi (by simpa using h1)];rfl)
  | (rw [(fee_yes hin).1,(fee_yes hin).2,feeQ_lo (by simpa using h1)];rfl)
  | (have hb0 : amtOk base = false := by simpa using h1
     have hf : feeOk base ppm n = false ∧ feeV base ppm n = 0 := by unfold feeOk feeV addV addOk;simp [hb0]
     rw [hf.1,hf.2];rfl)
  | (have hf : feeIn ppm n = false := by
       rcases hq : feeIn ppm n with _ | _
       ·rfl
       ·have h := in_div hq;have h2 : amtOk n = true := amtOk_true.2 ⟨h.1,h.2.1⟩;simp_all <;> omega
     rw [(fee_no hf).1,(fee_no hf).2];rfl)
 ·intro h1
  refine lmI Z<|lst (zL Tryz.func74 (samtOk_e _) Z) Z<|lT [0,1,2,3,8,9,16,18] [vI _ _,vI _ _,vI _ _,vB true,vI _ _,vB false,vB false,vB _] [] [] Z Z<|luB Z<|lkB Z<|lmB Z ?_
  refine AL.bool (t := 21) rfl ?_ ?_
  ·intro h2
   refine lno Z<|lno Z<|lkT Z<|lmT Z<|lno Z<|lno Z<|lkT Z<|nG<|aY Z<|sL<|laI Z<|laZ Z<|nG<|aR<|rT ?_
   refine end_ret ?_ trivial
   first
   | (rw [(fee_yes hin).1,(fee_yes hin).2,feeQ_hi (by simpa using h2)];rfl)
   | (rw [(fee_yes hin).1,(fee_yes hin).2,feeQ_lo (by simpa using h2)];rfl)
   | (have hb0 : amtOk base = false := by simpa using h1
      have hf : feeOk base ppm n = false ∧ feeV base ppm n = 0 := by unfold feeOk feeV addV addOk;simp [hb0]
      rw [hf.1,hf.2];rfl)
   | (have hf : feeIn ppm n = false := by
        rcases hq : feeIn ppm n with _ | _
        ·rfl
        ·have h := in_div hq;have h2 : amtOk n = true := amtOk_true.2 ⟨h.1,h.2.1⟩;simp_all <;> omega
      rw [(fee_no hf).1,(fee_no hf).2];rfl)
  ·intro h2
   refine lmI Z<|lbB Z<|lkB Z<|lmB Z ?_
   refine AL.bool (t := 25) rfl ?_ ?_
   ·intro h3
    refine lno Z<|lno Z<|lkT Z<|nG<|aY Z<|sL<|laI Z<|laZ Z<|nG<|aR<|rT ?_
    refine end_ret ?_ trivial
    first
    | (rw [(fee_yes hin).1,(fee_yes hin).2,feeQ_hi (by simpa using h3)];rfl)
    | (rw [(fee_yes hin).1,(fee_yes hin).2,feeQ_lo (by simpa using h3)];rfl)
    | (have hb0 : amtOk base = false := by simpa using h1
       have hf : feeOk base ppm n = false ∧ feeV base ppm n = 0 := by unfold feeOk feeV addV addOk;simp [hb0]
       rw [hf.1,hf.2];rfl)
    | (have hf : feeIn ppm n = false := by
         rcases hq : feeIn ppm n with _ | _
         ·rfl
         ·have h := in_div hq;have h2 : amtOk n = true := amtOk_true.2 ⟨h.1,h.2.1⟩;simp_all <;> omega
       rw [(fee_no hf).1,(fee_no hf).2];rfl)
   ·intro h3
    refine lmI Z<|lbB Z<|lkB Z<|nG ?_
    refine AW.cond rfl ?_ ?_
    ·intro h4
     refine sL<|laI Z<|laZ Z<|nG<|aR<|rT ?_
     refine end_ret ?_ trivial
     first
     | (rw [(fee_yes hin).1,(fee_yes hin).2,feeQ_hi (by simpa using h4)];rfl)
     | (rw [(fee_yes hin).1,(fee_yes hin).2,feeQ_lo (by simpa using h4)];rfl)
     | (have hb0 : amtOk base = false := by simpa using h1
        have hf : feeOk base ppm n = false ∧ feeV base ppm n = 0 := by unfold feeOk feeV addV addOk;simp [hb0]
        rw [hf.1,hf.2];rfl)
     | (have hf : feeIn ppm n = false := by
          rcases hq : feeIn ppm n with _ | _
          ·rfl
          ·have h := in_div hq;have h2 : amtOk n = true := amtOk_true.2 ⟨h.1,h.2.1⟩;simp_all <;> omega
        rw [(fee_no hf).1,(fee_no hf).2];rfl)
    ·intro h4
     refine aK<|gA ?_
     have hin : feeIn ppm n = true := by
       unfold feeIn inB
       simp_all
     have hb := in_div hin
     refine lmI Z<|lmI Z<|lst (zL Tryz.func132 (sdiv_e n ppm hin) Z) Z<|lT [0,3,8,9,32] [vI _ _,vB true,vI _ _,vB false,.tup [vI _ _,vI _ _,vB true]] [] [] Z Z<|lmX (.tup [vI _ _,vI _ _,vB true]) Z<|lxI Z<|lxI Z<|lxX (vB true) Z<|laI Z<|laI Z<|laT Z<|nG<|aS<|sL<|lmT Z<|luZ Z<|nG<|aN Z<|aK<|gT<|aS<|sL<|lmT Z<|lmT Z<|lmI Z<|lbB Z ?_
     refine lkB Z<|nG ?_
     refine AW.cond rfl ?_ ?_
     ·intro h5
      refine aL<|lmI Z<|lgI Z<|laI Z<|nA<|lmI Z<|lmI Z<|lst (zL Tryz.func35 (saddAmt_e _ _) Z) Z<|lT [8,9,47] [vI _ _,vB false,.tup [vI _ _,vB _]] [] [] Z Z<|lxI Z<|lxB Z<|laI Z<|laB Z<|nG<|aR ?_
      refine end_ret ?_ trivial
      first
      | (rw [(fee_yes hin).1,(fee_yes hin).2,feeQ_hi (by simpa using h5)];rfl)
      | (rw [(fee_yes hin).1,(fee_yes hin).2,feeQ_lo (by simpa using h5)];rfl)
      | (have hb0 : amtOk base = false := by simpa using h1
         have hf : feeOk base ppm n = false ∧ feeV base ppm n = 0 := by unfold feeOk feeV addV addOk;simp [hb0]
         rw [hf.1,hf.2];rfl)
      | (have hf : feeIn ppm n = false := by
           rcases hq : feeIn ppm n with _ | _
           ·rfl
           ·have h := in_div hq;have h2 : amtOk n = true := amtOk_true.2 ⟨h.1,h.2.1⟩;simp_all <;> omega
         rw [(fee_no hf).1,(fee_no hf).2];rfl)
     ·intro h5
      refine aK<|gA<|lmI Z<|lmI Z<|lst (zL Tryz.func35 (saddAmt_e _ _) Z) Z<|lxI Z<|lxB Z<|laI Z<|laB Z<|nG<|aR ?_
      refine end_ret ?_ trivial
      first
      | (rw [(fee_yes hin).1,(fee_yes hin).2,feeQ_hi (by simpa using h5)];rfl)
      | (rw [(fee_yes hin).1,(fee_yes hin).2,feeQ_lo (by simpa using h5)];rfl)
      | (have hb0 : amtOk base = false := by simpa using h1
         have hf : feeOk base ppm n = false ∧ feeV base ppm n = 0 := by unfold feeOk feeV addV addOk;simp [hb0]
         rw [hf.1,hf.2];rfl)
      | (have hf : feeIn ppm n = false := by
           rcases hq : feeIn ppm n with _ | _
           ·rfl
           ·have h := in_div hq;have h2 : amtOk n = true := amtOk_true.2 ⟨h.1,h.2.1⟩;simp_all <;> omega
         rw [(fee_no hf).1,(fee_no hf).2];rfl)
theorem sfeeUp_e (base ppm n : Int) : GC Tryz.prog 86 [int base,int ppm,int n] [] (.tup [int (feeV base ppm n),boo (feeOk base ppm n)]) [] := by
 refine GC.intro (rs := [.tmp 6,.tmp 7]) Tryz.func86 rfl Tryz.ntmps86 (Nat.le_of_ble_eq_true rfl) ⟨rfl,rfl,trivial⟩ ?_
 intro L O w0
 refine sL<|laI Z<|laZ Z<|nA<|lmI Z<|lmI Z<|lmI Z<|lst (zL Tryz.func120 (sfee_e _ _ _) Z) Z<|lxI Z<|lxB Z<|laI Z<|laB Z<|nG<|aR ?_
 refine end_ret ?_ trivial
 rfl

def bookV (x : Book) : AV := .agg [.p (.v (.int .i64 x.tick)),.p (.v (.int .i64 x.next)),.p (.v (.int .i64 x.wallet)),.p (.lst 78 7 (rowsOf encChan x.chans)),.p (.lst 117 7 (rowsOf encHtlc x.htlcs)),.p (.lst 120 5 (rowsOf encCircle x.circles))]
structure BookWf (x : Book) : Prop where
  chans : ∀ c ∈ x.chans,wfChan c
  htlcs : ∀ c ∈ x.htlcs,wfHtlc c
  circles : ∀ c ∈ x.circles,wfCircle c
  len : x.chans.length ≤ 1048576
theorem SlR.form {α : Type} {sz : Nat} {rep : World → Nat → Nat → List Value → α → Prop} {w : World} {lo hi : Nat} {v : Value} {xs : List α} (h : SlR sz rep w lo hi v xs) : ∃ a c,v = .slice a xs.length c := by
  obtain ⟨a,c,rfl,_⟩ := h
  exact ⟨a,c,rfl⟩
theorem bookArg {L : Nat → Prop} {ρ : Nat → Value} {H : Nat → AO} {x : Book} {w : World} {c : Value} (h : RV L ρ H w (bookV x) c) (hw : BookWf x) :
    ∃ a0 c0 a1 c1 a2 c2,c = .agg #[.int .i64 x.tick,.int .i64 x.next,.int .i64 x.wallet,.slice a0 x.chans.length c0,.slice a1 x.htlcs.length c1,.slice a2 x.circles.length c2] ∧
      SlR 7 repChan w 0 w.heap.size (.slice a0 x.chans.length c0) x.chans ∧ SlR 7 repHtlc w 0 w.heap.size (.slice a1 x.htlcs.length c1) x.htlcs ∧ SlR 5 repCircle w 0 w.heap.size (.slice a2 x.circles.length c2) x.circles := by
  unfold bookV at h
  rw [RV] at h
  obtain ⟨cs,rfl,h⟩ := h
  simp only [RVL] at h
  obtain ⟨v0,r0,rfl,h0,v1,r1,rfl,h1,v2,r2,rfl,h2,v3,r3,rfl,h3,v4,r4,rfl,h4,v5,r5,rfl,h5,rfl⟩ := h
  have s3 := h3.slr (rep := repChan) (fun x => rfl) (fun c hc => ⟨rfl,hw.chans c hc⟩)
  have s4 := h4.slr (rep := repHtlc) (fun x => rfl) (fun c hc => ⟨rfl,hw.htlcs c hc⟩)
  have s5 := h5.slr (rep := repCircle) (fun x => rfl) (fun c hc => ⟨rfl,hw.circles c hc⟩)
  obtain ⟨a0,c0,rfl⟩ := s3.form
  obtain ⟨a1,c1,rfl⟩ := s4.form
  obtain ⟨a2,c2,rfl⟩ := s5.form
  exact ⟨a0,c0,a1,c1,a2,c2,by rw [h0.v_eq,h1.v_eq,h2.v_eq],s3,s4,s5⟩
theorem GC.of_old {P : Program} {f : FuncId} {args : List AV} {x : AV} {r : Value} (ho : ∀ {L : Nat → Prop} {ρ : Nat → Value} {w : World},RV L ρ (ofO []) w x r)
    (h : ∀ (L : Nat → Prop) (ρ : Nat → Value) (w : World) (cs : List Value),RVL L ρ (ofO []) w args cs → Calls P f cs.toArray w fun e w' => e = .returned r ∧ Grow w w') : GC P f args [] x [] := by
  intro L w cs ρ fp hL hargs hob hdj hLf
  refine Calls.mono (h L ρ w cs hargs) ?_
  rintro e w' ⟨rfl,g⟩
  refine ⟨x,[],⟨rfl,rfl⟩,r,ρ,fun _ => [],rfl,⟨g.below.os,g.below.tape,g.below.output,g.size,fun b hb _ => g.below.block b hb,fun b o hb hlt => ?_⟩,ho,fun i => rfl,by simp,by simp⟩
  rcases hb with ⟨i,hi⟩ | hb
  · have := (hob i).only hi
    cases this.1
  · exact g.nf b o hb hlt
theorem RVL.two {L : Nat → Prop} {ρ : Nat → Value} {H : Nat → AO} {w : World} {x y : AV} {cs : List Value} (h : RVL L ρ H w [x,y] cs) : ∃ c d,cs = [c,d] ∧ RV L ρ H w x c ∧ RV L ρ H w y d := by
  simp only [RVL] at h
  obtain ⟨c,r,rfl,h1,d,r',rfl,h2,rfl⟩ := h
  exact ⟨c,d,rfl,h1,h2⟩
theorem RVL.sole {L : Nat → Prop} {ρ : Nat → Value} {H : Nat → AO} {w : World} {x : AV} {cs : List Value} (h : RVL L ρ H w [x] cs) : ∃ c,cs = [c] ∧ RV L ρ H w x c := by
  simp only [RVL] at h
  obtain ⟨c,r,rfl,h1,rfl⟩ := h
  exact ⟨c,rfl,h1⟩
theorem impl_BookOk_e (x : Book) (hw : BookWf x) : GC Tryz.prog 48 [bookV x] [] (boo (bookOk x)) [] := GC.of_old (RV.v_mk rfl) fun L ρ w cs h => by
  obtain ⟨c,rfl,hc⟩ := h.sole
  obtain ⟨a0,c0,a1,c1,a2,c2,rfl,s0,s1,s2⟩ := bookArg hc hw
  exact impl_BookOk_c x _ _ _ _ _ _ w s0 s1 s2 hw.len
theorem spec_BookOk_e (x : Book) (hw : BookWf x) : GC Tryz.prog 31 [bookV x] [] (boo (bookOk x)) [] := GC.of_old (RV.v_mk rfl) fun L ρ w cs h => by
  obtain ⟨c,rfl,hc⟩ := h.sole
  obtain ⟨a0,c0,a1,c1,a2,c2,rfl,s0,s1,s2⟩ := bookArg hc hw
  exact spec_BookOk_c x _ _ _ _ _ _ w s0 s1 s2 hw.len
end Go.Proofs.YtohobndkbmpfcaaGreat

