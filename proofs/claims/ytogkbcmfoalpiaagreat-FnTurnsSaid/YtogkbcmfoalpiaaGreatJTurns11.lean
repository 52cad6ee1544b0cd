/- Texts of the proof of FnTurns, joined: E22, E23, AllN, EN1, BkOk, BkStep, BkStep2, BkStep3, BkStep4. -/
import Derived.Test.YtogkbcmfoalpiaaGreatJTurns10
import Derived.Test.YtogkbcmfoalpiaaGreatJTurns4
namespace Go.Proofs.YtogkbcmfoalpiaaGreat
open Go.RowKit
set_option linter.unusedSimpArgs false
set_option linter.unusedVariables false
mutual
def lowA : AV → Bool
 | .own id => Nat.blt id 1000000
 | .sub id _ _ => Nat.blt id 1000000
 | .ptr id _ _ => Nat.blt id 1000000
 | .agg cs => lowL cs
 | .tup cs => lowL cs
 | .clo _ f cs => lowL f && lowL cs
 | _ => true
def lowL : List AV → Bool
 | [] => true
 | x :: xs => lowA x && lowL xs
end
def lowO : AO → Bool
 | .box _ _ cells => lowL cells
 | _ => true
def lowEq {α : Type} (k k' : Nat → α) : Prop := ∀ i,i < 1000000 → k i = k' i
mutual
theorem kil_low {k k' : Nat → Bool} (h : lowEq k k') : ∀ x,lowA x = true → kil k x = kil k' x
 | .own id,q => by rw [kil,kil,h id (Nat.le_of_ble_eq_true q)]
 | .sub id off len,q => by rw [kil,kil,h id (Nat.le_of_ble_eq_true q)]
 | .ptr id r c,q => by rw [kil,kil,h id (Nat.le_of_ble_eq_true q)]
 | .agg cs,q => by rw [kil,kil,kilL_low h cs q]
 | .tup cs,q => by rw [kil,kil,kilL_low h cs q]
 | .clo fn f cs,q => by
  have q' : lowL f = true ∧ lowL cs = true := by rw [← Bool.and_eq_true];exact q
  rw [kil,kil,kilL_low h f q'.1,kilL_low h cs q'.2]
 | .p _,_ => by simp [kil]
 | .rp _,_ => by simp [kil]
 | .dead,_ => by simp [kil]
 | .bad,_ => by simp [kil]
theorem kilL_low {k k' : Nat → Bool} (h : lowEq k k') : ∀ l,lowL l = true → kilL k l = kilL k' l
 | [],_ => rfl
 | x :: xs,q => by
  have q' : lowA x = true ∧ lowL xs = true := by rw [← Bool.and_eq_true];exact q
  rw [kilL,kilL,kil_low h x q'.1,kilL_low h xs q'.2]
end
theorem lowO.kil {k k' : Nat → Bool} (h : lowEq k k') {o : AO} (q : lowO o = true) : o.kil k = o.kil k' := by
 cases o with
 | box T p cells => show AO.box T p _ = AO.box T p _;rw [kilL_low h cells q]
 | _ => rfl
mutual
theorem ren_low {r r' : List (Nat × Nat)} (h : lowEq (rn r) (rn r')) : ∀ x,lowA x = true → ren r x = ren r' x
 | .own id,q => by rw [ren,ren,h id (Nat.le_of_ble_eq_true q)]
 | .sub id off len,q => by rw [ren,ren,h id (Nat.le_of_ble_eq_true q)]
 | .ptr id i c,q => by rw [ren,ren,h id (Nat.le_of_ble_eq_true q)]
 | .agg cs,q => by rw [ren,ren,renL_low h cs q]
 | .tup cs,q => by rw [ren,ren,renL_low h cs q]
 | .clo fn f cs,q => by
  have q' : lowL f = true ∧ lowL cs = true := by rw [← Bool.and_eq_true];exact q
  rw [ren,ren,renL_low h f q'.1,renL_low h cs q'.2]
 | .p _,_ => by simp [ren]
 | .rp _,_ => by simp [ren]
 | .dead,_ => by simp [ren]
 | .bad,_ => by simp [ren]
theorem renL_low {r r' : List (Nat × Nat)} (h : lowEq (rn r) (rn r')) : ∀ l,lowL l = true → renL r l = renL r' l
 | [],_ => rfl
 | x :: xs,q => by
  have q' : lowA x = true ∧ lowL xs = true := by rw [← Bool.and_eq_true];exact q
  rw [renL,renL,ren_low h x q'.1,renL_low h xs q'.2]
end
theorem lowO.ren {r r' : List (Nat × Nat)} (h : lowEq (rn r) (rn r')) {o : AO} (q : lowO o = true) : o.ren r = o.ren r' := by
 cases o with
 | box T p cells => show AO.box T p _ = AO.box T p _;rw [renL_low h cells q]
 | _ => rfl
section
variable {P : Program} {L O : Nat → Prop} {w0 : World} {N : Nat} {τ τ' : Nat → AV} {H H' : Nat → AO} {Q : AQ} {c : Code} {F : List AO}
theorem RR.plain {ρ : Nat → Value} {fp : Nat → List Nat} {a : Act} {w : World} (h : RR L O w0 N τ H ρ fp a w) (id : Nat) {e : TypeId} {u : Value} {sz : Nat} {rows : List (List PV)} (hH : H id = .arr ⟨e,some u⟩ sz rows) :
 RR L O w0 N (fun t => frz id (.v u) (τ t)) (fun j => (H j).frz id (.v u)) ρ fp a w := by
 have hob := h.ob id
 rw [hH] at hob
 obtain ⟨xs,fr,b1,b2,b3,b4,b5⟩ := hob
 have hu : ρ id = u := b5 u rfl
 have h1 : (ρ id).oneCell' = true := by rcases b3.2 with ⟨q,_⟩ | ⟨g,cap,cur,q,_⟩ <;> rw [q] <;> rfl
 have hlive : ∀ b,live L ρ (fun j => (H j).frz id (.v u)) b → live L ρ H b := by
  rintro b (hl | ⟨j,q1,q2⟩)
  ·exact .inl hl
  ·exact .inr ⟨j,by rw [AO.frz_here] at q1;exact q1,q2⟩
 have R : Frz id (.v u) L ρ H (fun j => (H j).frz id (.v u)) w := ⟨fun b hn hl => hn (hlive b hl),fun j _ hh => by
  rw [AO.frz_here] at hh;exact ⟨hh,AO.frz_len _ _ _,AO.frz_sz _ _ _⟩,by rw [hH];rfl,by rw [hu] at h1 ⊢;exact RV.v_mk h1⟩
 refine ⟨h.chg,h.size,h.defers,fun t => RV.frz R _ (h.tm t),fun j => ?_,h.dj,h.own,h.lo⟩
 have := h.ob j
 show OB _ _ _ _ _ _ ((H j).frz id (.v u))
 cases hj : H j with
 | box T p cells =>
  rw [hj] at this
  obtain ⟨ys,h1,h2,h3,h4,h5⟩ := this
  exact ⟨ys,RVL.frz R cells h1,frzL_cell _ _ cells h2,by rw [frzL_length];exact h3,h4,h5⟩
 | arr e' s' r' =>
  rw [hj] at this
  obtain ⟨ys,fr',h1,h2,h3,h4⟩ := this
  exact ⟨ys,fr',h1,fun b hb => R.live b (h2 b hb),h3,h4⟩
 | gone => rw [hj] at this;exact this
theorem of2_low {k : List Nat} {v : List AV} (h : lowL v = true) : ∀ t,lowA (of2 .bad k v t) = true := by
 induction k generalizing v with
 | nil => intro t;rfl
 | cons s k ih =>
  cases v with
  | nil => intro t;rfl
  | cons x v =>
   intro t
   have q' : lowA x = true ∧ lowL v = true := by rw [← Bool.and_eq_true];exact h
   show lowA (if t = s then x else of2 .bad k v t) = true
   split
   ·exact q'.1
   ·exact ih q'.2 t
theorem of2_lowO {k : List Nat} {v : List AO} (h : v.all lowO = true) : ∀ t,lowO (of2 .gone k v t) = true := by
 induction k generalizing v with
 | nil => intro t;rfl
 | cons s k ih =>
  cases v with
  | nil => intro t;rfl
  | cons x v =>
   intro t
   rw [List.all_cons,Bool.and_eq_true] at h
   show lowO (if t = s then x else of2 .gone k v t) = true
   split
   ·exact h.1
   ·exact ih h.2 t
mutual
theorem frz_low (id : Nat) (y : PV) : ∀ x,lowA x = true → lowA (frz id y x) = true
 | .own j,q => by rw [frz];split <;> first | rfl | exact q
 | .sub j _ _,q => by rw [frz];split <;> first | rfl | exact q
 | .ptr j _ _,q => by rw [frz];split <;> first | rfl | exact q
 | .agg cs,q => by rw [frz];exact frzL_low id y cs q
 | .tup cs,q => by rw [frz];exact frzL_low id y cs q
 | .clo fn f cs,q => by
  have q' : lowL f = true ∧ lowL cs = true := by rw [← Bool.and_eq_true];exact q
  rw [frz]
  show (lowL _ && lowL _) = true
  rw [frzL_low id y f q'.1,frzL_low id y cs q'.2];rfl
 | .p _,_ => by simp [frz,lowA]
 | .rp _,_ => by simp [frz,lowA]
 | .dead,_ => by simp [frz,lowA]
 | .bad,_ => by simp [frz,lowA]
theorem frzL_low (id : Nat) (y : PV) : ∀ l,lowL l = true → lowL (frzL id y l) = true
 | [],_ => rfl
 | x :: xs,q => by
  have q' : lowA x = true ∧ lowL xs = true := by rw [← Bool.and_eq_true];exact q
  show (lowA _ && lowL _) = true
  rw [frz_low id y x q'.1,frzL_low id y xs q'.2];rfl
end
theorem frzO_low (id : Nat) (y : PV) {o : AO} (q : lowO o = true) : lowO (o.frz id y) = true := by
 cases o with
 | box T p cells => exact frzL_low id y cells q
 | _ => rfl
theorem RR.putIn (j m : Nat) {k i : List Nat} {v : List AV} {b : List AO} {e : TypeId} {u : Value} {sz : Nat} {rows : List (List PV)} {F' : List AO} {ρ : Nat → Value} {fp : Nat → List Nat} {a : Act} {w : World} (hr : RR L O w0 N (of2 .bad k v) (tl (of2 .gone i b) F) ρ fp a w) (hj : (of2 .gone i b j,Nat.blt j 1000000) = (.arr ⟨e,some u⟩ sz rows,true)) (hl : (lowL v && b.all lowO) = true) (hF : rowF F)
 (hm : (F[m]?).getD .gone = .gone) (hF' : ∀ x,(F'[x]?).getD .gone = if x = m then .arr ⟨e,some u⟩ sz rows else (F[x]?).getD .gone) :
 ∃ ρ fp,RR L O w0 N (fun t => frz j (.v u) (of2 .bad k v t)) (tl (upd (fun x => (of2 .gone i b x).frz j (.v u)) j .gone) F') ρ fp a w := by
 rw [Bool.and_eq_true] at hl
 have hj1 : of2 .gone i b j = .arr ⟨e,some u⟩ sz rows := congrArg (·.1) hj
 have hj2 : j < 1000000 := Nat.le_of_ble_eq_true (congrArg (·.2) hj)
 have h1 := hr.plain j (e := e) (u := u) (sz := sz) (rows := rows) (by rw [tl_lo hj2];exact hj1)
 have e0 : (fun x => (tl (of2 .gone i b) F x).frz j (.v u)) = tl (fun x => (of2 .gone i b x).frz j (.v u)) F := funext fun x => by
  rcases lo_or_hi x with q | ⟨m,rfl⟩
  ·rw [tl_lo q,tl_lo q]
  ·rw [tl_hi,tl_hi];exact rowO.frz (rowF.at hF m)
 rw [e0] at h1
 have hbig : tl (fun x => (of2 .gone i b x).frz j (.v u)) F (1000000 + m) = .gone := by rw [tl_hi];exact hm
 have hjj : tl (fun x => (of2 .gone i b x).frz j (.v u)) F j = .arr ⟨e,some u⟩ sz rows := by rw [tl_lo hj2,hj1];rfl
 have h2 := h1.rename (i := j) (j := 1000000 + m) (by omega) hbig (by rw [hjj];rfl) (one? (1000000 + m)) (by simp [one?])
 have lowK : lowEq (one? (1000000 + m)) noK := fun x hx => by unfold one? noK;simp;omega
 have e1 : (fun t => kil (one? (1000000 + m)) (frz j (.v u) (of2 .bad k v t))) = fun t => frz j (.v u) (of2 .bad k v t) := funext fun t => by
  rw [kil_low lowK _ (frz_low _ _ _ (of2_low hl.1 t)),kil_no]
 have e2 : upd (upd (fun x => (tl (fun x => (of2 .gone i b x).frz j (.v u)) F x).kil (one? (1000000 + m))) j .gone) (1000000 + m) (tl (fun x => (of2 .gone i b x).frz j (.v u)) F j) = tl (upd (fun x => (of2 .gone i b x).frz j (.v u)) j .gone) F' := funext fun x => by
  rw [hjj]
  rcases lo_or_hi x with q | ⟨y,rfl⟩
  ·rw [upd_ne _ _ (by omega),tl_lo q]
   by_cases xj : x = j
   ·subst xj;rw [upd_same,upd_same]
   ·rw [upd_ne _ _ xj,upd_ne _ _ xj]
    show (tl _ F x).kil _ = _
    rw [tl_lo q,lowO.kil lowK (frzO_low _ _ (of2_lowO hl.2 x)),AO.kil_no]
  ·rw [tl_hi,hF' y]
   by_cases hy : y = m
   ·subst hy;rw [upd_same,if_pos rfl]
   ·rw [upd_ne _ _ (by omega),upd_ne _ _ (by omega),if_neg hy]
    show (tl _ F (1000000 + y)).kil _ = _
    rw [tl_hi,rowO.kil (rowF.at hF y)]
 rw [e1,e2] at h2
 exact ⟨_,_,h2⟩
theorem AW.absorb (j : Nat) {k i : List Nat} {v : List AV} {b : List AO} {e : TypeId} {u : Value} {sz : Nat} {rows : List (List PV)} (hj : (of2 .gone i b j,Nat.blt j 1000000) = (.arr ⟨e,some u⟩ sz rows,true)) (hl : (lowL v && b.all lowO) = true) (hF : rowF F)
 (hK : AW P L O w0 N c (fun t => frz j (.v u) (of2 .bad k v t)) (tl (upd (fun x => (of2 .gone i b x).frz j (.v u)) j .gone) (F ++ [.arr ⟨e,some u⟩ sz rows])) Q) : AW P L O w0 N c (of2 .bad k v) (tl (of2 .gone i b) F) Q := fun ρ fp a w hr => by
 obtain ⟨ρ',fp',h⟩ := hr.putIn j F.length (F' := F ++ [.arr ⟨e,some u⟩ sz rows]) hj hl hF (by simp) (fun x => by
  by_cases q : x = F.length
  ·subst q;simp
  ·rw [if_neg q]
   rcases Nat.lt_or_ge x F.length with z | z
   ·rw [List.getElem?_append_left z]
   ·rw [List.getElem?_eq_none z,List.getElem?_eq_none (by simp;omega)])
 exact hK ρ' fp' a w h
end
def prs (s M : Nat) : List (Nat × Nat) := (List.range M).map fun i => (1000000 + i,1000000 + s + i)
theorem rn_app {r r' : List (Nat × Nat)} {i : Nat} : rn (r ++ r') i = match rn r i with | some j => some j | none => rn r' i := by
 induction r with
 | nil => rfl
 | cons p r ih =>
  obtain ⟨a,b⟩ := p
  show (if i = a then some b else rn (r ++ r') i) = match (if i = a then some b else rn r i) with | some j => some j | none => rn r' i
  by_cases q : i = a
  ·rw [if_pos q,if_pos q]
  ·rw [if_neg q,if_neg q];exact ih
theorem sw_app {r r' : List (Nat × Nat)} : sw (r ++ r') = sw r ++ sw r' := List.map_append
theorem prs_fst {s M : Nat} : ((prs s M).map Prod.fst).Nodup := by
 unfold prs
 rw [List.map_map]
 exact List.pairwise_map.2 (List.Pairwise.imp (fun {a b} (h : a ≠ b) => fun q => h (by simp at q;omega)) List.nodup_range)
theorem prs_snd {s M : Nat} : ((prs s M).map Prod.snd).Nodup := by
 unfold prs
 rw [List.map_map]
 exact List.pairwise_map.2 (List.Pairwise.imp (fun {a b} (h : a ≠ b) => fun q => h (by simp at q;omega)) List.nodup_range)
theorem rn_prs {s M i : Nat} (h : i < M) : rn (prs s M) (1000000 + i) = some (1000000 + s + i) := mem_rn prs_fst (List.mem_map.2 ⟨i,by simpa using h,rfl⟩)
theorem prs_lo {s M i : Nat} (h : i < 1000000) : rn (prs s M) i = none := rn_none fun p hp => by
 obtain ⟨j,_,rfl⟩ := List.mem_map.1 hp
 show 1000000 + j ≠ i
 omega
theorem sw_prs_lo {s M i : Nat} (h : i < 1000000) : rn (sw (prs s M)) i = none := rn_none fun p hp => by
 unfold sw at hp
 obtain ⟨q,hq,rfl⟩ := List.mem_map.1 hp
 obtain ⟨j,_,rfl⟩ := List.mem_map.1 hq
 show 1000000 + s + j ≠ i
 omega
theorem lowR {r : List (Nat × Nat)} {s M : Nat} : lowEq (rn (r ++ prs s M)) (rn r) := fun i hi => by
 rw [rn_app,prs_lo hi]
 cases rn r i <;> rfl
theorem lowS {r : List (Nat × Nat)} {s M : Nat} : lowEq (rn (sw (r ++ prs s M))) (rn (sw r)) := fun i hi => by
 rw [sw_app,rn_app,sw_prs_lo hi]
 cases rn (sw r) i <;> rfl
theorem app_fst {r : List (Nat × Nat)} {s M : Nat} (hr : smallR r = true) (h : (r.map Prod.fst).Nodup) : ((r ++ prs s M).map Prod.fst).Nodup := by
 rw [List.map_append]
 refine List.nodup_append.2 ⟨h,prs_fst,fun a ha b hb hab => ?_⟩
 obtain ⟨p,hp,rfl⟩ := List.mem_map.1 ha
 obtain ⟨q,hq,rfl⟩ := List.mem_map.1 hb
 obtain ⟨j,_,rfl⟩ := List.mem_map.1 hq
 have := (smallR.at hr p hp).1
 simp at hab
 omega
theorem app_snd {r : List (Nat × Nat)} {s M : Nat} (hr : smallR r = true) (h : (r.map Prod.snd).Nodup) : ((r ++ prs s M).map Prod.snd).Nodup := by
 rw [List.map_append]
 refine List.nodup_append.2 ⟨h,prs_snd,fun a ha b hb hab => ?_⟩
 obtain ⟨p,hp,rfl⟩ := List.mem_map.1 ha
 obtain ⟨q,hq,rfl⟩ := List.mem_map.1 hb
 obtain ⟨j,_,rfl⟩ := List.mem_map.1 hq
 have := (smallR.at hr p hp).2
 simp at hab
 omega
theorem sw_hi {r : List (Nat × Nat)} {s M m : Nat} (hr : smallR r = true) : rn (sw (r ++ prs s M)) (1000000 + m) = if s ≤ m ∧ m - s < M then some (1000000 + (m - s)) else none := by
 rw [sw_app,rn_app,smallR.hi hr m]
 dsimp only
 split
 ·rename_i q
  have h1 := rn_prs (s := s) q.2
  rw [rn_sw prs_fst prs_snd] at h1
  rw [show 1000000 + s + (m - s) = 1000000 + m by omega] at h1
  exact h1
 ·rename_i q
  refine rn_none fun p hp => ?_
  unfold sw at hp
  obtain ⟨x,hx,rfl⟩ := List.mem_map.1 hp
  obtain ⟨j,hj,rfl⟩ := List.mem_map.1 hx
  have : j < M := by simpa using hj
  show 1000000 + s + j ≠ 1000000 + m
  omega
def GN (P : Program) (f : FuncId) (args : List AV) (ob0 : List (Nat × AO)) (F0 : List AO) (R : AV → List (Nat × AO) → List AO → Prop) : Prop :=
 GX P f args (ob0 ++ famL 1000000 F0) fun x ob1 => ∃ l1 F1,(smallO l1 && (l1.all (fun p => lowO p.2) && lowA x)) = true ∧ rowF F1 ∧ F1.length ≤ 10000000 ∧ ob1 = l1 ++ famL 1000000 F1 ∧ R x l1 F1
def kbig (kl : List Nat) : Nat → Bool := fun j => inK kl j || Nat.ble 1000000 j
theorem ofO_all {l : List (Nat × AO)} (h : (l.all fun p => lowO p.2) = true) (i : Nat) : lowO (ofO l i) = true := by
 induction l with
 | nil => rfl
 | cons p l ih =>
  obtain ⟨a,o⟩ := p
  rw [List.all_cons,Bool.and_eq_true] at h
  show lowO (if i = a then o else ofO l i) = true
  split
  ·exact h.1
  ·exact ih h.2
theorem kbig_lo {kl : List Nat} : lowEq (kbig kl) (inK kl) := fun i hi => by
 unfold kbig
 have : Nat.ble 1000000 i = false := by
  cases e : Nat.ble 1000000 i with
  | false => rfl
  | true => have := Nat.le_of_ble_eq_true e;omega
 rw [this,Bool.or_false]
theorem pins_fam {ob0 l1 : List (Nat × AO)} {F0 F1 : List AO} : ∀ {pl : List Nat},pl.all (fun i => Nat.blt i 1000000) = true → pins ob0 l1 pl → pins (ob0 ++ famL 1000000 F0) (l1 ++ famL 1000000 F1) pl
 | [],_,_ => trivial
 | i :: pl,hs,h => by
  rw [List.all_cons,Bool.and_eq_true] at hs
  refine ⟨?_,pins_fam hs.2 h.2⟩
  rw [ofO_lo (Nat.le_of_ble_eq_true hs.1),ofO_lo (Nat.le_of_ble_eq_true hs.1)]
  exact h.1
theorem all0_app {r : List (Nat × Nat)} {H : Nat → AO} : ∀ {l m : List (Nat × AO)},all0 r H l → all0 r H m → all0 r H (l ++ m)
 | [],m,_,h => h
 | (i,o) :: l,m,h1,h => ⟨h1.1,all0_app h1.2 h⟩
theorem all0_fam {r : List (Nat × Nat)} {H : Nat → AO} : ∀ {F : List AO} {n : Nat},(∀ i,i < F.length → ∃ j,rn r (n + i) = some j ∧ (H j).ren (sw r) = (F[i]?).getD .gone) → all0 r H (famL n F)
 | [],n,_ => trivial
 | o :: F,n,h => ⟨by have := h 0 (by simp);simpa using this,all0_fam fun i hi => by
  have := h (i + 1) (by simp;omega)
  rw [show n + 1 + i = n + (i + 1) by omega];simpa using this⟩
theorem all0_low {r r' : List (Nat × Nat)} {H : Nat → AO} (h1 : ∀ i j,rn r i = some j → rn r' i = some j) (h2 : lowEq (rn (sw r)) (rn (sw r'))) (h3 : ∀ i j,rn r i = some j → lowO (H j) = true) : ∀ {l : List (Nat × AO)},all0 r H l → all0 r' H l
 | [],_ => trivial
 | (i,o) :: l,h => by
  obtain ⟨⟨j,q1,q2⟩,q3⟩ := h
  exact ⟨⟨j,h1 i j q1,by rw [← q2];exact (lowO.ren h2 (h3 i j q1)).symm⟩,all0_low h1 h2 h3 q3⟩
theorem mem_famL : ∀ {F : List AO} {n i : Nat} {o : AO},(i,o) ∈ famL n F → ∃ m,m < F.length ∧ i = n + m
 | [],n,i,o,h => by cases h
 | x :: F,n,i,o,h => by
  rcases List.mem_cons.1 h with h | h
  ·injection h with h1 h2
   exact ⟨0,by simp,by omega⟩
  ·obtain ⟨m,q1,q2⟩ := mem_famL h
   exact ⟨m + 1,by simp;omega,by omega⟩
section
variable {P : Program} {o : Oper} {N : Nat} {τ : Nat → AV} {H : Nat → AO} {F : List AO}
theorem StX.callN (r : List (Nat × Nat)) (kl pl : List Nat) (s : Nat) {y : Operand} {l : List Operand} {ts : Array TypeId} {f : FuncId} {fn : Func} {fs caps args : List AV} {ob0 : List (Nat × AO)} {F0 Fp : List AO} {R : AV → List (Nat × AO) → List AO → Prop} (hf : P.funcs[f]? = some fn) (hc : GN P f args ob0 F0 R) (hT : Tl H F) (e0 : F.drop s = F0) (e1 : F.take s = Fp) (hs : s ≤ F.length) (hM : F.length ≤ 10000000) (hp : ∀ x l1 F1,R x l1 F1 → pins ob0 l1 pl)
 (h : (o.op,dstOk o.dst N,ev τ y,(fn.name == "runtime.NumGoroutine"),fn.body.isNone,renL (sw r) (fs ++ l.map (ev τ) ++ caps),lowL (fs ++ l.map (ev τ) ++ caps),r.all (fun p => lowO (H p.2))) = (.call { callee := .value y,args := l.toArray,argTypes := ts },true,.clo (.func f) fs caps,false,false,args,true,true)) (h0 : allv r H ob0 = allw ob0)
 (hr : (nodupB (r.map Prod.fst) && (nodupB (r.map Prod.snd) && (okK r kl pl && (smallR r && pl.all (fun i => Nat.blt i 1000000))))) = true := by decide) :
 StX P o N τ H (exL r ob0 ++ (List.range F0.length).map fun i => 1000000 + s + i) fun τ' H' => ∃ x l1 F1,R x l1 F1 ∧ rowF F1 ∧ F1.length ≤ 10000000 ∧ τ' = updo (fun t => kil (kbig kl) (τ t)) o.dst (ren r x) ∧ H' = tl (callH r (kbig kl) l1 H) (Fp ++ F1) := by
 subst e0 e1
 simp only [Prod.mk.injEq] at h
 obtain ⟨ho,ht,hy,hf1,hf2,ha,hlo,hlH⟩ := h
 simp only [Bool.and_eq_true] at hr
 obtain ⟨hr1,hr2,hr3,hr4,hr5⟩ := hr
 have nd1 := app_fst (s := s) (M := 10000000) hr4 (nodupB.nodup hr1)
 have nd2 := app_snd (s := s) (M := 10000000) hr4 (nodupB.nodup hr2)
 have hlen : (F.drop s).length ≤ 10000000 := by simp;omega
 have rnup : ∀ i j,rn r i = some j → rn (r ++ prs s 10000000) i = some j := fun i j q => by rw [rn_app,q]
 have lowH : ∀ i j,rn r i = some j → lowO (H j) = true := fun i j q => List.all_eq_true.1 hlH _ (rn_mem q)
 refine ⟨?_⟩
 intro L O w0 ρ fp a w K Q hrr hk
 have ey := hrr.ev y
 rw [hy,RV] at ey
 obtain ⟨cf,cc,ey,e1,e2⟩ := ey
 have hv : RVL L ρ H w (fs ++ l.map (ev τ) ++ caps) (cf ++ l.map a.eval ++ cc) := (e1.append (RVL.map (fun z => hrr.ev z) l)).append e2
 have hcall := RR.called hrr (r := r ++ prs s 10000000) (k := kbig kl) (pl := pl) hc nd1 nd2 (by
  refine all0_app (all0_low rnup (fun i hi => (lowS (r := r) (s := s) i hi).symm) lowH (allv.all0 h0)) (all0_fam fun i hi => ?_)
  refine ⟨1000000 + s + i,?_,?_⟩
  ·rw [rn_app,smallR.hi' hr4 i]
   exact rn_prs (by omega)
  ·rw [show 1000000 + s + i = 1000000 + (s + i) by omega,hT.1 (s + i),rowO.ren (rowF.at hT.2 _),List.getElem?_drop])
  (fun j hj i hi => by
    have hjs : j < 1000000 := by
     unfold kbig at hj
     rw [Bool.or_eq_false_iff] at hj
     rcases Nat.lt_or_ge j 1000000 with q | q
     ·exact q
     ·have := Nat.ble_eq_true_of_le q;rw [hj.2] at this;cases this
    rw [lowS j hjs] at hi
    refine okK.at hr3 j ?_ i hi
    rw [← kbig_lo j hjs];exact hj)
  (fun x ob1 ⟨l1,F1,q1,q2,q3,q4,q5⟩ => by subst q4;exact pins_fam hr5 (hp x l1 F1 q5)) hv (by rw [← ha];exact (renL_low (fun i hi => lowS i hi) _ hlo))
 have hrun : (execOp a.eval o).run P w = .ok (.enter f (cf ++ l.map a.eval ++ cc).toArray) w := by
  simp only [execOp,ho,resolve,Deferred.ofValue,ey,invoke,callFunc,Sem.run_bind,Sem.run_pure,Result.andThen_ok,run_program,hf,hf1,hf2,Bool.false_eq_true,if_false,List.map_toArray,List.append_toArray]
 unfold Oper.wp
 rw [hrun]
 show Calls P f _ w _
 refine Calls.mono hcall ?_
 rintro e w' ⟨x,ob1,⟨l1,F1,q1,q2,q3,rfl,q5⟩,v,ρ',fp',rfl,g1,g2,g3⟩
 simp only [Bool.and_eq_true] at q1
 have eH : callH (r ++ prs s 10000000) (kbig kl) (l1 ++ famL 1000000 F1) H = tl (callH r (kbig kl) l1 H) (F.take s ++ F1) := funext fun j => by
  rcases lo_or_hi j with q | ⟨m,rfl⟩
  ·rw [tl_lo q]
   unfold callH
   rw [lowS j q]
   cases hj : rn (sw r) j with
   | none => rfl
   | some i =>
    have hi : i < 1000000 := by
     have := rn_mem hj
     unfold sw at this
     obtain ⟨p,hp,e⟩ := List.mem_map.1 this
     injection e with e1 e2
     subst e2
     exact (smallR.at hr4 p hp).1
    show (ofO (l1 ++ famL 1000000 F1) i).ren _ = (ofO l1 i).ren _
    rw [ofO_lo hi]
    exact lowO.ren lowR (ofO_all q1.2.1 i)
  ·rw [tl_hi]
   unfold callH
   rw [sw_hi hr4]
   have hst : (F.take s).length = s := by rw [List.length_take];omega
   by_cases c : s ≤ m ∧ m - s < 10000000
   ·rw [if_pos c]
    show (ofO (l1 ++ famL 1000000 F1) (1000000 + (m - s))).ren _ = _
    rw [ofO_hi q1.1,famL_at,if_pos (by omega),show 1000000 + (m - s) - 1000000 = m - s by omega,rowO.ren (rowF.at q2 _),List.getElem?_append_right (by omega),hst]
   ·rw [if_neg c]
    show (H (1000000 + m)).kil _ = _
    rw [hT.1 m,rowO.kil (rowF.at hT.2 m)]
    rcases Nat.lt_or_ge m s with z | z
    ·rw [List.getElem?_append_left (by omega),List.getElem?_take_of_lt z]
    ·rw [List.getElem?_eq_none (by omega),List.getElem?_append_right (by omega),List.getElem?_eq_none (by omega)]
 have ex : ren (r ++ prs s 10000000) x = ren r x := ren_low (fun i hi => lowR i hi) x q1.2.2
 rw [eH,ex] at g2
 rw [eH] at g1
 refine hk _ _ _ _ _ _ ⟨x,l1,F1,q5,q2,q3,rfl,rfl⟩ (g1.puto o.dst g2 (dstOk.at ht)) (fun X hX => ?_)
 rw [← eH]
 refine g3 X (fun i o' hio j hj => ?_)
 rcases List.mem_append.1 hio with hio | hio
 ·obtain ⟨⟨j',z1,_⟩,_⟩ : (∃ j',rn r i = some j' ∧ True) ∧ True := by
   refine ⟨?_,trivial⟩
   have : ∀ (l : List (Nat × AO)),all0 r H l → (i,o') ∈ l → ∃ j',rn r i = some j' ∧ True := by
    intro l
    induction l with
    | nil => intro _ h;cases h
    | cons p l ih =>
     obtain ⟨a',b'⟩ := p
     intro h hm
     rcases List.mem_cons.1 hm with hm | hm
     ·injection hm with hm1 hm2
      subst hm1
      obtain ⟨⟨j',z,_⟩,_⟩ := h
      exact ⟨j',z,trivial⟩
     ·exact ih h.2 hm
   exact this ob0 (allv.all0 h0) hio
  rw [rnup i j' z1] at hj
  injection hj with hj
  subst hj
  exact hX _ (List.mem_append_left _ (List.mem_filterMap.2 ⟨_,hio,z1⟩))
 ·obtain ⟨m,hm,rfl⟩ := mem_famL hio
  rw [rn_app,smallR.hi' hr4 m] at hj
  dsimp only at hj
  rw [rn_prs (by omega)] at hj
  injection hj with hj
  subst hj
  exact hX _ (List.mem_append_right _ (List.mem_map.2 ⟨m,by simpa using hm,rfl⟩))
end

inductive All2 {α β : Type} (R : α → β → Prop) : List α → List β → Prop
 | nil : All2 R [] []
 | cons {a : α} {b : β} {l : List α} {m : List β} : R a b → All2 R l m → All2 R (a :: l) (b :: m)
theorem All2.len {α β : Type} {R : α → β → Prop} {l : List α} {m : List β} (h : All2 R l m) : l.length = m.length := by
 induction h with
 | nil => rfl
 | cons _ _ ih => simp [ih]
theorem All2.of {α β : Type} {R : α → β → Prop} : ∀ {l : List α} {m : List β},l.length = m.length → (∀ (i : Nat) (a : α) (b : β),l[i]? = some a → m[i]? = some b → R a b) → All2 R l m
 | [],[],_,_ => .nil
 | a :: l,b :: m,hl,h => .cons (h 0 a b rfl rfl) (All2.of (by simpa using hl) fun i x y h1 h2 => h (i + 1) x y (by simpa using h1) (by simpa using h2))
 | [],_ :: _,hl,_ => by cases hl
 | _ :: _,[],hl,_ => by cases hl
def dpC (H : Nat → AO) (p q : PV) : Prop := p = q ∨ ∃ v m e sz rows,p = .v v ∧ H m = .arr ⟨e,some v⟩ sz rows ∧ q = .lst e sz rows
section
variable {L : Nat → Prop} {ρ : Nat → Value} {H : Nat → AO} {w : World}
theorem RWL.deep (hob : ∀ id,∃ f,OB L ρ H w (ρ id) f (H id)) : ∀ {x y : List PV} {c : List Value} {fp : List Nat},All2 (dpC H) x y → RWL w false x c fp → ∃ fp',RWL w false y c fp'
 | _,_,c,fp,.nil,h => ⟨fp,h⟩
 | _,_,c,fp,.cons h1 h2,h => by
  rw [RWL] at h
  obtain ⟨c,r,f1,f2,rfl,rfl,k1,k2⟩ := h
  obtain ⟨g2,k3⟩ := RWL.deep hob h2 k2
  rcases h1 with rfl | ⟨v,m,e,sz,rows,rfl,hm,rfl⟩
  ·exact ⟨f1 ++ g2,by rw [RWL];exact ⟨c,r,f1,g2,rfl,rfl,k1,k3⟩⟩
  ·obtain ⟨f,ho⟩ := hob m
   rw [hm] at ho
   obtain ⟨g1,k4⟩ := OB.readsW ho
   have hv : ρ m = v := by obtain ⟨_,_,_,_,_,_,k⟩ := ho;exact k v rfl
   rw [RW] at k1
   rw [k1.1,← hv]
   exact ⟨g1 ++ g2,by rw [RWL];exact ⟨ρ m,r,g1,g2,rfl,rfl,k4,k3⟩⟩
theorem RWR.deep (hob : ∀ id,∃ f,OB L ρ H w (ρ id) f (H id)) {sz : Nat} : ∀ {x y : List (List PV)} {c : List Value} {fp : List Nat},All2 (All2 (dpC H)) x y → RWR w false sz x c fp → ∃ fp',RWR w false sz y c fp'
 | _,_,c,fp,.nil,h => ⟨fp,h⟩
 | _,_,c,fp,.cons h1 h2,h => by
  rw [RWR] at h
  obtain ⟨hl,c,r,f1,f2,rfl,rfl,k1,k2⟩ := h
  obtain ⟨g1,k3⟩ := RWL.deep hob h1 k1
  obtain ⟨g2,k4⟩ := RWR.deep hob h2 k2
  exact ⟨g1 ++ g2,by rw [RWR];exact ⟨by rw [← h1.len];exact hl,c,r,g1,g2,rfl,rfl,k3,k4⟩⟩
end
def Reads (H : Nat → AO) (x y : AV) : Prop := ∀ {L : Nat → Prop} {ρ : Nat → Value} {w : World} {c : Value},(∀ id,∃ f,OB L ρ H w (ρ id) f (H id)) → RV L ρ H w x c → RV L0 ρ0 (ofO []) w y c
theorem Reads.lend {H : Nat → AO} {x y : AV} (h : lend H x = y) : Reads H x y := fun hob hx => h ▸ RV.lend hob x hx
theorem Reads.own {H : Nat → AO} {id : Nat} {t : TypeId} {pt : Option Value} {sz : Nat} {rows rows' : List (List PV)} (hH : H id = .arr ⟨t,pt⟩ sz rows) (h : All2 (All2 (dpC H)) rows rows') : Reads H (.own id) (.p (.lst t sz rows')) := fun {L ρ w c} hob hx => by
 rw [RV] at hx
 have hc := hx.2 (by rw [hH];rfl)
 obtain ⟨f,ho⟩ := hob id
 rw [hH] at ho
 obtain ⟨xs,fr,b1,b2,b3,b4,b5⟩ := ho
 obtain ⟨g,k1⟩ := RWR.deep hob h b1
 have hr := OB.readsW (L := L) (ρ := ρ) (H := H) (w := w) (v := ρ id) (f := f) (e := ⟨t,pt⟩) (sz := sz) (rows := rows) ⟨xs,fr,b1,b2,b3,b4,b5⟩
 rw [hc]
 rw [RV]
 have hlen : rows'.length = rows.length := h.len.symm
 rcases b3.2 with ⟨q,q2⟩ | ⟨gb,cap,cur,q,_,hg,hnc,hcm,_⟩
 ·refine ⟨[] ++ g,?_,fun b _ => no_live⟩
  rw [RW]
  refine ⟨xs,[],g,k1,?_,rfl⟩
  unfold SlAt
  simp only [Bool.false_eq_true,if_false]
  exact ⟨none,0,by rw [q,hlen,q2],by omega,by simp [maxLen],.inl ⟨by omega,trivial⟩⟩
 ·have b3' := b3
  rw [q] at b3'
  refine ⟨[gb] ++ g,?_,fun b _ => no_live⟩
  rw [RW]
  refine ⟨xs,[gb],g,k1,?_,rfl⟩
  unfold SlAt
  simp only [Bool.false_eq_true,if_false]
  exact ⟨_,cap,by rw [q,hlen],by omega,hcm,.inr ⟨gb,0,rfl,cellsAt_of_own b3',(Array.getElem?_eq_some_iff.1 hg).1,rfl⟩⟩
theorem RVL.reads {H : Nat → AO} {L : Nat → Prop} {ρ : Nat → Value} {w : World} (hob : ∀ id,∃ f,OB L ρ H w (ρ id) f (H id)) : ∀ {l m : List AV} {cs : List Value},All2 (Reads H) l m → RVL L ρ H w l cs → RVL L0 ρ0 (ofO []) w m cs
 | _,_,cs,.nil,h => by rw [RVL] at *;exact h
 | _,_,cs,.cons h1 h2,h => by
  rw [RVL] at *
  obtain ⟨c,r,rfl,k1,k2⟩ := h
  exact ⟨c,r,rfl,h1 hob k1,RVL.reads hob h2 k2⟩
theorem Reads.agg {H : Nat → AO} {l m : List AV} (h : All2 (Reads H) l m) : Reads H (.agg l) (.agg m) := fun hob hx => by
 rw [RV] at *
 obtain ⟨cs,rfl,h1⟩ := hx
 exact ⟨cs,rfl,RVL.reads hob h h1⟩
section
variable {P : Program} {o : Oper} {N : Nat} {τ : Nat → AV} {H : Nat → AO}
end
theorem rowF.app {F G : List AO} (h : rowF F) (g : rowF G) : rowF (F ++ G) := fun o ho => by
 rcases List.mem_append.1 ho with q | q
 ·exact h o q
 ·exact g o q
theorem tlp {H : Nat → AO} {F : List AO} (h : Tl H F := by repeat (first | exact Tl.list rfl | exact Tl.tl (by first | assumption | exact rowF.nil) | refine Tl.frz rfl ?_ | refine Tl.upd rfl ?_ | refine Tl.kil ?_ | refine Tl.call rfl ?_ | refine Tl.swap rfl ?_)) : Tl H F := h
def nR (R : AV → List (Nat × AO) → List AO → Prop) : AV → List (Nat × AO) → Prop := fun x ob1 => ∃ l1 F1,(smallO l1 && (l1.all (fun p => lowO p.2) && lowA x)) = true ∧ rowF F1 ∧ F1.length ≤ 10000000 ∧ ob1 = l1 ++ famL 1000000 F1 ∧ R x l1 F1
section
variable {P : Program} {L O : Nat → Prop} {w0 : World} {N : Nat} {τ : Nat → AV} {H : Nat → AO} {Q : AQ} {c : Code} {ops : Array Oper} {l : List Oper} {F : List AO}
theorem GN.intro {f : FuncId} {fn : Func} {c : Code} {args : List AV} {ob0 : List (Nat × AO)} {F0 : List AO} {R : AV → List (Nat × AO) → List AO → Prop} {rs : List RVar} (hf : P.funcs[f]? = some fn) (hb : fn.body = some c) (hn : fn.ntmps = N) (hl : args.length ≤ N) (hrs : resOk P fn.results.toList rs) (h0 : smallO ob0 = true)
 (h : ∀ L O w0,AW P L O w0 N c (ofL args) (tl (ofO ob0) F0) (EndsX rs (nR R))) : GN P f args ob0 F0 R := GX.intro hf hb hn hl hrs (fun L O w0 => by rw [ofO_fam h0];exact h L O w0)
theorem end_nret {rs : List RVar} {R : AV → List (Nat × AO) → List AO → Prop} (x : AV) (l1 : List (Nat × AO)) {F1 : List AO} (hR : R x l1 F1) (hM : F1.length ≤ 10000000) (h0 : retX τ H rs = some x) (h1 : (smallO l1 && (l1.all (fun p => lowO p.2) && lowA x)) = true) (h2 : allO l1 H) (h3 : Tl H F1) : EndsX rs (nR R) .ret τ H :=
 ⟨x,l1 ++ famL 1000000 F1,⟨l1,F1,h1,h3.2,hM,rfl,hR⟩,h0,allO_app h2 h3.all⟩
end

def rowsV (vs : List Value) (ps : List Posting) : List (List PV) := List.zipWith (fun v (p : Posting) => [.v (.int .i64 p.id),.v v]) vs ps
def famP (vs : List Value) (ps : List Posting) : List AO := List.zipWith (fun v (p : Posting) => .arr ⟨120,some v⟩ 3 (rowsOf encLine p.lines)) vs ps
theorem rowsV_len {vs : List Value} {ps : List Posting} (h : vs.length = ps.length) : (rowsV vs ps).length = ps.length := by unfold rowsV;rw [List.length_zipWith];omega
theorem famP_len {vs : List Value} {ps : List Posting} (h : vs.length = ps.length) : (famP vs ps).length = ps.length := by unfold famP;rw [List.length_zipWith];omega
theorem rowsV_app {vs : List Value} {ps : List Posting} {u : Value} {p : Posting} (h : vs.length = ps.length) : rowsV (vs ++ [u]) (ps ++ [p]) = rowsV vs ps ++ [[.v (.int .i64 p.id),.v u]] := by unfold rowsV;rw [List.zipWith_append h];rfl
theorem famP_app {vs : List Value} {ps : List Posting} {u : Value} {p : Posting} (h : vs.length = ps.length) : famP (vs ++ [u]) (ps ++ [p]) = famP vs ps ++ [.arr ⟨120,some u⟩ 3 (rowsOf encLine p.lines)] := by unfold famP;rw [List.zipWith_append h];rfl
theorem famP_row : ∀ {vs : List Value} {ps : List Posting},rowF (famP vs ps)
 | [],_ => by unfold famP;simp;exact rowF.nil
 | _ :: _,[] => by unfold famP;simp;exact rowF.nil
 | v :: vs,p :: ps => fun o ho => by
  unfold famP at ho
  rw [List.zipWith_cons_cons] at ho
  rcases List.mem_cons.1 ho with rfl | ho
  ·rfl
  ·exact famP_row (vs := vs) (ps := ps) o ho
theorem rowsV_at {vs : List Value} {ps : List Posting} {i : Nat} (h : vs.length = ps.length) (hi : i < ps.length) : (rowsV vs ps)[i]? = some [.v (.int .i64 ps[i].id),.v (vs[i]'(by omega))] := by
 unfold rowsV
 rw [List.getElem?_zipWith,List.getElem?_eq_getElem hi,List.getElem?_eq_getElem (by omega)]
theorem famP_at {vs : List Value} {ps : List Posting} {i : Nat} (h : vs.length = ps.length) (hi : i < ps.length) : (famP vs ps)[i]? = some (.arr ⟨120,some (vs[i]'(by omega))⟩ 3 (rowsOf encLine ps[i].lines)) := by
 unfold famP
 rw [List.getElem?_zipWith,List.getElem?_eq_getElem hi,List.getElem?_eq_getElem (by omega)]
theorem deepV {H : Nat → AO} {F : List AO} (hT : Tl H F) {vs : List Value} {ps : List Posting} (h : vs.length = ps.length) {s : Nat} (hF : ∀ i,i < ps.length → F[s + i]? = (famP vs ps)[i]?) : All2 (All2 (dpC H)) (rowsV vs ps) (rowsP ps) := by
 refine All2.of (by rw [rowsV_len h,rowsP_len]) fun i a b ha hb => ?_
 have hi : i < ps.length := by have := (List.getElem?_eq_some_iff.1 hb).1;rwa [rowsP_len] at this
 rw [rowsV_at h hi] at ha
 unfold rowsP at hb
 rw [List.getElem?_map,List.getElem?_eq_getElem hi] at hb
 injection ha with ha
 injection hb with hb
 subst ha hb
 refine .cons (.inl rfl) (.cons (.inr ⟨_,1000000 + (s + i),_,_,_,rfl,?_,rfl⟩) .nil)
 rw [hT.1,hF i hi,famP_at h hi]
 rfl

set_option maxHeartbeats 16000000
set_option maxRecDepth 100000
def allA (x : Book) (es : List Event) : AllS := if bookOk x = true then allS x es else ⟨zeroBook,[],[]⟩
theorem allA_ok {x : Book} {es : List Event} (h : bookOk x = true) : allA x es = allS x es := if_pos h
theorem allA_no {x : Book} {es : List Event} (h : bookOk x = false) : allA x es = ⟨zeroBook,[],[]⟩ := if_neg (by simp [h])
abbrev nAr (l : List Int) : AO := .arr 3 1 (rowsOf encKey l)
abbrev bBox (x : Book) : AO := .box 27 none [int x.tick,int x.next,int x.wallet,.own 1,.own 2,.own 3]
abbrev allOb (r : AllS) (vs : List Value) : List (Nat × AO) := [(1,.arr 40 7 (rowsOf encChan r.now.chans)),(2,hAr r.now.htlcs),(3,iAr r.now.circles),(14,.arr 34 2 (rowsV vs r.ps)),(15,nAr r.codes)]
abbrev allV (r : AllS) : AV := .tup [.agg [int r.now.tick,int r.now.next,int r.now.wallet,.own 1,.own 2,.own 3],.own 14,.own 15]
def allRel (r : AllS) : AV → List (Nat × AO) → List AO → Prop := fun y l1 F1 => ∃ vs : List Value,vs.length = r.ps.length ∧ y = allV r ∧ l1 = allOb r vs ∧ F1 = famP vs r.ps
theorem applyAll_e (x : Book) (es : List Event) (hw : BookWf x) (we : ∀ e ∈ es,wfEvent e) (hm : es.length ≤ 1048576) : GN Tryz.prog 18 [bookV x,.p (.lst 29 7 (rowsOf encEvent es))] [] ([]) (allRel (allA x es)) := by
 refine GN.intro (rs := [.cell 4 27 (some 6),.tmp 5,.tmp 6]) Tryz.func18 rfl Tryz.ntmps18 (Nat.le_of_ble_eq_true rfl) ⟨rfl,rfl,ty.kd27,rfl,rfl,trivial⟩ rfl ?_
 intro L O w0
 refine sL<|lst (zX 2002 Z) Z<|lst (zA 2004 ty.ze27 Z) Z<|laV Z<|laV Z<|nG<|aS<|sL<|loX (.agg [vI _ _,vI _ _,vI _ _,vL _ _ _,vL _ _ _,vL _ _ _]) ty.kd27 Z<|lst (zL Tryz.func11 (impl_BookOk_e x hw) Z) Z<|luB Z<|nG ?_
 refine AW.cond rfl ?_ ?_
 ·intro h1
  refine sL<|lq (rd (x := .agg [vI _ _,vI _ _,vI _ _,vV _,vV _,vV _]) (rd_build Z ty.sa27 Z Z Z) Z)<|lst (zB 2004 ty.co27 ty.inf27 Z) Z<|laV Z<|laV Z<|nG ?_
  refine AW.adoptB 1 2004 3 40 7 rfl (by decide) rfl ?_
  refine AW.adoptB 2 2004 4 68 7 rfl (by decide) rfl ?_
  refine AW.adoptB 3 2004 5 78 5 rfl (by decide) rfl ?_
  refine AW.adoptT 14 5 34 2 rfl ?_
  refine AW.adoptT 15 6 3 1 rfl ?_
  refine aR<|rT ?_
  have hbk : bookOk x = false := by simpa using h1
  rw [allA_no hbk]
  refine end_nret (F1 := []) (allV ⟨zeroBook,[],[]⟩) (allOb ⟨zeroBook,[],[]⟩ []) ?_ (by simp) rfl rfl ⟨rfl,rfl,rfl,rfl,rfl,trivial⟩ tlp
  exact ⟨[],rfl,rfl,rfl,rfl⟩
 ·intro h1
  refine aK<|gT<|aS ?_
  have hbk : bookOk x = true := by simpa using h1
  have fi := bookOk_fi hbk
  have sm := fi.sm
  have hw0 := allS_wf hw we
  refine aL<|loX (.agg [vI _ _,vI _ _,vI _ _,vL _ _ _,vL _ _ _,vL _ _ _]) ty.kd27 Z<|lst (zC [(2005,1),(2009,2),(2013,3)] [1,2,3] [] Tryz.func39 (copyBook_e x (by have := sm.lc;have := sm.lh;have := sm.li;omega)) (trivial) rfl rfl) Z<|lst (zA 2007 ty.ze27 rfl) rfl ?_
  refine lTt ([]) [1,4,5,6,7,20] [1,2,3,2002,2004,2007] ?_
  refine lst (zB 2007 ty.co27 ty.inf27 Z) Z<|nA<|laV Z<|nG ?_
  refine AW.adoptT 14 8 34 2 rfl ?_
  refine sL<|laV Z<|nG ?_
  refine AW.adoptT 15 9 3 1 rfl ?_
  refine aS<|sL<|lmL Z<|lnI ty.sl44 Z<|lmI Z<|nG<|aB ?_
  refine AW.loopT (D := Nat × List Value) [(4,.ptr 2004 _ 0),(5,vV _),(6,vV _),(7,.ptr 2007 _ 0),(8,.own _),(9,.own _),(21,vL _ _ _),(22,vI _ _)] [(2002,.box _ _ [vI _ _,vI _ _,vI _ _,vL _ _ _,vL _ _ _,vL _ _ _]),(2004,.box _ _ [vI _ _,vI _ _,vI _ _,vV _,vV _,vV _])] (fun d => [(23,int (d.1 : Int))]) (fun d => [(2007,bBox (allS x (es.take d.1)).now),(1,.arr 40 7 (rowsOf encChan (allS x (es.take d.1)).now.chans)),(2,hAr (allS x (es.take d.1)).now.htlcs),(3,iAr (allS x (es.take d.1)).now.circles),(14,.arr 34 2 (rowsV d.2 (allS x (es.take d.1)).ps)),(15,nAr (allS x (es.take d.1)).codes)]) (fun d => famP d.2 (allS x (es.take d.1)).ps) (fun d => d.1 ≤ es.length ∧ d.2.length = (allS x (es.take d.1)).ps.length) (fun d => es.length - d.1) ((0,[])) (⟨Nat.zero_le _,by rw [List.take_zero];rfl⟩) ⟨rfl,trivial⟩ ⟨(by rw [List.take_zero];rfl),(by rw [List.take_zero];rfl),(by rw [List.take_zero];rfl),(by rw [List.take_zero];rfl),(by rw [List.take_zero];rfl),(by rw [List.take_zero];rfl),trivial⟩ ⟨rfl,rfl,rfl,rfl,rfl,rfl,rfl,rfl,trivial⟩ ⟨rfl,rfl,trivial⟩ (by rw [List.take_zero];exact tlp) ?_
  intro ⟨k,vs⟩ hI
  obtain ⟨hkl,hvl⟩ := hI
  replace hkl : k ≤ es.length := hkl
  replace hvl : vs.length = (allS x (es.take k)).ps.length := hvl
  have hfr : rowF (famP vs (allS x (es.take k)).ps) := famP_row
  refine sL<|lbB Z<|nG<|aS ?_
  refine AW.cond rfl ?_ ?_
  ·intro h2
   refine aK<|gT<|aS<|aB<|sL ?_
   have hk : k < es.length := by simpa [length_rowsOf] using h2
   have hwk := hw0 k hkl
   have hlc := allS_codes (x := x) k hkl
   have hlp := allS_ps (x := x) k hkl
   refine li k ty.el44 Z (row_map hk)<|lrX (.agg [vI _ _,vI _ _,vI _ _,vI _ _,vI _ _,vI _ _,vB _]) ty.kd29 Z<|lst (zA 2011 ty.ze29 Z) Z<|lst (zB 2011 ty.co29 ty.inf29 Z) Z<|nG<|aS ?_
   refine AW.pinA 1 rfl ?_
   intro u1
   refine AW.pinA 2 rfl ?_
   intro u2
   refine AW.pinA 3 rfl ?_
   intro u3
   refine aL<|loX (.agg [vI _ _,vI _ _,vI _ _,.own _,.own _,.own _]) ty.kd27 Z<|loX (.agg [vI _ _,vI _ _,vI _ _,vI _ _,vI _ _,vI _ _,vB _]) ty.kd29 Z ?_
   refine lst (zC [(1,1),(2,2),(3,3),(11,61),(12,62),(13,63),(14,64)] [61,62,63,64] [1,2,3] Tryz.func9 (lentBk (apply_g _ es[k] hwk)) (⟨stays.arr rfl,stays.arr rfl,stays.arr rfl,trivial⟩) rfl rfl) rfl ?_
   refine lTt (famP vs (allS x (es.take k)).ps) [4,5,6,7,8,9,21,22,23,30] [1,2,3,14,15,61,62,63,64,2002,2004,2007,2011] ?_
   refine lmX (.tup [.agg [vI _ _,vI _ _,vI _ _,.own _,.own _,.own _],.agg [vI _ _,.own _],vI _ _]) Z<|lxX (.agg [vI _ _,vI _ _,vI _ _,.own _,.own _,.own _]) Z<|lxX (.agg [vI _ _,.own _]) Z<|lxI Z<|lst (zA 2012 ty.ze27 rfl) Z<|lst (zA 2013 ty.ze34 rfl) Z<|lst (zB 2012 ty.co27 ty.inf27 rfl) Z<|lst (zB 2013 ty.co34 ty.inf34 rfl) Z<|laI Z<|nA<|lmO Z<|lmI Z<|lst (zS 2036 (rowsOf encKey [applyC (allS x (es.take k)).now es[k]]) ty.el50 ty.ze3 rfl) Z<|lst (zP 15 ty.el50 ty.ze3 ty.by3 rfl (Src.own rfl rfl) (by simp [rowsOf,rowsV_len hvl];omega)) Z<|laO Z<|nG<|aS<|sL<|lmI Z<|lbB Z<|nG ?_
   refine AW.cond rfl ?_ ?_
   ·intro h3
    refine aE<|eT<|eB<|gT ?_
    have hc0 : applyC (allS x (es.take k)).now es[k] ≠ 0 := by simpa using h3
    refine AW.unpin 1 rfl ?_
    refine AW.unpin 2 rfl ?_
    refine AW.unpin 3 rfl ?_
    refine aTt (famP vs (allS x (es.take k)).ps) [4,5,6,7,8,9,21,22,23] [1,2,3,14,15,2002,2004,2007,2011,2012,2013,2036] ?_
    refine aL<|lgI Z<|lmI Z<|nG ?_
    have hn : (allF (allS x (es.take k)) es[k]).now = (allS x (es.take k)).now := allF_no hc0
    have hp : (allF (allS x (es.take k)) es[k]).ps = (allS x (es.take k)).ps := allF_ps1 hc0
    refine ⟨(k + 1,vs),⟨hk,(by rw [allS_succ hk,hp];exact hvl)⟩,by show es.length - (k + 1) < es.length - k;omega,⟨(iq rfl),trivial⟩,⟨(Eq.trans (congrArg bBox hn.symm) (congrArg (fun s : AllS => bBox s.now) (allS_succ hk).symm)),(Eq.trans (congrArg (fun b : Book => AO.arr 40 7 (rowsOf encChan b.chans)) hn.symm) (congrArg (fun s : AllS => AO.arr 40 7 (rowsOf encChan s.now.chans)) (allS_succ hk).symm)),(Eq.trans (congrArg (fun b : Book => hAr b.htlcs) hn.symm) (congrArg (fun s : AllS => hAr s.now.htlcs) (allS_succ hk).symm)),(Eq.trans (congrArg (fun b : Book => iAr b.circles) hn.symm) (congrArg (fun s : AllS => iAr s.now.circles) (allS_succ hk).symm)),(Eq.trans (congrArg (fun p => AO.arr 34 2 (rowsV vs p)) hp.symm) (congrArg (fun s : AllS => AO.arr 34 2 (rowsV vs s.ps)) (allS_succ hk).symm)),(Eq.trans (Eq.trans (b := nAr ((allS x (es.take k)).codes ++ [applyC (allS x (es.take k)).now es[k]])) (congrArg (AO.arr 3 1) (rowsOf_app encKey _ [_]).symm) rfl) (congrArg (fun s : AllS => nAr s.codes) (allS_succ hk).symm)),trivial⟩,⟨rfl,rfl,rfl,rfl,rfl,rfl,rfl,rfl,trivial⟩,⟨rfl,rfl,trivial⟩,(by rw [allS_succ hk,hp];exact tlp)⟩
   ·intro h3
    refine aK<|gA<|loX (.agg [vI _ _,vI _ _,vI _ _,.own _,.own _,.own _]) ty.kd27 Z<|lst (zB 2007 ty.co27 ty.inf27 Z) Z<|nA<|lf 1 ty.F34_1 Z<|loO ty.kd32 Z<|lnI ty.sl32 Z<|lbB Z<|nG ?_
    refine AW.cond rfl ?_ ?_
    ·intro h4
     refine aTt (famP vs (allS x (es.take k)).ps) [4,5,6,7,8,9,13,21,22,23] [1,2,3,14,15,61,62,63,64,2002,2004,2007,2011,2012,2013,2036] ?_
     refine AW.pinA 64 rfl ?_
     intro u64
     refine aTt (famP vs (allS x (es.take k)).ps) [4,5,6,7,8,9,13,21,22,23] [1,2,3,14,15,61,62,63,64,2002,2004,2007,2011,2012,2013,2036] ?_
     refine AW.absorb 64 rfl rfl famP_row ?_
     have hrf : rowF (famP vs (allS x (es.take k)).ps ++ [.arr ⟨120,some u64⟩ 3 (rowsOf encLine (appP (allS x (es.take k)).now es[k]).lines)]) := famP_row.app (fun o ho => by rw [List.mem_singleton.1 ho];rfl)
     refine aL<|lmO Z<|loX (.agg [vI _ _,vV _]) ty.kd34 Z<|lst (zS 2047 [[.v (.int .i64 (appP (allS x (es.take k)).now es[k]).id),.v u64]] ty.el49 ty.ze34 rfl (by intro r hr;simp at hr;subst hr;rfl)) Z<|lst (zP 14 ty.el49 ty.ze34 ty.by34 rfl (Src.own rfl rfl) (by simp [rowsOf,rowsV_len hvl];omega)) Z<|laO Z<|lN<|gB<|gT ?_
     have hc0 : applyC (allS x (es.take k)).now es[k] = 0 := by simpa using h3
     refine AW.swap 61 1 ?_
     refine aTt ((famP vs (allS x (es.take k)).ps ++ [.arr ⟨120,some u64⟩ 3 (rowsOf encLine (appP (allS x (es.take k)).now es[k]).lines)])) [4,5,6,7,8,9,21,22,23] [1,2,3,14,15,61,62,63,2002,2004,2007,2011,2012,2013,2036,2047] ?_
     refine AW.swap 62 2 ?_
     refine aTt ((famP vs (allS x (es.take k)).ps ++ [.arr ⟨120,some u64⟩ 3 (rowsOf encLine (appP (allS x (es.take k)).now es[k]).lines)])) [4,5,6,7,8,9,21,22,23] [1,2,3,14,15,61,62,63,2002,2004,2007,2011,2012,2013,2036,2047] ?_
     refine AW.swap 63 3 ?_
     refine aTt ((famP vs (allS x (es.take k)).ps ++ [.arr ⟨120,some u64⟩ 3 (rowsOf encLine (appP (allS x (es.take k)).now es[k]).lines)])) [4,5,6,7,8,9,21,22,23] [1,2,3,14,15,61,62,63,2002,2004,2007,2011,2012,2013,2036,2047] ?_
     refine aTt ((famP vs (allS x (es.take k)).ps ++ [.arr ⟨120,some u64⟩ 3 (rowsOf encLine (appP (allS x (es.take k)).now es[k]).lines)])) [4,5,6,7,8,9,21,22,23] [1,2,3,14,15,2002,2004,2007,2011,2012,2013,2036,2047] ?_
     refine aL<|lgI Z<|lmI Z<|nG ?_
     have hn : (allF (allS x (es.take k)) es[k]).now = appB (allS x (es.take k)).now es[k] := allF_ok hc0
     have hl0 : (appP (allS x (es.take k)).now es[k]).lines ≠ [] := fun q => by have h := h4;rw [q] at h;simp [rowsOf] at h
     have hp : (allF (allS x (es.take k)) es[k]).ps = (allS x (es.take k)).ps ++ [appP (allS x (es.take k)).now es[k]] := allF_ps hc0 hl0
     refine ⟨(k + 1,vs ++ [u64]),⟨hk,(by rw [allS_succ hk,hp];simp;omega)⟩,by show es.length - (k + 1) < es.length - k;omega,⟨(iq rfl),trivial⟩,⟨(Eq.trans (congrArg bBox hn.symm) (congrArg (fun s : AllS => bBox s.now) (allS_succ hk).symm)),(Eq.trans (congrArg (fun b : Book => AO.arr 40 7 (rowsOf encChan b.chans)) hn.symm) (congrArg (fun s : AllS => AO.arr 40 7 (rowsOf encChan s.now.chans)) (allS_succ hk).symm)),(Eq.trans (congrArg (fun b : Book => hAr b.htlcs) hn.symm) (congrArg (fun s : AllS => hAr s.now.htlcs) (allS_succ hk).symm)),(Eq.trans (congrArg (fun b : Book => iAr b.circles) hn.symm) (congrArg (fun s : AllS => iAr s.now.circles) (allS_succ hk).symm)),(Eq.trans (congrArg (AO.arr 34 2) (show _ = rowsV (vs ++ [u64]) (allF (allS x (es.take k)) es[k]).ps by rw [hp,rowsV_app hvl])) (congrArg (fun s : AllS => AO.arr 34 2 (rowsV (vs ++ [u64]) s.ps)) (allS_succ hk).symm)),(Eq.trans (Eq.trans (b := nAr ((allS x (es.take k)).codes ++ [applyC (allS x (es.take k)).now es[k]])) (congrArg (AO.arr 3 1) (rowsOf_app encKey _ [_]).symm) rfl) (congrArg (fun s : AllS => nAr s.codes) (allS_succ hk).symm)),trivial⟩,⟨rfl,rfl,rfl,rfl,rfl,rfl,rfl,rfl,trivial⟩,⟨rfl,rfl,trivial⟩,(by rw [allS_succ hk,hp,famP_app hvl];exact tlp)⟩
    ·intro h4
     refine aK<|gB<|gT ?_
     have hc0 : applyC (allS x (es.take k)).now es[k] = 0 := by simpa using h3
     refine AW.swap 61 1 ?_
     refine aTt (famP vs (allS x (es.take k)).ps) [4,5,6,7,8,9,21,22,23] [1,2,3,14,15,61,62,63,64,2002,2004,2007,2011,2012,2013,2036] ?_
     refine AW.swap 62 2 ?_
     refine aTt (famP vs (allS x (es.take k)).ps) [4,5,6,7,8,9,21,22,23] [1,2,3,14,15,61,62,63,64,2002,2004,2007,2011,2012,2013,2036] ?_
     refine AW.swap 63 3 ?_
     refine aTt (famP vs (allS x (es.take k)).ps) [4,5,6,7,8,9,21,22,23] [1,2,3,14,15,61,62,63,64,2002,2004,2007,2011,2012,2013,2036] ?_
     refine aTt (famP vs (allS x (es.take k)).ps) [4,5,6,7,8,9,21,22,23] [1,2,3,14,15,2002,2004,2007,2011,2012,2013,2036] ?_
     refine aL<|lgI Z<|lmI Z<|nG ?_
     have hn : (allF (allS x (es.take k)) es[k]).now = appB (allS x (es.take k)).now es[k] := allF_ok hc0
     have hl0 : (appP (allS x (es.take k)).now es[k]).lines = [] := List.length_eq_zero_iff.1 (by have h := h4;simp only [length_rowsOf,decide_eq_false_iff_not] at h;omega)
     have hp : (allF (allS x (es.take k)) es[k]).ps = (allS x (es.take k)).ps := allF_ps2 hl0
     refine ⟨(k + 1,vs),⟨hk,(by rw [allS_succ hk,hp];exact hvl)⟩,by show es.length - (k + 1) < es.length - k;omega,⟨(iq rfl),trivial⟩,⟨(Eq.trans (congrArg bBox hn.symm) (congrArg (fun s : AllS => bBox s.now) (allS_succ hk).symm)),(Eq.trans (congrArg (fun b : Book => AO.arr 40 7 (rowsOf encChan b.chans)) hn.symm) (congrArg (fun s : AllS => AO.arr 40 7 (rowsOf encChan s.now.chans)) (allS_succ hk).symm)),(Eq.trans (congrArg (fun b : Book => hAr b.htlcs) hn.symm) (congrArg (fun s : AllS => hAr s.now.htlcs) (allS_succ hk).symm)),(Eq.trans (congrArg (fun b : Book => iAr b.circles) hn.symm) (congrArg (fun s : AllS => iAr s.now.circles) (allS_succ hk).symm)),(Eq.trans (congrArg (fun p => AO.arr 34 2 (rowsV vs p)) hp.symm) (congrArg (fun s : AllS => AO.arr 34 2 (rowsV vs s.ps)) (allS_succ hk).symm)),(Eq.trans (Eq.trans (b := nAr ((allS x (es.take k)).codes ++ [applyC (allS x (es.take k)).now es[k]])) (congrArg (AO.arr 3 1) (rowsOf_app encKey _ [_]).symm) rfl) (congrArg (fun s : AllS => nAr s.codes) (allS_succ hk).symm)),trivial⟩,⟨rfl,rfl,rfl,rfl,rfl,rfl,rfl,rfl,trivial⟩,⟨rfl,rfl,trivial⟩,(by rw [allS_succ hk,hp];exact tlp)⟩
  ·intro h2
   refine aE<|eT<|eT<|eB<|gA<|loX (.agg [vI _ _,vI _ _,vI _ _,.own _,.own _,.own _]) ty.kd27 Z<|lmO Z<|lmO Z<|lst (zB 2004 ty.co27 ty.inf27 Z) Z<|laO Z<|laO Z<|nG<|aR ?_
   have hke : k = es.length := by have h := h2;simp only [length_rowsOf,decide_eq_false_iff_not] at h;omega
   subst hke
   rw [allA_ok hbk]
   rw [List.take_length] at hvl hfr
   have hlp := allS_ps (x := x) (es := es) es.length (Nat.le_refl _)
   rw [List.take_length] at hlp ⊢
   refine end_nret (F1 := (famP vs (allS x es).ps)) (allV (allS x es)) (allOb (allS x es) vs) ?_ (by rw [famP_len hvl];omega) rfl rfl ⟨rfl,rfl,rfl,rfl,rfl,trivial⟩ tlp
   exact ⟨vs,hvl,rfl,rfl,rfl⟩
theorem sapplyAll_e (x : Book) (es : List Event) (hw : BookWf x) (we : ∀ e ∈ es,wfEvent e) (hm : es.length ≤ 1048576) : GN Tryz.prog 87 [bookV x,.p (.lst 29 7 (rowsOf encEvent es))] [] ([]) (allRel (allA x es)) := by
 refine GN.intro (rs := [.cell 4 27 (some 6),.tmp 5,.tmp 6]) Tryz.func87 rfl Tryz.ntmps87 (Nat.le_of_ble_eq_true rfl) ⟨rfl,rfl,ty.kd27,rfl,rfl,trivial⟩ rfl ?_
 intro L O w0
 refine sL<|lst (zX 2002 Z) Z<|lst (zA 2004 ty.ze27 Z) Z<|laV Z<|laV Z<|nG<|aS<|sL<|loX (.agg [vI _ _,vI _ _,vI _ _,vL _ _ _,vL _ _ _,vL _ _ _]) ty.kd27 Z<|lst (zL Tryz.func22 (spec_BookOk_e x hw) Z) Z<|luB Z<|nG ?_
 refine AW.cond rfl ?_ ?_
 ·intro h1
  refine sL<|lq (rd (x := .agg [vI _ _,vI _ _,vI _ _,vV _,vV _,vV _]) (rd_build Z ty.sa27 Z Z Z) Z)<|lst (zB 2004 ty.co27 ty.inf27 Z) Z<|laV Z<|laV Z<|nG ?_
  refine AW.adoptB 1 2004 3 40 7 rfl (by decide) rfl ?_
  refine AW.adoptB 2 2004 4 68 7 rfl (by decide) rfl ?_
  refine AW.adoptB 3 2004 5 78 5 rfl (by decide) rfl ?_
  refine AW.adoptT 14 5 34 2 rfl ?_
  refine AW.adoptT 15 6 3 1 rfl ?_
  refine aR<|rT ?_
  have hbk : bookOk x = false := by simpa using h1
  rw [allA_no hbk]
  refine end_nret (F1 := []) (allV ⟨zeroBook,[],[]⟩) (allOb ⟨zeroBook,[],[]⟩ []) ?_ (by simp) rfl rfl ⟨rfl,rfl,rfl,rfl,rfl,trivial⟩ tlp
  exact ⟨[],rfl,rfl,rfl,rfl⟩
 ·intro h1
  refine aK<|gT<|aS ?_
  have hbk : bookOk x = true := by simpa using h1
  have fi := bookOk_fi hbk
  have sm := fi.sm
  have hw0 := allS_wf hw we
  refine aL<|loX (.agg [vI _ _,vI _ _,vI _ _,vL _ _ _,vL _ _ _,vL _ _ _]) ty.kd27 Z<|lst (zC [(2003,1),(2008,2),(2013,3)] [1,2,3] [] Tryz.func50 (scopy_e x (by have := sm.lc;have := sm.lh;have := sm.li;omega)) (trivial) rfl rfl) Z<|lst (zA 2007 ty.ze27 rfl) rfl ?_
  refine lTt ([]) [1,4,5,6,7,20] [1,2,3,2002,2004,2007] ?_
  refine lst (zB 2007 ty.co27 ty.inf27 rfl) Z<|nA<|lst (zS 14 [] ty.el49 ty.ze34 rfl (by simp)) Z<|laO Z<|nA<|lst (zS 15 [] ty.el50 ty.ze3 rfl (by simp)) Z<|laO Z<|nG<|aS<|sL<|lmL Z<|lnI ty.sl44 Z<|lmI Z<|nG<|aB ?_
  refine AW.loopT (D := Nat × List Value) [(4,.ptr 2004 _ 0),(5,vV _),(6,vV _),(7,.ptr 2007 _ 0),(8,.own _),(9,.own _),(23,vL _ _ _),(24,vI _ _)] [(2002,.box _ _ [vI _ _,vI _ _,vI _ _,vL _ _ _,vL _ _ _,vL _ _ _]),(2004,.box _ _ [vI _ _,vI _ _,vI _ _,vV _,vV _,vV _])] (fun d => [(25,int (d.1 : Int))]) (fun d => [(2007,bBox (allS x (es.take d.1)).now),(1,.arr 40 7 (rowsOf encChan (allS x (es.take d.1)).now.chans)),(2,hAr (allS x (es.take d.1)).now.htlcs),(3,iAr (allS x (es.take d.1)).now.circles),(14,.arr 34 2 (rowsV d.2 (allS x (es.take d.1)).ps)),(15,nAr (allS x (es.take d.1)).codes)]) (fun d => famP d.2 (allS x (es.take d.1)).ps) (fun d => d.1 ≤ es.length ∧ d.2.length = (allS x (es.take d.1)).ps.length) (fun d => es.length - d.1) ((0,[])) (⟨Nat.zero_le _,by rw [List.take_zero];rfl⟩) ⟨rfl,trivial⟩ ⟨(by rw [List.take_zero];rfl),(by rw [List.take_zero];rfl),(by rw [List.take_zero];rfl),(by rw [List.take_zero];rfl),(by rw [List.take_zero];rfl),(by rw [List.take_zero];rfl),trivial⟩ ⟨rfl,rfl,rfl,rfl,rfl,rfl,rfl,rfl,trivial⟩ ⟨rfl,rfl,trivial⟩ (by rw [List.take_zero];exact tlp) ?_
  intro ⟨k,vs⟩ hI
  obtain ⟨hkl,hvl⟩ := hI
  replace hkl : k ≤ es.length := hkl
  replace hvl : vs.length = (allS x (es.take k)).ps.length := hvl
  have hfr : rowF (famP vs (allS x (es.take k)).ps) := famP_row
  refine sL<|lbB Z<|nG<|aS ?_
  refine AW.cond rfl ?_ ?_
  ·intro h2
   refine aK<|gT<|aS<|aB<|sL ?_
   have hk : k < es.length := by simpa [length_rowsOf] using h2
   have hwk := hw0 k hkl
   have hlc := allS_codes (x := x) k hkl
   have hlp := allS_ps (x := x) k hkl
   refine li k ty.el44 Z (row_map hk)<|lrX (.agg [vI _ _,vI _ _,vI _ _,vI _ _,vI _ _,vI _ _,vB _]) ty.kd29 Z<|lst (zA 2011 ty.ze29 Z) Z<|lst (zB 2011 ty.co29 ty.inf29 Z) Z<|nG<|aS ?_
   refine AW.pinA 1 rfl ?_
   intro u1
   refine AW.pinA 2 rfl ?_
   intro u2
   refine AW.pinA 3 rfl ?_
   intro u3
   refine aL<|loX (.agg [vI _ _,vI _ _,vI _ _,.own _,.own _,.own _]) ty.kd27 Z<|loX (.agg [vI _ _,vI _ _,vI _ _,vI _ _,vI _ _,vI _ _,vB _]) ty.kd29 Z ?_
   refine lst (zC [(1,1),(2,2),(3,3),(11,61),(12,62),(13,63),(14,64)] [61,62,63,64] [1,2,3] Tryz.func10 (lentBk (sapply_g _ es[k] hwk)) (⟨stays.arr rfl,stays.arr rfl,stays.arr rfl,trivial⟩) rfl rfl) rfl ?_
   refine lTt (famP vs (allS x (es.take k)).ps) [4,5,6,7,8,9,23,24,25,32] [1,2,3,14,15,61,62,63,64,2002,2004,2007,2011] ?_
   refine lmX (.tup [.agg [vI _ _,vI _ _,vI _ _,.own _,.own _,.own _],.agg [vI _ _,.own _],vI _ _]) Z<|lxX (.agg [vI _ _,vI _ _,vI _ _,.own _,.own _,.own _]) Z<|lxX (.agg [vI _ _,.own _]) Z<|lxI Z<|lst (zA 2012 ty.ze27 Z) Z<|lst (zA 2013 ty.ze34 Z) Z<|lst (zB 2012 ty.co27 ty.inf27 Z) Z<|lst (zB 2013 ty.co34 ty.inf34 Z) Z<|laI Z<|nG<|aS<|sL<|lmI Z<|lbB Z<|nG ?_
   refine AW.cond rfl ?_ ?_
   ·intro h3
    refine sL<|loX (.agg [vI _ _,vI _ _,vI _ _,.own _,.own _,.own _]) ty.kd27 Z<|lst (zB 2007 ty.co27 ty.inf27 Z) Z<|nA<|lf 0 ty.F34_0 Z<|loI ty.kd3 Z<|lbB Z<|nG ?_
    refine AW.cond rfl ?_ ?_
    ·intro h4
     refine aTt (famP vs (allS x (es.take k)).ps) [4,5,6,7,8,9,13,14,23,24,25] [1,2,3,14,15,61,62,63,64,2002,2004,2007,2011,2012,2013] ?_
     refine AW.pinA 64 rfl ?_
     intro u64
     refine aTt (famP vs (allS x (es.take k)).ps) [4,5,6,7,8,9,13,14,23,24,25] [1,2,3,14,15,61,62,63,64,2002,2004,2007,2011,2012,2013] ?_
     refine AW.absorb 64 rfl rfl famP_row ?_
     have hrf : rowF (famP vs (allS x (es.take k)).ps ++ [.arr ⟨120,some u64⟩ 3 (rowsOf encLine (appP (allS x (es.take k)).now es[k]).lines)]) := famP_row.app (fun o ho => by rw [List.mem_singleton.1 ho];rfl)
     refine aL<|lmO Z<|loX (.agg [vI _ _,vV _]) ty.kd34 Z<|lst (zS 2044 [[.v (.int .i64 (appP (allS x (es.take k)).now es[k]).id),.v u64]] ty.el49 ty.ze34 rfl (by intro r hr;simp at hr;subst hr;rfl)) Z<|lst (zP 14 ty.el49 ty.ze34 ty.by34 rfl (Src.own rfl rfl) (by simp [rowsOf,rowsV_len hvl];omega)) Z<|laO Z<|nG<|aL<|lmO Z<|lmI Z<|lst (zS 2048 (rowsOf encKey [applyC (allS x (es.take k)).now es[k]]) ty.el50 ty.ze3 rfl) Z<|lst (zP 15 ty.el50 ty.ze3 ty.by3 rfl (Src.own rfl rfl) (by simp [rowsOf,rowsV_len hvl];omega)) Z<|laO Z<|lN<|gB<|gT ?_
     have hc0 : applyC (allS x (es.take k)).now es[k] = 0 := by simpa using h3
     refine AW.swap 61 1 ?_
     refine aTt ((famP vs (allS x (es.take k)).ps ++ [.arr ⟨120,some u64⟩ 3 (rowsOf encLine (appP (allS x (es.take k)).now es[k]).lines)])) [4,5,6,7,8,9,23,24,25] [1,2,3,14,15,61,62,63,2002,2004,2007,2011,2012,2013,2044,2048] ?_
     refine AW.swap 62 2 ?_
     refine aTt ((famP vs (allS x (es.take k)).ps ++ [.arr ⟨120,some u64⟩ 3 (rowsOf encLine (appP (allS x (es.take k)).now es[k]).lines)])) [4,5,6,7,8,9,23,24,25] [1,2,3,14,15,61,62,63,2002,2004,2007,2011,2012,2013,2044,2048] ?_
     refine AW.swap 63 3 ?_
     refine aTt ((famP vs (allS x (es.take k)).ps ++ [.arr ⟨120,some u64⟩ 3 (rowsOf encLine (appP (allS x (es.take k)).now es[k]).lines)])) [4,5,6,7,8,9,23,24,25] [1,2,3,14,15,61,62,63,2002,2004,2007,2011,2012,2013,2044,2048] ?_
     refine aTt ((famP vs (allS x (es.take k)).ps ++ [.arr ⟨120,some u64⟩ 3 (rowsOf encLine (appP (allS x (es.take k)).now es[k]).lines)])) [4,5,6,7,8,9,23,24,25] [1,2,3,14,15,2002,2004,2007,2011,2012,2013,2044,2048] ?_
     refine aL<|lgI Z<|lmI Z<|nG ?_
     have hn : (allF (allS x (es.take k)) es[k]).now = appB (allS x (es.take k)).now es[k] := allF_ok hc0
     have hid := appP_id hc0
     have hl0 : (appP (allS x (es.take k)).now es[k]).lines ≠ [] := by have h := h4;rw [hid] at h;simpa using h
     have hp : (allF (allS x (es.take k)) es[k]).ps = (allS x (es.take k)).ps ++ [appP (allS x (es.take k)).now es[k]] := allF_ps hc0 hl0
     refine ⟨(k + 1,vs ++ [u64]),⟨hk,(by rw [allS_succ hk,hp];simp;omega)⟩,by show es.length - (k + 1) < es.length - k;omega,⟨(iq rfl),trivial⟩,⟨(Eq.trans (congrArg bBox hn.symm) (congrArg (fun s : AllS => bBox s.now) (allS_succ hk).symm)),(Eq.trans (congrArg (fun b : Book => AO.arr 40 7 (rowsOf encChan b.chans)) hn.symm) (congrArg (fun s : AllS => AO.arr 40 7 (rowsOf encChan s.now.chans)) (allS_succ hk).symm)),(Eq.trans (congrArg (fun b : Book => hAr b.htlcs) hn.symm) (congrArg (fun s : AllS => hAr s.now.htlcs) (allS_succ hk).symm)),(Eq.trans (congrArg (fun b : Book => iAr b.circles) hn.symm) (congrArg (fun s : AllS => iAr s.now.circles) (allS_succ hk).symm)),(Eq.trans (congrArg (AO.arr 34 2) (show _ = rowsV (vs ++ [u64]) (allF (allS x (es.take k)) es[k]).ps by rw [hp,rowsV_app hvl])) (congrArg (fun s : AllS => AO.arr 34 2 (rowsV (vs ++ [u64]) s.ps)) (allS_succ hk).symm)),(Eq.trans (Eq.trans (b := nAr ((allS x (es.take k)).codes ++ [applyC (allS x (es.take k)).now es[k]])) (congrArg (AO.arr 3 1) (rowsOf_app encKey _ [_]).symm) rfl) (congrArg (fun s : AllS => nAr s.codes) (allS_succ hk).symm)),trivial⟩,⟨rfl,rfl,rfl,rfl,rfl,rfl,rfl,rfl,trivial⟩,⟨rfl,rfl,trivial⟩,(by rw [allS_succ hk,hp,famP_app hvl];exact tlp)⟩
    ·intro h4
     refine aK<|gT<|aL<|lmO Z<|lmI Z<|lst (zS 2048 (rowsOf encKey [applyC (allS x (es.take k)).now es[k]]) ty.el50 ty.ze3 rfl) Z<|lst (zP 15 ty.el50 ty.ze3 ty.by3 rfl (Src.own rfl rfl) (by simp [rowsOf,rowsV_len hvl];omega)) Z<|laO Z<|lN<|gB<|gT ?_
     have hc0 : applyC (allS x (es.take k)).now es[k] = 0 := by simpa using h3
     refine AW.swap 61 1 ?_
     refine aTt (famP vs (allS x (es.take k)).ps) [4,5,6,7,8,9,23,24,25] [1,2,3,14,15,61,62,63,64,2002,2004,2007,2011,2012,2013,2048] ?_
     refine AW.swap 62 2 ?_
     refine aTt (famP vs (allS x (es.take k)).ps) [4,5,6,7,8,9,23,24,25] [1,2,3,14,15,61,62,63,64,2002,2004,2007,2011,2012,2013,2048] ?_
     refine AW.swap 63 3 ?_
     refine aTt (famP vs (allS x (es.take k)).ps) [4,5,6,7,8,9,23,24,25] [1,2,3,14,15,61,62,63,64,2002,2004,2007,2011,2012,2013,2048] ?_
     refine aTt (famP vs (allS x (es.take k)).ps) [4,5,6,7,8,9,23,24,25] [1,2,3,14,15,2002,2004,2007,2011,2012,2013,2048] ?_
     refine aL<|lgI Z<|lmI Z<|nG ?_
     have hn : (allF (allS x (es.take k)) es[k]).now = appB (allS x (es.take k)).now es[k] := allF_ok hc0
     have hid := appP_id hc0
     have hl0 : (appP (allS x (es.take k)).now es[k]).lines = [] := by have h := h4;rw [hid] at h;simpa using h
     have hp : (allF (allS x (es.take k)) es[k]).ps = (allS x (es.take k)).ps := allF_ps2 hl0
     refine ⟨(k + 1,vs),⟨hk,(by rw [allS_succ hk,hp];exact hvl)⟩,by show es.length - (k + 1) < es.length - k;omega,⟨(iq rfl),trivial⟩,⟨(Eq.trans (congrArg bBox hn.symm) (congrArg (fun s : AllS => bBox s.now) (allS_succ hk).symm)),(Eq.trans (congrArg (fun b : Book => AO.arr 40 7 (rowsOf encChan b.chans)) hn.symm) (congrArg (fun s : AllS => AO.arr 40 7 (rowsOf encChan s.now.chans)) (allS_succ hk).symm)),(Eq.trans (congrArg (fun b : Book => hAr b.htlcs) hn.symm) (congrArg (fun s : AllS => hAr s.now.htlcs) (allS_succ hk).symm)),(Eq.trans (congrArg (fun b : Book => iAr b.circles) hn.symm) (congrArg (fun s : AllS => iAr s.now.circles) (allS_succ hk).symm)),(Eq.trans (congrArg (fun p => AO.arr 34 2 (rowsV vs p)) hp.symm) (congrArg (fun s : AllS => AO.arr 34 2 (rowsV vs s.ps)) (allS_succ hk).symm)),(Eq.trans (Eq.trans (b := nAr ((allS x (es.take k)).codes ++ [applyC (allS x (es.take k)).now es[k]])) (congrArg (AO.arr 3 1) (rowsOf_app encKey _ [_]).symm) rfl) (congrArg (fun s : AllS => nAr s.codes) (allS_succ hk).symm)),trivial⟩,⟨rfl,rfl,rfl,rfl,rfl,rfl,rfl,rfl,trivial⟩,⟨rfl,rfl,trivial⟩,(by rw [allS_succ hk,hp];exact tlp)⟩
   ·intro h3
    refine aK<|gT<|aL<|lmO Z<|lmI Z<|lst (zS 2048 (rowsOf encKey [applyC (allS x (es.take k)).now es[k]]) ty.el50 ty.ze3 rfl) Z<|lst (zP 15 ty.el50 ty.ze3 ty.by3 rfl (Src.own rfl rfl) (by simp [rowsOf,rowsV_len hvl];omega)) Z<|laO Z<|lN<|gB<|gT ?_
    have hc0 : applyC (allS x (es.take k)).now es[k] ≠ 0 := by simpa using h3
    refine AW.unpin 1 rfl ?_
    refine AW.unpin 2 rfl ?_
    refine AW.unpin 3 rfl ?_
    refine aTt (famP vs (allS x (es.take k)).ps) [4,5,6,7,8,9,23,24,25] [1,2,3,14,15,2002,2004,2007,2011,2012,2013,2048] ?_
    refine aL<|lgI Z<|lmI Z<|nG ?_
    have hn : (allF (allS x (es.take k)) es[k]).now = (allS x (es.take k)).now := allF_no hc0
    have hp : (allF (allS x (es.take k)) es[k]).ps = (allS x (es.take k)).ps := allF_ps1 hc0
    refine ⟨(k + 1,vs),⟨hk,(by rw [allS_succ hk,hp];exact hvl)⟩,by show es.length - (k + 1) < es.length - k;omega,⟨(iq rfl),trivial⟩,⟨(Eq.trans (congrArg bBox hn.symm) (congrArg (fun s : AllS => bBox s.now) (allS_succ hk).symm)),(Eq.trans (congrArg (fun b : Book => AO.arr 40 7 (rowsOf encChan b.chans)) hn.symm) (congrArg (fun s : AllS => AO.arr 40 7 (rowsOf encChan s.now.chans)) (allS_succ hk).symm)),(Eq.trans (congrArg (fun b : Book => hAr b.htlcs) hn.symm) (congrArg (fun s : AllS => hAr s.now.htlcs) (allS_succ hk).symm)),(Eq.trans (congrArg (fun b : Book => iAr b.circles) hn.symm) (congrArg (fun s : AllS => iAr s.now.circles) (allS_succ hk).symm)),(Eq.trans (congrArg (fun p => AO.arr 34 2 (rowsV vs p)) hp.symm) (congrArg (fun s : AllS => AO.arr 34 2 (rowsV vs s.ps)) (allS_succ hk).symm)),(Eq.trans (Eq.trans (b := nAr ((allS x (es.take k)).codes ++ [applyC (allS x (es.take k)).now es[k]])) (congrArg (AO.arr 3 1) (rowsOf_app encKey _ [_]).symm) rfl) (congrArg (fun s : AllS => nAr s.codes) (allS_succ hk).symm)),trivial⟩,⟨rfl,rfl,rfl,rfl,rfl,rfl,rfl,rfl,trivial⟩,⟨rfl,rfl,trivial⟩,(by rw [allS_succ hk,hp];exact tlp)⟩
  ·intro h2
   refine aE<|eT<|eT<|eB<|gA<|loX (.agg [vI _ _,vI _ _,vI _ _,.own _,.own _,.own _]) ty.kd27 Z<|lmO Z<|lmO Z<|lst (zB 2004 ty.co27 ty.inf27 Z) Z<|laO Z<|laO Z<|nG<|aR ?_
   have hke : k = es.length := by have h := h2;simp only [length_rowsOf,decide_eq_false_iff_not] at h;omega
   subst hke
   rw [allA_ok hbk]
   rw [List.take_length] at hvl hfr
   have hlp := allS_ps (x := x) (es := es) es.length (Nat.le_refl _)
   rw [List.take_length] at hlp ⊢
   refine end_nret (F1 := (famP vs (allS x es).ps)) (allV (allS x es)) (allOb (allS x es) vs) ?_ (by rw [famP_len hvl];omega) rfl rfl ⟨rfl,rfl,rfl,rfl,rfl,trivial⟩ tlp
   exact ⟨vs,hvl,rfl,rfl,rfl⟩

def Amt (n : Int) : Prop := 0 ≤ n ∧ n ≤ 1125899906842624
def There (l : List Chan) (ch : Int) : Prop := ∃ c ∈ l,c.id = ch
structure COk (c : Chan) : Prop where
 id : 1 ≤ c.id ∧ c.id ≤ 99
 loc : Amt c.loc
 remote : Amt c.remote
 base : Amt c.base
 ppm : 0 ≤ c.ppm ∧ c.ppm ≤ 1000000
 score : -100 ≤ c.score ∧ c.score ≤ 100
 size : Amt c.size
structure HOk (l : List Chan) (h : Htlc) : Prop where
 inn : Amt h.amtIn
 out : 1 ≤ h.amtOut ∧ h.amtOut ≤ h.amtIn
 age : Amt h.age
 ne : h.inn ≠ h.out
 ti : There l h.inn
 to : There l h.out
structure IOk (l : List Chan) (h : Circle) : Prop where
 amt : 1 ≤ h.amt ∧ h.amt ≤ 1125899906842624
 fee : Amt h.fee
 ne : h.frm ≠ h.to
 ti : There l h.frm
 to : There l h.to
structure BOk (x : Book) : Prop where
 tick : Amt x.tick
 wallet : Amt x.wallet
 next : 1 ≤ x.next ∧ x.next ≤ 1125899906842624
 lc : x.chans.length ≤ 20
 lh : x.htlcs.length ≤ 60
 li : x.circles.length ≤ 20
 hs : ∀ h ∈ x.htlcs,HOk x.chans h
 cs : ∀ h ∈ x.circles,IOk x.chans h
 kr : ∀ k ∈ keysOf x,1 ≤ k ∧ k ≤ 1000000
 kn : (keysOf x).Pairwise (· ≠ ·)
 asc : x.chans.Pairwise fun a b => a.id < b.id
 ch : ∀ c ∈ x.chans,COk c
 sum : ∀ c ∈ x.chans,c.size = c.loc + c.remote + outOf x c.id + intoOf x c.id
theorem there_at {l : List Chan} {ch : Int} : 0 ≤ chanAt l ch ↔ There l ch := by
 constructor
 ·intro h
  obtain ⟨i,c,_,q,_,r⟩ := chan_there h
  exact ⟨c,mem_of_get q,r⟩
 ·rintro ⟨c,hc,rfl⟩
  rcases chan_find l c.id with ⟨q,_⟩ | ⟨i,d,q,_⟩
  ·exact absurd rfl (no_chan q c hc)
  ·omega
theorem two_iff {l : List Chan} {a b : Int} : two l a b = true ↔ a ≠ b ∧ There l a ∧ There l b := by
 unfold two
 simp only [Bool.and_eq_true,Bool.not_eq_true',beq_eq_false_iff_ne,decide_eq_true_eq,there_at]
 constructor
 ·rintro ⟨⟨h1,h2⟩,h3⟩;exact ⟨h1,h2,h3⟩
 ·rintro ⟨h1,h2,h3⟩;exact ⟨⟨h1,h2⟩,h3⟩
theorem keysOk_iff {ks : List Int} : keysOk ks = true ↔ (∀ k ∈ ks,1 ≤ k ∧ k ≤ 1000000) ∧ ks.Pairwise (· ≠ ·) := by
 constructor
 ·intro h
  refine ⟨fun k hk => ?_,keys_pair h⟩
  obtain ⟨j,hj,rfl⟩ := List.getElem_of_mem hk
  have := List.all_eq_true.1 h j (by simpa using hj)
  unfold keyAt at this
  rw [Bool.and_eq_true] at this
  have h1 := this.1
  rw [List.getD_eq_getElem?_getD,List.getElem?_eq_getElem hj] at h1
  exact inB_true.1 h1
 ·rintro ⟨h1,h2⟩
  refine keysOk_yes fun j hj => ?_
  unfold keyAt
  rw [Bool.and_eq_true,List.getD_eq_getElem?_getD,List.getElem?_eq_getElem hj]
  refine ⟨inB_true.2 (h1 _ (List.getElem_mem hj)),?_⟩
  unfold hasI
  simp only [Option.getD_some,Bool.not_eq_true',List.any_eq_false,beq_iff_eq]
  intro y hy e
  obtain ⟨i,hi,rfl⟩ := List.getElem_of_mem hy
  rw [List.length_take] at hi
  rw [List.getElem_take] at e
  exact List.pairwise_iff_getElem.1 h2 i j (by omega) hj (by omega) e
theorem chanOk1_iff {c : Chan} : chanOk1 c = true ↔ COk c := by
 constructor
 ·intro h
  obtain ⟨h1,h2,h3,h4,h5,h6,h7⟩ := chanOk1_parts h
  exact ⟨h1,h2,h3,h4,h5,h6,h7⟩
 ·rintro ⟨h1,h2,h3,h4,h5,h6,h7⟩
  unfold chanOk1 chOk scOk
  simp only [Bool.and_eq_true,amtOk_true,inB_true]
  exact ⟨⟨⟨⟨⟨⟨h1,h2⟩,h3⟩,h4⟩,h5⟩,h6⟩,h7⟩
theorem bOk_of {x : Book} (h : bookOk x = true) : BOk x := by
 obtain ⟨h1,h2,h3,h4,h5,h6⟩ := bookOk_parts h
 obtain ⟨p1,p2,p3,p4,p5⟩ := parts_all h5
 obtain ⟨k1,k2⟩ := keysOk_iff.1 p5
 refine ⟨amtOk_true.1 h1,amtOk_true.1 h2,inB_true.1 h3,h4,p1,p2,fun y hy => ?_,fun y hy => ?_,k1,k2,?_,fun c hc => chanOk1_iff.1 (chan_all h6 hc).1,fun c hc => ?_⟩
 ·obtain ⟨q1,q2,q3,q4,q5⟩ := hOk_iff.1 (p3 y hy)
  obtain ⟨r1,r2,r3⟩ := two_iff.1 q5
  exact ⟨amtOk_true.1 q1,⟨q2,q3⟩,amtOk_true.1 q4,r1,r2,r3⟩
 ·obtain ⟨q1,q2,q3,q5⟩ := cOk_iff.1 (p4 y hy)
  obtain ⟨r1,r2,r3⟩ := two_iff.1 q5
  exact ⟨⟨q2,(amtOk_true.1 q1).2⟩,amtOk_true.1 q3,r1,r2,r3⟩
 ·rw [List.pairwise_iff_getElem]
  intro i j hi hj hij
  exact asc_lt (fun k hk => (chansOk_at h6 hk).2.1) j i hj hij
 ·have := (chan_all h6 hc).2
  unfold chanSum at this
  exact beq_iff_eq.1 this
theorem bOk_to {x : Book} (b : BOk x) : bookOk x = true := by
 unfold bookOk partsOk
 simp only [Bool.and_eq_true,amtOk_true,inB_true,decide_eq_true_eq,List.all_eq_true]
 refine ⟨⟨⟨⟨⟨b.tick,b.wallet⟩,b.next⟩,b.lc⟩,⟨⟨⟨b.lh,b.li⟩,fun y hy => ?_⟩,fun y hy => ?_⟩,keysOk_iff.2 ⟨b.kr,b.kn⟩⟩,chansOk_yes fun j hj => ?_⟩
 ·have q := b.hs y hy
  exact hOk_iff.2 ⟨amtOk_true.2 q.inn,q.out.1,q.out.2,amtOk_true.2 q.age,two_iff.2 ⟨q.ne,q.ti,q.to⟩⟩
 ·have q := b.cs y hy
  have := q.amt
  exact cOk_iff.2 ⟨amtOk_true.2 ⟨by omega,q.amt.2⟩,q.amt.1,amtOk_true.2 q.fee,two_iff.2 ⟨q.ne,q.ti,q.to⟩⟩
 ·unfold chanAtOk
  rw [List.getElem?_eq_getElem hj]
  dsimp only
  have hm := List.getElem_mem hj
  rw [Bool.and_eq_true,Bool.and_eq_true]
  refine ⟨⟨chanOk1_iff.2 (b.ch _ hm),?_⟩,?_⟩
  ·unfold ascAt
   cases j with
   | zero => rfl
   | succ j =>
    dsimp only
    rw [List.getElem?_eq_getElem (by omega : j < x.chans.length),List.getElem?_eq_getElem hj]
    simpa using List.pairwise_iff_getElem.1 b.asc j (j + 1) (by omega) hj (by omega)
  ·unfold chanSum
   exact beq_iff_eq.2 (b.sum _ hm)

theorem tot_cons {α : Type} (f : α → Int) (x : α) (l : List α) : tot f (x :: l) = f x + tot f l := by unfold tot;rw [List.map_cons,List.sum_cons]
theorem tot_snoc {α : Type} (f : α → Int) (l : List α) (x : α) : tot f (l ++ [x]) = tot f l + f x := by unfold tot;rw [List.map_append,List.sum_append];simp
theorem tot_same {α β : Type} {f : α → Int} {g : β → Int} {m : α → β} {l : List α} (h : ∀ x ∈ l,g (m x) = f x) : tot g (l.map m) = tot f l := by
 unfold tot
 rw [List.map_map]
 congr 1
 exact List.map_congr_left h
theorem tot_none {α : Type} {f : α → Int} {l : List α} (h : ∀ x ∈ l,f x = 0) : tot f l = 0 := by
 induction l with
 | nil => rfl
 | cons a l ih => rw [tot_cons,h a (by simp),ih (fun x hx => h x (by simp [hx]))];rfl
theorem tot_filter {α : Type} {g : α → Int} {f : α → Int} {l : List α} (hnd : l.Pairwise fun a b => g a ≠ g b) {h : α} (hm : h ∈ l) : tot f (l.filter fun d => !(g d == g h)) + f h = tot f l := by
 induction l with
 | nil => cases hm
 | cons a l ih =>
  rw [List.pairwise_cons] at hnd
  rcases List.mem_cons.1 hm with rfl | hm'
  ·have e : l.filter (fun d => !(g d == g h)) = l := List.filter_eq_self.2 fun d hd => by
    have := hnd.1 d hd
    simp
    exact fun q => this q.symm
   rw [List.filter_cons_of_neg (by simp),e,tot_cons]
   omega
  ·have := hnd.1 h hm'
   rw [List.filter_cons_of_pos (by simpa using this),tot_cons,tot_cons]
   have := ih hnd.2 hm'
   omega
theorem there_upd {l : List Chan} {a ch : Int} {f : Chan → Chan} (hf : ∀ c,(f c).id = c.id) (h : There l ch) : There (updC l a f) ch := by
 obtain ⟨c,hc,rfl⟩ := h
 refine ⟨_,List.mem_map_of_mem hc,?_⟩
 split <;> simp [hf]
theorem asc_upd {l : List Chan} {a : Int} {f : Chan → Chan} (hf : ∀ c,(f c).id = c.id) (h : l.Pairwise fun a b => a.id < b.id) : (updC l a f).Pairwise fun a b => a.id < b.id := by
 unfold updC
 rw [List.pairwise_map]
 refine h.imp fun {c d} q => ?_
 have e : ∀ c : Chan,(if c.id = a then f c else c).id = c.id := fun c => by split <;> simp [hf]
 rw [e,e];exact q
theorem mem_upd {l : List Chan} {a : Int} {f : Chan → Chan} {c : Chan} (h : c ∈ updC l a f) : ∃ d ∈ l,c = if d.id = a then f d else d := by
 unfold updC at h
 obtain ⟨d,hd,rfl⟩ := List.mem_map.1 h
 exact ⟨d,hd,rfl⟩
theorem BOk.setNext {x : Book} (b : BOk x) {n : Int} (hn : 1 ≤ n ∧ n ≤ 1125899906842624) : BOk { x with next := n } := ⟨b.tick,b.wallet,hn,b.lc,b.lh,b.li,b.hs,b.cs,b.kr,b.kn,b.asc,b.ch,b.sum⟩
theorem BOk.setWallet {x : Book} (b : BOk x) {n : Int} (hn : Amt n) : BOk { x with wallet := n } := ⟨b.tick,hn,b.next,b.lc,b.lh,b.li,b.hs,b.cs,b.kr,b.kn,b.asc,b.ch,b.sum⟩
theorem BOk.parts {x y : Book} (b : BOk x) (ht : Amt y.tick) (hw : Amt y.wallet) (hn : y.next = x.next) (lc : y.chans.length ≤ 20) (lh : y.htlcs.length ≤ 60) (li : y.circles.length ≤ 20) (hs : ∀ h ∈ y.htlcs,HOk y.chans h) (cs : ∀ h ∈ y.circles,IOk y.chans h) (kr : ∀ k ∈ keysOf y,1 ≤ k ∧ k ≤ 1000000) (kn : (keysOf y).Pairwise (· ≠ ·))
 (asc : y.chans.Pairwise fun a b => a.id < b.id) (ch : ∀ c ∈ y.chans,COk c) (sum : ∀ c ∈ y.chans,c.size = c.loc + c.remote + outOf y c.id + intoOf y c.id) : BOk y := ⟨ht,hw,hn ▸ b.next,lc,lh,li,hs,cs,kr,kn,asc,ch,sum⟩
theorem HOk.chans {l l' : List Chan} {h : Htlc} (q : HOk l h) (k : ∀ ch,There l ch → There l' ch) : HOk l' h := ⟨q.inn,q.out,q.age,q.ne,k _ q.ti,k _ q.to⟩
theorem IOk.chans {l l' : List Chan} {h : Circle} (q : IOk l h) (k : ∀ ch,There l ch → There l' ch) : IOk l' h := ⟨q.amt,q.fee,q.ne,k _ q.ti,k _ q.to⟩
theorem bk_dep {x : Book} {e : Event} (b : BOk x) (ho : overB x e = false) (hk : e.kind = 1) (ha : 0 ≤ e.amt) : BOk (depR x e).b := by
 refine b.setWallet ?_
 have hw := b.wallet
 unfold overB at ho
 by_cases hn : x.next = 1125899906842624
 ·rw [if_pos hn] at ho;cases ho
 ·rw [if_neg hn,if_pos hk] at ho
  simp only [decide_eq_false_iff_not] at ho
  unfold Amt at *
  omega
theorem fadeC_id (t : Int) (c : Chan) : (fadeC t c).id = c.id := by unfold fadeC;split <;> rfl
theorem bk_tick {x : Book} (b : BOk x) (ho : x.tick ≠ 1125899906842624) : BOk (tickR x).b := by
 have ht := b.tick
 have key : ∀ ch,There x.chans ch → There (x.chans.map (fadeC x.tick)) ch := fun ch ⟨c,hc,q⟩ => ⟨_,List.mem_map_of_mem hc,by rw [fadeC_id,q]⟩
 have o1 : ∀ ch,tot (hOut ch) (x.htlcs.map ageH) = tot (hOut ch) x.htlcs := fun ch => tot_same fun h _ => rfl
 have o2 : ∀ ch,tot (hIn ch) (x.htlcs.map ageH) = tot (hIn ch) x.htlcs := fun ch => tot_same fun h _ => rfl
 have hks : keysOf (tickR x).b = keysOf x := by
  unfold keysOf tickR
  dsimp only
  rw [List.map_map]
  rfl
 refine b.parts ?_ b.wallet rfl ?_ ?_ b.li ?_ (fun h hh => (b.cs h hh).chans key) ?_ ?_ ?_ ?_ ?_
 ·show Amt (x.tick + 1)
  unfold Amt at *;omega
 ·show (x.chans.map _).length ≤ _
  rw [List.length_map];exact b.lc
 ·show (x.htlcs.map _).length ≤ _
  rw [List.length_map];exact b.lh
 ·intro h hh
  obtain ⟨d,hd,rfl⟩ := List.mem_map.1 hh
  have q := (b.hs d hd).chans key
  refine ⟨q.inn,q.out,?_,q.ne,q.ti,q.to⟩
  have := q.age
  unfold ageH Amt at *
  dsimp only
  omega
 ·rw [hks];exact b.kr
 ·rw [hks];exact b.kn
 ·show (x.chans.map _).Pairwise _
  rw [List.pairwise_map]
  exact b.asc.imp fun {c d} q => by rw [fadeC_id,fadeC_id];exact q
 ·intro c hc
  obtain ⟨d,hd,rfl⟩ := List.mem_map.1 hc
  have q := b.ch d hd
  unfold fadeC
  split
  ·exact ⟨q.id,q.loc,q.remote,q.base,q.ppm,fade_le _,q.size⟩
  ·exact q
 ·intro c hc
  obtain ⟨d,hd,rfl⟩ := List.mem_map.1 hc
  have q := b.sum d hd
  have e : ∀ ch,outOf (tickR x).b ch = outOf x ch ∧ intoOf (tickR x).b ch = intoOf x ch := fun ch => by
   unfold outOf intoOf tickR
   exact ⟨by rw [← o1],by rw [← o2]⟩
  rw [fadeC_id,(e d.id).1,(e d.id).2]
  unfold fadeC
  split <;> exact q
theorem bk_pri {x : Book} {e : Event} (b : BOk x) (ha : Amt e.amt) (hf : 0 ≤ e.fee ∧ e.fee ≤ 1000000) : BOk (priR x e).b := by
 unfold priR
 split
 ·exact b
 ·have hf' : ∀ c : Chan,({ c with base := e.amt,ppm := e.fee } : Chan).id = c.id := fun _ => rfl
  refine b.parts b.tick b.wallet rfl (by show (updC _ _ _).length ≤ _;rw [upd_len];exact b.lc) b.lh b.li (fun h hh => (b.hs h hh).chans fun ch q => there_upd hf' q) (fun h hh => (b.cs h hh).chans fun ch q => there_upd hf' q) b.kr b.kn (asc_upd hf' b.asc) (fun c hc => ?_) (fun c hc => ?_)
  ·obtain ⟨d,hd,rfl⟩ := mem_upd hc
   have q := b.ch d hd
   split
   ·exact ⟨q.id,q.loc,q.remote,ha,hf,q.score,q.size⟩
   ·exact q
  ·obtain ⟨d,hd,rfl⟩ := mem_upd hc
   have q := b.sum d hd
   split <;> exact q
theorem insC_mem {l : List Chan} {c d : Chan} (h : d ∈ l ∨ d = c) : d ∈ insC l c := by
 unfold insC
 simp only [List.mem_append,List.mem_singleton]
 rcases h with h | h
 ·have := List.take_append_drop (posC l c.id) l
  rw [← this,List.mem_append] at h
  rcases h with h | h
  ·exact .inl (.inl h)
  ·exact .inr h
 ·exact .inl (.inr h)
theorem insC_asc {l : List Chan} {c : Chan} (h : l.Pairwise fun a b => a.id < b.id) (hn : ∀ d ∈ l,d.id ≠ c.id) : (insC l c).Pairwise fun a b => a.id < b.id := by
 have hp : posC l c.id ≤ l.length := List.findIdx_le_length
 have h1 : ∀ d ∈ l.take (posC l c.id),d.id < c.id := fun d hd => by
  obtain ⟨i,hi,rfl⟩ := List.getElem_of_mem hd
  rw [List.length_take] at hi
  rw [List.getElem_take]
  have := List.not_of_lt_findIdx (p := fun d : Chan => !decide (d.id < c.id)) (xs := l) (i := i) (by unfold posC at hi;omega)
  simpa using this
 have h2 : ∀ d ∈ l.drop (posC l c.id),c.id < d.id := fun d hd => by
  obtain ⟨i,hi,rfl⟩ := List.getElem_of_mem hd
  rw [List.length_drop] at hi
  rw [List.getElem_drop]
  have hlt : posC l c.id < l.length := by omega
  have q0 : ¬ l[posC l c.id].id < c.id := by
   have := List.findIdx_getElem (xs := l) (p := fun d : Chan => !decide (d.id < c.id)) (w := hlt)
   intro r
   rw [show (l[List.findIdx (fun d : Chan => !decide (d.id < c.id)) l]'hlt) = l[posC l c.id] from rfl] at this
   simp [r] at this
  have q1 := hn _ (List.getElem_mem hlt)
  rcases Nat.eq_zero_or_pos i with r | r
  ·subst r
   simp only [Nat.add_zero]
   omega
  ·have := List.pairwise_iff_getElem.1 h (posC l c.id) (posC l c.id + i) hlt (by omega) (by omega)
   omega
 unfold insC
 rw [List.pairwise_append,List.pairwise_append]
 refine ⟨⟨h.sublist (List.take_sublist _ _),List.pairwise_singleton _ _,fun a ha d hd => ?_⟩,h.sublist (List.drop_sublist _ _),fun a ha d hd => ?_⟩
 ·rw [List.mem_singleton] at hd;subst hd;exact h1 a ha
 ·rw [List.mem_append,List.mem_singleton] at ha
  rcases ha with ha | rfl
  ·have := h1 a ha;have := h2 d hd;omega
  ·exact h2 d hd
theorem BOk.none {x : Book} (b : BOk x) {ch : Int} (h : ¬ There x.chans ch) : outOf x ch = 0 ∧ intoOf x ch = 0 := by
 unfold outOf intoOf
 rw [tot_none fun y hy => ?_,tot_none fun y hy => ?_,tot_none fun y hy => ?_,tot_none fun y hy => ?_]
 ·exact ⟨rfl,rfl⟩
 ·unfold cIn;split
  ·rename_i q;exact absurd (q ▸ (b.cs y hy).to) h
  ·rfl
 ·unfold hIn;split
  ·rename_i q;exact absurd (q ▸ (b.hs y hy).ti) h
  ·rfl
 ·unfold cOut;split
  ·rename_i q;exact absurd (q ▸ (b.cs y hy).ti) h
  ·rfl
 ·unfold hOut;split
  ·rename_i q;exact absurd (q ▸ (b.hs y hy).to) h
  ·rfl
theorem bk_open {x : Book} {e : Event} (b : BOk x) (hsum : e.amt + e.fee ≤ 1125899906842624) (ha : 0 ≤ e.amt) (hf : 0 ≤ e.fee) (hid : 1 ≤ e.ch ∧ e.ch ≤ 99) (hc : openC x e = 0) : BOk (openR x e).b := by
 rw [openR_yes hc]
 have hno := no_chan (opC_no hc)
 have hnt : ¬ There x.chans e.ch := fun ⟨c,q1,q2⟩ => hno c q1 q2
 have hlc : ¬ (20 : Int) ≤ (x.chans.length : Int) := fun q => by
  unfold openC at hc
  rw [decide_eq_true q,Bool.or_true] at hc
  exact failC_keep (failC_set (by decide)) hc
 have hwl : ¬ x.wallet < e.amt := fun q => by
  unfold openC at hc
  rw [decide_eq_true q] at hc
  exact failC_set (by decide) hc
 have hw := b.wallet
 have key : ∀ ch,There x.chans ch → There (insC x.chans (newC e)) ch := fun ch ⟨c,q1,q2⟩ => ⟨c,insC_mem (.inl q1),q2⟩
 refine b.parts b.tick ?_ rfl ?_ b.lh b.li (fun h hh => (b.hs h hh).chans key) (fun h hh => (b.cs h hh).chans key) b.kr b.kn (insC_asc b.asc hno) (fun c hc => ?_) (fun c hc => ?_)
 ·show Amt (x.wallet - e.amt)
  unfold Amt at *;omega
 ·show (insC x.chans _).length ≤ _
  rw [insC_len];omega
 ·rcases mem_insC hc with q | rfl
  ·exact b.ch c q
  ·exact ⟨hid,⟨ha,by dsimp only;omega⟩,⟨hf,by dsimp only;omega⟩,⟨Int.le_refl _,by dsimp only;omega⟩,⟨Int.le_refl _,by dsimp only;omega⟩,⟨by dsimp only;omega,by dsimp only;omega⟩,⟨by dsimp only;omega,hsum⟩⟩
 ·rcases mem_insC hc with q | rfl
  ·exact b.sum c q
  ·obtain ⟨q1,q2⟩ := b.none hnt
   show e.amt + e.fee = e.amt + e.fee + outOf x e.ch + intoOf x e.ch
   rw [q1,q2];omega

theorem failC_zero {b : Bool} {c k : Int} (hk : k ≠ 0) (h : failC b c k = 0) : c = 0 ∧ b = false := by
 unfold failC at h
 split at h
 ·exact absurd h hk
 ·rename_i q
  subst h
  exact ⟨rfl,by simpa using q⟩
theorem chanOr_eq {l : List Chan} (ha : l.Pairwise fun a b => a.id < b.id) {d : Chan} (hd : d ∈ l) : chanOr l d.id = d := by
 rcases chan_find l d.id with ⟨q,_⟩ | ⟨i,c,q1,q2,q3,q4⟩
 ·exact absurd rfl (no_chan q d hd)
 ·rw [q3]
  have hp : l.Pairwise fun a b => a.id ≠ b.id := ha.imp fun h => by omega
  obtain ⟨j,hj,e⟩ := List.getElem_of_mem hd
  have : i = j := pair_at (g := fun c => c.id) hp q2 (by rw [List.getElem?_eq_getElem hj,e]) q4
  subst this
  rw [List.getElem?_eq_getElem hj,e] at q2
  injection q2 with q2
  exact q2.symm
theorem known_no {x : Book} {k : Int} (h : knownB x k = false) : ∀ y ∈ keysOf x,k ≠ y := fun y hy e => by
 have := any_keys x k
 rw [h] at this
 unfold keyL at this
 unfold keysOf at hy
 have := List.any_eq_false.1 this y hy
 simp [e] at this
theorem upd2_cases {l : List Chan} {a b : Int} {f g : Chan → Chan} (hf : ∀ c,(f c).id = c.id) (hab : a ≠ b) {c : Chan} (h : c ∈ updC (updC l a f) b g) : ∃ d ∈ l,(d.id = a ∧ c = f d) ∨ (d.id = b ∧ c = g d) ∨ (d.id ≠ a ∧ d.id ≠ b ∧ c = d) := by
 obtain ⟨d',hd',rfl⟩ := mem_upd h
 obtain ⟨d,hd,rfl⟩ := mem_upd hd'
 refine ⟨d,hd,?_⟩
 by_cases q1 : d.id = a
 ·rw [if_pos q1,if_neg (by rw [hf];omega)]
  exact .inl ⟨q1,rfl⟩
 ·rw [if_neg q1]
  by_cases q2 : d.id = b
  ·rw [if_pos q2];exact .inr (.inl ⟨q2,rfl⟩)
  ·rw [if_neg q2];exact .inr (.inr ⟨q1,q2,rfl⟩)
theorem bk_adm {x : Book} {e : Event} (b : BOk x) (hne : e.ch ≠ e.to) (hkey : 1 ≤ e.key ∧ e.key ≤ 1000000) (ha : 1 ≤ e.amt) (hc : admC x e = 0) : BOk (admR x e).b := by
 rw [admR_yes hc]
 have h1 : admC1 x e = 0 := by
  by_cases q : admC1 x e = 0
  ·exact q
  ·rw [admC_one q] at hc;exact hc
 unfold admC1 at h1
 obtain ⟨h2,g1⟩ := failC_zero (by decide) h1
 obtain ⟨h3,g2⟩ := failC_zero (by decide) h2
 obtain ⟨h4,g3⟩ := failC_zero (by decide) h3
 unfold admC0 at h4
 rw [miss_two hne] at h4
 obtain ⟨h5,g4⟩ := failC_zero (by decide) h4
 obtain ⟨h6,g5⟩ := failC_zero (by decide) h5
 obtain ⟨_,g6⟩ := failC_zero (by decide) h6
 have g5' : two x.chans e.ch e.to = true := by simpa using g5
 obtain ⟨_,t1,t2⟩ := two_iff.1 g5'
 simp only [decide_eq_false_iff_not] at g1 g2 g4
 unfold admBad at g3
 rw [Bool.or_eq_false_iff,Bool.not_eq_false',Bool.not_eq_false'] at g3
 have hs : admSum x e = e.amt + feeV (chanOr x.chans e.to).base (chanOr x.chans e.to).ppm e.amt := addV_yes g3.2
 have hok := g3.2
 unfold addOk at hok
 simp only [Bool.and_eq_true,amtOk_true] at hok
 have hsum : Amt (admSum x e) ∧ e.amt ≤ admSum x e := by rw [hs];unfold Amt;omega
 have f1 : ∀ c : Chan,({ c with remote := c.remote - admSum x e } : Chan).id = c.id := fun _ => rfl
 have f2 : ∀ c : Chan,({ c with loc := c.loc - e.amt } : Chan).id = c.id := fun _ => rfl
 have key : ∀ ch,There x.chans ch → There (admY x e).b.chans ch := fun ch q => there_upd f2 (there_upd f1 q)
 have ho : ∀ ch,outOf (admY x e).b ch = outOf x ch + (if e.to = ch then e.amt else 0) := fun ch => by
  unfold outOf admY
  dsimp only
  rw [tot_snoc]
  unfold hOut
  dsimp only
  omega
 have hi : ∀ ch,intoOf (admY x e).b ch = intoOf x ch + (if e.ch = ch then admSum x e else 0) := fun ch => by
  unfold intoOf admY
  dsimp only
  rw [tot_snoc]
  unfold hIn
  dsimp only
  omega
 have hkn := known_no g6
 have hks : (keysOf (admY x e).b).Perm (e.key :: keysOf x) := by
  unfold keysOf admY
  dsimp only
  rw [List.map_append,List.append_assoc]
  exact List.perm_middle
 refine b.parts b.tick b.wallet rfl ?_ ?_ b.li (fun h hh => ?_) (fun h hh => (b.cs h hh).chans key) (fun k hk => ?_) ?_ (asc_upd f2 (asc_upd f1 b.asc)) (fun c hc => ?_) (fun c hc => ?_)
 ·show (updC (updC _ _ _) _ _).length ≤ _
  rw [upd_len,upd_len];exact b.lc
 ·show (x.htlcs ++ [_]).length ≤ _
  simp
  omega
 ·rcases List.mem_append.1 hh with hh | hh
  ·exact (b.hs h hh).chans key
  ·rw [List.mem_singleton] at hh
   subst hh
   exact ⟨hsum.1,⟨ha,hsum.2⟩,⟨Int.le_refl _,by dsimp only;omega⟩,hne,key _ t1,key _ t2⟩
 ·rcases List.mem_cons.1 (hks.mem_iff.1 hk) with rfl | hk
  ·exact hkey
  ·exact b.kr k hk
 ·exact (List.Perm.pairwise_iff (fun h => Ne.symm h) hks).2 (List.pairwise_cons.2 ⟨hkn,b.kn⟩)
 ·obtain ⟨d,hd,q | q | q⟩ := upd2_cases f1 hne hc
  ·have k := b.ch d hd
   have e1 := chanOr_eq b.asc hd
   rw [q.1] at e1
   rw [e1] at g2
   have := k.remote
   rw [q.2]
   refine ⟨k.id,k.loc,?_,k.base,k.ppm,k.score,k.size⟩
   have := hsum.1
   unfold Amt at *
   dsimp only
   omega
  ·have k := b.ch d hd
   have e1 := chanOr_eq b.asc hd
   rw [q.1] at e1
   rw [e1] at g1
   have := k.loc
   rw [q.2]
   refine ⟨k.id,?_,k.remote,k.base,k.ppm,k.score,k.size⟩
   unfold Amt at *
   dsimp only
   omega
  ·rw [q.2.2];exact b.ch d hd
 ·obtain ⟨d,hd,q | q | q⟩ := upd2_cases f1 hne hc
  ·have k := b.sum d hd
   rw [q.2]
   dsimp only
   rw [ho,hi,if_neg (by omega),if_pos q.1.symm]
   omega
  ·have k := b.sum d hd
   rw [q.2]
   dsimp only
   rw [ho,hi,if_pos q.1.symm,if_neg (by omega)]
   omega
  ·have k := b.sum d hd
   rw [q.2.2,ho,hi,if_neg (fun r => q.2.1 r.symm),if_neg (fun r => q.1 r.symm)]
   omega
theorem bk_lau {x : Book} {e : Event} (b : BOk x) (hne : e.ch ≠ e.to) (hkey : 1 ≤ e.key ∧ e.key ≤ 1000000) (ha : 1 ≤ e.amt) (hc : lauC x e = 0) : BOk (lauR x e).b := by
 rw [lauR_yes hc]
 unfold lauC at hc
 obtain ⟨h2,g1⟩ := failC_zero (by decide) hc
 obtain ⟨h3,g2⟩ := failC_zero (by decide) h2
 obtain ⟨h4,g3⟩ := failC_zero (by decide) h3
 unfold lauC0 at h4
 rw [miss_two hne] at h4
 obtain ⟨h5,g4⟩ := failC_zero (by decide) h4
 obtain ⟨h6,g5⟩ := failC_zero (by decide) h5
 obtain ⟨_,g6⟩ := failC_zero (by decide) h6
 have g5' : two x.chans e.ch e.to = true := by simpa using g5
 obtain ⟨_,t1,t2⟩ := two_iff.1 g5'
 simp only [decide_eq_false_iff_not] at g1 g2 g4
 have g3' : addOk e.amt e.fee = true := by simpa using g3
 have hs := addV_yes g3'
 unfold addOk at g3'
 simp only [Bool.and_eq_true,amtOk_true] at g3'
 rw [hs] at g2
 have f1 : ∀ c : Chan,({ c with loc := c.loc - addV e.amt e.fee } : Chan).id = c.id := fun _ => rfl
 have f2 : ∀ c : Chan,({ c with remote := c.remote - e.amt } : Chan).id = c.id := fun _ => rfl
 have key : ∀ ch,There x.chans ch → There (lauY x e).b.chans ch := fun ch q => there_upd f2 (there_upd f1 q)
 have ho : ∀ ch,outOf (lauY x e).b ch = outOf x ch + (if e.ch = ch then e.amt + e.fee else 0) := fun ch => by
  unfold outOf lauY
  dsimp only
  rw [tot_snoc]
  unfold cOut
  dsimp only
  omega
 have hi : ∀ ch,intoOf (lauY x e).b ch = intoOf x ch + (if e.to = ch then e.amt else 0) := fun ch => by
  unfold intoOf lauY
  dsimp only
  rw [tot_snoc]
  unfold cIn
  dsimp only
  omega
 have hkn := known_no g6
 have hks : (keysOf (lauY x e).b).Perm (e.key :: keysOf x) := by
  unfold keysOf lauY
  dsimp only
  rw [List.map_append,← List.append_assoc]
  exact List.perm_append_singleton _ _
 refine b.parts b.tick b.wallet rfl ?_ b.lh ?_ (fun h hh => (b.hs h hh).chans key) (fun h hh => ?_) (fun k hk => ?_) ?_ (asc_upd f2 (asc_upd f1 b.asc)) (fun c hc => ?_) (fun c hc => ?_)
 ·show (updC (updC _ _ _) _ _).length ≤ _
  rw [upd_len,upd_len];exact b.lc
 ·show (x.circles ++ [_]).length ≤ _
  simp
  omega
 ·rcases List.mem_append.1 hh with hh | hh
  ·exact (b.cs h hh).chans key
  ·rw [List.mem_singleton] at hh
   subst hh
   exact ⟨⟨ha,by dsimp only;omega⟩,⟨g3'.1.2.1,g3'.1.2.2⟩,hne,key _ t1,key _ t2⟩
 ·rcases List.mem_cons.1 (hks.mem_iff.1 hk) with rfl | hk
  ·exact hkey
  ·exact b.kr k hk
 ·exact (List.Perm.pairwise_iff (fun h => Ne.symm h) hks).2 (List.pairwise_cons.2 ⟨hkn,b.kn⟩)
 ·obtain ⟨d,hd,q | q | q⟩ := upd2_cases f1 hne hc
  ·have k := b.ch d hd
   have e1 := chanOr_eq b.asc hd
   rw [q.1] at e1
   rw [e1] at g2
   have := k.loc
   rw [q.2]
   refine ⟨k.id,?_,k.remote,k.base,k.ppm,k.score,k.size⟩
   unfold Amt at *
   dsimp only
   rw [hs]
   omega
  ·have k := b.ch d hd
   have e1 := chanOr_eq b.asc hd
   rw [q.1] at e1
   rw [e1] at g1
   have := k.remote
   rw [q.2]
   refine ⟨k.id,k.loc,?_,k.base,k.ppm,k.score,k.size⟩
   unfold Amt at *
   dsimp only
   omega
  ·rw [q.2.2];exact b.ch d hd
 ·obtain ⟨d,hd,q | q | q⟩ := upd2_cases f1 hne hc
  ·have k := b.sum d hd
   rw [q.2]
   dsimp only
   rw [ho,hi,if_pos q.1.symm,if_neg (by omega),hs]
   omega
  ·have k := b.sum d hd
   rw [q.2]
   dsimp only
   rw [ho,hi,if_neg (by omega),if_pos q.1.symm]
   omega
  ·have k := b.sum d hd
   rw [q.2.2,ho,hi,if_neg (fun r => q.1 r.symm),if_neg (fun r => q.2.1 r.symm)]
   omega

theorem outs_l {L : List Chan} {l : List Htlc} {m : List Circle} (hs : ∀ h ∈ l,HOk L h) (cs : ∀ h ∈ m,IOk L h) (ch : Int) : 0 ≤ tot (hOut ch) l ∧ 0 ≤ tot (hIn ch) l ∧ 0 ≤ tot (cOut ch) m ∧ 0 ≤ tot (cIn ch) m := by
 refine ⟨?_,?_,?_,?_⟩
 ·refine (tot_le (hOut ch) 1125899906842624 (by decide) l fun y hy => ?_).1
  have := (hs y hy).out
  have := (hs y hy).inn
  unfold Amt at this
  unfold hOut;split <;> omega
 ·refine (tot_le (hIn ch) 1125899906842624 (by decide) l fun y hy => ?_).1
  have := (hs y hy).inn
  unfold Amt at this
  unfold hIn;split <;> omega
 ·refine (tot_le (cOut ch) 2251799813685248 (by decide) m fun y hy => ?_).1
  have := (cs y hy).amt
  have := (cs y hy).fee
  unfold Amt at this
  unfold cOut;split <;> omega
 ·refine (tot_le (cIn ch) 1125899906842624 (by decide) m fun y hy => ?_).1
  have := (cs y hy).amt
  unfold cIn;split <;> omega
theorem hks_of {x : Book} (b : BOk x) : (x.htlcs.Pairwise fun a b => a.key ≠ b.key) ∧ x.circles.Pairwise fun a b => a.key ≠ b.key := by
 have h := b.kn
 unfold keysOf at h
 rw [List.pairwise_append] at h
 exact ⟨List.pairwise_map.1 h.1,List.pairwise_map.1 h.2.1⟩
theorem bk_end {x y : Book} (b : BOk x) {h : Htlc} (hm : h ∈ x.htlcs) {f g : Chan → Chan} (hy1 : y.htlcs = delH x.htlcs h.key) (hy2 : y.circles = x.circles) (hy3 : y.chans = updC (updC x.chans h.inn f) h.out g) (hy4 : y.tick = x.tick) (hy5 : y.wallet = x.wallet) (hy6 : y.next = x.next)
 (f1 : ∀ c,(f c).id = c.id ∧ (f c).size = c.size ∧ (f c).base = c.base ∧ (f c).ppm = c.ppm ∧ (f c).loc + (f c).remote = c.loc + c.remote + h.amtIn ∧ c.loc ≤ (f c).loc ∧ c.remote ≤ (f c).remote ∧ (-100 ≤ (f c).score ∧ (f c).score ≤ 100))
 (g1 : ∀ c,(g c).id = c.id ∧ (g c).size = c.size ∧ (g c).base = c.base ∧ (g c).ppm = c.ppm ∧ (g c).loc + (g c).remote = c.loc + c.remote + h.amtOut ∧ c.loc ≤ (g c).loc ∧ c.remote ≤ (g c).remote ∧ (g c).score = c.score) : BOk y := by
 have q := b.hs h hm
 have hne := q.ne
 have fi : ∀ c,(f c).id = c.id := fun c => (f1 c).1
 have gi : ∀ c,(g c).id = c.id := fun c => (g1 c).1
 have key : ∀ ch,There x.chans ch → There y.chans ch := fun ch r => by rw [hy3];exact there_upd gi (there_upd fi r)
 have hsub : ∀ z ∈ y.htlcs,z ∈ x.htlcs := fun z hz => by rw [hy1] at hz;exact (List.mem_filter.1 hz).1
 have hs' : ∀ z ∈ y.htlcs,HOk x.chans z := fun z hz => b.hs z (hsub z hz)
 have cs' : ∀ z ∈ y.circles,IOk x.chans z := fun z hz => b.cs z (hy2 ▸ hz)
 have ho : ∀ ch,outOf y ch + hOut ch h = outOf x ch := fun ch => by
  unfold outOf
  have := tot_filter (g := fun z : Htlc => z.key) (f := hOut ch) (hks_of b).1 hm
  rw [hy1,hy2]
  unfold delH
  omega
 have hi : ∀ ch,intoOf y ch + hIn ch h = intoOf x ch := fun ch => by
  unfold intoOf
  have := tot_filter (g := fun z : Htlc => z.key) (f := hIn ch) (hks_of b).1 hm
  rw [hy1,hy2]
  unfold delH
  omega
 have hsl : (keysOf y).Sublist (keysOf x) := by
  unfold keysOf
  rw [hy1,hy2]
  exact (List.filter_sublist.map _).append (List.Sublist.refl _)
 have hlen : y.htlcs.length ≤ 60 := by
  rw [hy1]
  have h1 : (delH x.htlcs h.key).length ≤ x.htlcs.length := List.length_filter_le _ _
  have := b.lh
  omega
 refine b.parts (hy4 ▸ b.tick) (hy5 ▸ b.wallet) hy6 (by rw [hy3,upd_len,upd_len];exact b.lc) hlen (hy2 ▸ b.li) (fun z hz => (hs' z hz).chans key) (fun z hz => (cs' z hz).chans key) (fun k hk => b.kr k (hsl.subset hk)) (b.kn.sublist hsl) (by rw [hy3];exact asc_upd gi (asc_upd fi b.asc)) (fun c hc => ?_) (fun c hc => ?_)
 ·rw [hy3] at hc
  obtain ⟨d,hd,r | r | r⟩ := upd2_cases fi hne hc
  ·have k := b.ch d hd
   have s := b.sum d hd
   have o := outs_l hs' cs' d.id
   have e1 := ho d.id
   have e2 := hi d.id
   unfold hOut at e1
   unfold hIn at e2
   rw [if_neg (by omega)] at e1
   rw [if_pos r.1.symm] at e2
   unfold outOf at e1 s
   unfold intoOf at e2 s
   obtain ⟨w1,w2,w3,w4,w5,w6,w7,w8⟩ := f1 d
   have k2 := k.loc
   have k3 := k.remote
   have k4 := k.size
   have k5 := outs_l b.hs b.cs d.id
   rw [r.2]
   unfold Amt at *
   exact ⟨w1 ▸ k.id,by unfold Amt;omega,by unfold Amt;omega,w3 ▸ k.base,w4 ▸ k.ppm,w8,w2 ▸ k.size⟩
  ·have k := b.ch d hd
   have s := b.sum d hd
   have o := outs_l hs' cs' d.id
   have e1 := ho d.id
   have e2 := hi d.id
   unfold hOut at e1
   unfold hIn at e2
   rw [if_pos r.1.symm] at e1
   rw [if_neg (by omega)] at e2
   unfold outOf at e1 s
   unfold intoOf at e2 s
   obtain ⟨w1,w2,w3,w4,w5,w6,w7,w8⟩ := g1 d
   have k2 := k.loc
   have k3 := k.remote
   have k4 := k.size
   have k5 := outs_l b.hs b.cs d.id
   rw [r.2]
   unfold Amt at *
   exact ⟨w1 ▸ k.id,by unfold Amt;omega,by unfold Amt;omega,w3 ▸ k.base,w4 ▸ k.ppm,w8 ▸ k.score,w2 ▸ k.size⟩
  ·rw [r.2.2];exact b.ch d hd
 ·rw [hy3] at hc
  obtain ⟨d,hd,r | r | r⟩ := upd2_cases fi hne hc
  ·have s := b.sum d hd
   have e1 := ho d.id
   have e2 := hi d.id
   unfold hOut at e1
   unfold hIn at e2
   rw [if_neg (by omega)] at e1
   rw [if_pos r.1.symm] at e2
   obtain ⟨w1,w2,w3,w4,w5,_⟩ := f1 d
   rw [r.2,w1,w2]
   omega
  ·have s := b.sum d hd
   have e1 := ho d.id
   have e2 := hi d.id
   unfold hOut at e1
   unfold hIn at e2
   rw [if_pos r.1.symm] at e1
   rw [if_neg (by omega)] at e2
   obtain ⟨w1,w2,w3,w4,w5,_⟩ := g1 d
   rw [r.2,w1,w2]
   omega
  ·have s := b.sum d hd
   have e1 := ho d.id
   have e2 := hi d.id
   unfold hOut at e1
   unfold hIn at e2
   rw [if_neg (fun z => r.2.1 z.symm)] at e1
   rw [if_neg (fun z => r.1 z.symm)] at e2
   rw [r.2.2]
   omega
theorem bk_set {x : Book} {e : Event} (b : BOk x) : BOk (setR x e).b := by
 unfold setR
 split
 ·rename_i h hf
  have hm := List.mem_of_find?_eq_some hf
  have q := b.hs h hm
  have q1 := q.inn
  have q2 := q.out
  unfold Amt at q1
  unfold setY
  split
  ·exact bk_end b hm rfl rfl rfl rfl rfl rfl (fun c => ⟨rfl,rfl,rfl,rfl,by dsimp only;omega,by dsimp only;omega,Int.le_refl _,scoreUp_le _⟩) (fun c => ⟨rfl,rfl,rfl,rfl,by dsimp only;omega,Int.le_refl _,by dsimp only;omega,rfl⟩)
  ·exact bk_end b hm rfl rfl rfl rfl rfl rfl (fun c => ⟨rfl,rfl,rfl,rfl,by dsimp only;omega,Int.le_refl _,by dsimp only;omega,scoreDown_le _⟩) (fun c => ⟨rfl,rfl,rfl,rfl,by dsimp only;omega,by dsimp only;omega,Int.le_refl _,rfl⟩)
 ·exact b

theorem bk_endI {x y : Book} (b : BOk x) {h : Circle} (hm : h ∈ x.circles) {f g : Chan → Chan} (hy1 : y.circles = delI x.circles h.key) (hy2 : y.htlcs = x.htlcs) (hy3 : y.chans = updC (updC x.chans h.frm f) h.to g) (hy4 : y.tick = x.tick) (hy5 : y.wallet = x.wallet) (hy6 : y.next = x.next)
 (f1 : ∀ c,(f c).id = c.id ∧ (f c).size = c.size ∧ (f c).base = c.base ∧ (f c).ppm = c.ppm ∧ (f c).loc + (f c).remote = c.loc + c.remote + (h.amt + h.fee) ∧ c.loc ≤ (f c).loc ∧ c.remote ≤ (f c).remote ∧ (f c).score = c.score)
 (g1 : ∀ c,(g c).id = c.id ∧ (g c).size = c.size ∧ (g c).base = c.base ∧ (g c).ppm = c.ppm ∧ (g c).loc + (g c).remote = c.loc + c.remote + h.amt ∧ c.loc ≤ (g c).loc ∧ c.remote ≤ (g c).remote ∧ (g c).score = c.score) : BOk y := by
 have q := b.cs h hm
 have hne := q.ne
 have fi : ∀ c,(f c).id = c.id := fun c => (f1 c).1
 have gi : ∀ c,(g c).id = c.id := fun c => (g1 c).1
 have key : ∀ ch,There x.chans ch → There y.chans ch := fun ch r => by rw [hy3];exact there_upd gi (there_upd fi r)
 have hsub : ∀ z ∈ y.circles,z ∈ x.circles := fun z hz => by rw [hy1] at hz;exact (List.mem_filter.1 hz).1
 have hs' : ∀ z ∈ y.htlcs,HOk x.chans z := fun z hz => b.hs z (hy2 ▸ hz)
 have cs' : ∀ z ∈ y.circles,IOk x.chans z := fun z hz => b.cs z (hsub z hz)
 have ho : ∀ ch,outOf y ch + cOut ch h = outOf x ch := fun ch => by
  unfold outOf
  have := tot_filter (g := fun z : Circle => z.key) (f := cOut ch) (hks_of b).2 hm
  rw [hy1,hy2]
  unfold delI
  omega
 have hi : ∀ ch,intoOf y ch + cIn ch h = intoOf x ch := fun ch => by
  unfold intoOf
  have := tot_filter (g := fun z : Circle => z.key) (f := cIn ch) (hks_of b).2 hm
  rw [hy1,hy2]
  unfold delI
  omega
 have hsl : (keysOf y).Sublist (keysOf x) := by
  unfold keysOf
  rw [hy1,hy2]
  exact (List.Sublist.refl _).append (List.filter_sublist.map _)
 have hlen : y.circles.length ≤ 20 := by
  rw [hy1]
  have h1 : (delI x.circles h.key).length ≤ x.circles.length := List.length_filter_le _ _
  have := b.li
  omega
 refine b.parts (hy4 ▸ b.tick) (hy5 ▸ b.wallet) hy6 (by rw [hy3,upd_len,upd_len];exact b.lc) (hy2 ▸ b.lh) hlen (fun z hz => (hs' z hz).chans key) (fun z hz => (cs' z hz).chans key) (fun k hk => b.kr k (hsl.subset hk)) (b.kn.sublist hsl) (by rw [hy3];exact asc_upd gi (asc_upd fi b.asc)) (fun c hc => ?_) (fun c hc => ?_)
 ·rw [hy3] at hc
  obtain ⟨d,hd,r | r | r⟩ := upd2_cases fi hne hc
  ·have k := b.ch d hd
   have s := b.sum d hd
   have o := outs_l hs' cs' d.id
   have e1 := ho d.id
   have e2 := hi d.id
   unfold cOut at e1
   unfold cIn at e2
   rw [if_pos r.1.symm] at e1
   rw [if_neg (by omega)] at e2
   unfold outOf at e1 s
   unfold intoOf at e2 s
   obtain ⟨w1,w2,w3,w4,w5,w6,w7,w8⟩ := f1 d
   have k2 := k.loc
   have k3 := k.remote
   have k4 := k.size
   have k5 := outs_l b.hs b.cs d.id
   rw [r.2]
   unfold Amt at *
   exact ⟨w1 ▸ k.id,by unfold Amt;omega,by unfold Amt;omega,w3 ▸ k.base,w4 ▸ k.ppm,w8 ▸ k.score,w2 ▸ k.size⟩
  ·have k := b.ch d hd
   have s := b.sum d hd
   have o := outs_l hs' cs' d.id
   have e1 := ho d.id
   have e2 := hi d.id
   unfold cOut at e1
   unfold cIn at e2
   rw [if_neg (by omega)] at e1
   rw [if_pos r.1.symm] at e2
   unfold outOf at e1 s
   unfold intoOf at e2 s
   obtain ⟨w1,w2,w3,w4,w5,w6,w7,w8⟩ := g1 d
   have k2 := k.loc
   have k3 := k.remote
   have k4 := k.size
   have k5 := outs_l b.hs b.cs d.id
   rw [r.2]
   unfold Amt at *
   exact ⟨w1 ▸ k.id,by unfold Amt;omega,by unfold Amt;omega,w3 ▸ k.base,w4 ▸ k.ppm,w8 ▸ k.score,w2 ▸ k.size⟩
  ·rw [r.2.2];exact b.ch d hd
 ·rw [hy3] at hc
  obtain ⟨d,hd,r | r | r⟩ := upd2_cases fi hne hc
  ·have s := b.sum d hd
   have e1 := ho d.id
   have e2 := hi d.id
   unfold cOut at e1
   unfold cIn at e2
   rw [if_pos r.1.symm] at e1
   rw [if_neg (by omega)] at e2
   obtain ⟨w1,w2,w3,w4,w5,_⟩ := f1 d
   rw [r.2,w1,w2]
   omega
  ·have s := b.sum d hd
   have e1 := ho d.id
   have e2 := hi d.id
   unfold cOut at e1
   unfold cIn at e2
   rw [if_neg (by omega)] at e1
   rw [if_pos r.1.symm] at e2
   obtain ⟨w1,w2,w3,w4,w5,_⟩ := g1 d
   rw [r.2,w1,w2]
   omega
  ·have s := b.sum d hd
   have e1 := ho d.id
   have e2 := hi d.id
   unfold cOut at e1
   unfold cIn at e2
   rw [if_neg (fun z => r.1 z.symm)] at e1
   rw [if_neg (fun z => r.2.1 z.symm)] at e2
   rw [r.2.2]
   omega
theorem bk_land {x : Book} {e : Event} (b : BOk x) : BOk (landR x e).b := by
 unfold landR
 split
 ·rename_i h hf
  have hm := List.mem_of_find?_eq_some hf
  have q := b.cs h hm
  have q1 := q.amt
  have q2 := q.fee
  unfold Amt at q2
  unfold landY
  split
  ·exact bk_endI b hm rfl rfl rfl rfl rfl rfl (fun c => ⟨rfl,rfl,rfl,rfl,by dsimp only;omega,Int.le_refl _,by dsimp only;omega,rfl⟩) (fun c => ⟨rfl,rfl,rfl,rfl,by dsimp only;omega,by dsimp only;omega,Int.le_refl _,rfl⟩)
  ·exact bk_endI b hm rfl rfl rfl rfl rfl rfl (fun c => ⟨rfl,rfl,rfl,rfl,by dsimp only;omega,by dsimp only;omega,Int.le_refl _,rfl⟩) (fun c => ⟨rfl,rfl,rfl,rfl,by dsimp only;omega,Int.le_refl _,by dsimp only;omega,rfl⟩)
 ·exact b
theorem bk_shut {x : Book} {e : Event} (b : BOk x) (hf : 0 ≤ e.fee) (hk : e.kind = 3) (ho : overB x e = false) (hc : shutC x e = 0) : BOk (shutR x e).b := by
 rw [shutR_yes hc]
 unfold shutC at hc
 obtain ⟨h2,g1⟩ := failC_zero (by decide) hc
 obtain ⟨h3,g2⟩ := failC_zero (by decide) h2
 simp only [decide_eq_false_iff_not] at g1
 rcases chan_find x.chans e.ch with ⟨q,_⟩ | ⟨i,c,q,q2,q3,q4⟩
 ·rw [missC_none q] at h3;exact absurd h3 (failC_set (by decide))
 have hcm := mem_of_get q2
 have hcc := b.ch c hcm
 have hl := hcc.loc
 rw [q3] at g1
 have hov : ¬ 1125899906842624 < x.wallet + c.loc - e.fee := by
  unfold overB at ho
  by_cases hn : x.next = 1125899906842624
  ·rw [if_pos hn] at ho;cases ho
  ·rw [if_neg hn,if_neg (by omega),if_neg (by omega),if_pos ⟨hk,by omega⟩,q3] at ho
   simpa using ho
 have hw := b.wallet
 unfold usedB at g2
 rw [Bool.or_eq_false_iff] at g2
 have u1 : ∀ h ∈ x.htlcs,h.inn ≠ e.ch ∧ h.out ≠ e.ch := fun h hh => by
  have := List.any_eq_false.1 g2.1 h hh
  unfold hUses at this
  simpa [not_or] using this
 have u2 : ∀ h ∈ x.circles,h.frm ≠ e.ch ∧ h.to ≠ e.ch := fun h hh => by
  have := List.any_eq_false.1 g2.2 h hh
  unfold cUses at this
  simpa [not_or] using this
 have key : ∀ ch,ch ≠ e.ch → There x.chans ch → There (delC x.chans e.ch) ch := fun ch hne ⟨d,hd,r⟩ => ⟨d,List.mem_filter.2 ⟨hd,by simpa [r] using hne⟩,r⟩
 have hsub : ∀ d ∈ delC x.chans e.ch,d ∈ x.chans := fun d hd => (List.mem_filter.1 hd).1
 refine b.parts b.tick ?_ rfl ?_ b.lh b.li (fun h hh => ?_) (fun h hh => ?_) b.kr b.kn (b.asc.sublist List.filter_sublist) (fun d hd => b.ch d (hsub d hd)) (fun d hd => b.sum d (hsub d hd))
 ·show Amt (x.wallet + ((chanOr x.chans e.ch).loc - e.fee))
  rw [q3]
  unfold Amt at *
  omega
 ·have h1 : (delC x.chans e.ch).length ≤ x.chans.length := List.length_filter_le _ _
  have := b.lc
  show (delC x.chans e.ch).length ≤ _
  omega
 ·have q := b.hs h hh
  have u := u1 h hh
  exact ⟨q.inn,q.out,q.age,q.ne,key _ u.1 q.ti,key _ u.2 q.to⟩
 ·have q := b.cs h hh
  have u := u2 h hh
  exact ⟨q.amt,q.fee,q.ne,key _ u.1 q.ti,key _ u.2 q.to⟩
theorem ev_parts {e : Event} (h : eventOk e = true) : (hK e.kind = true → 1 ≤ e.key ∧ e.key ≤ 1000000) ∧ (hC e.kind = true → 1 ≤ e.ch ∧ e.ch ≤ 99) ∧ (hA e.kind = true → e.kind ≠ 4 → 1 ≤ e.amt) ∧ (e.kind = 4 → e.fee ≤ 1000000) := by
 unfold eventOk at h
 simp only [Bool.and_eq_true] at h
 obtain ⟨⟨⟨⟨⟨⟨⟨h1,h2⟩,h3⟩,h4⟩,h5⟩,h6⟩,h7⟩,h8⟩ := h
 unfold fieldB at h2 h3 h6 h7
 refine ⟨fun q => ?_,fun q => ?_,fun q r => ?_,fun q => ?_⟩
 ·rw [if_pos q] at h2;exact inB_true.1 h2
 ·rw [if_pos q] at h3;exact inB_true.1 h3
 ·rw [if_pos q,if_neg r] at h6;exact (inB_true.1 h6).1
 ·rw [if_pos (by rw [q];rfl),if_pos q] at h7;exact (inB_true.1 h7).2
theorem bk_work {x : Book} {e : Event} (h : applyC x e = 0) : BOk (workR x e).b := by
 obtain ⟨h1,h2,h3⟩ := applyC_ok h
 have b := bOk_of h1
 have hbe : (bookOk x && eventOk e) = true := by rw [h1,h2];rfl
 have hw : (workR x e).c = 0 := by rw [← applyC_work hbe h3];exact h
 obtain ⟨_,a0,f0⟩ := evSm_of h2
 have am := evAmt h2
 rw [amtOk_true,amtOk_true] at am
 obtain ⟨p1,p2,p3,p4⟩ := ev_parts h2
 have hn := over_next h3
 by_cases k1 : e.kind = 1
 ·rw [← wk1 k1];exact bk_dep b h3 k1 a0
 by_cases k2 : e.kind = 2
 ·rw [← wk2 k2] at hw ⊢
  have hs := over_2 hn k2
  rw [h3] at hs
  by_cases q : openC x e = 0
  ·exact bk_open b (by simpa using hs.symm) a0 f0 (p2 (by rw [k2];rfl)) q
  ·rw [openR_no q] at hw;exact absurd hw q
 by_cases k3 : e.kind = 3
 ·rw [← wk3 k3] at hw ⊢
  by_cases q : shutC x e = 0
  ·exact bk_shut b f0 k3 h3 q
  ·rw [shutR_no q] at hw;exact absurd hw q
 by_cases k4 : e.kind = 4
 ·rw [← wk4 k4];exact bk_pri b am.1 ⟨f0,p4 k4⟩
 by_cases k5 : e.kind = 5
 ·rw [← wk5 k5] at hw ⊢
  by_cases q : admC x e = 0
  ·exact bk_adm b (ev_ne h2 (.inl k5)) (p1 (by rw [k5];rfl)) (p3 (by rw [k5];rfl) (by omega)) q
  ·rw [admR_no q] at hw;exact absurd hw q
 by_cases k6 : e.kind = 6 ∨ e.kind = 7
 ·rw [← wk6 k6];exact bk_set b
 by_cases k8 : e.kind = 8
 ·rw [← wk8 k8]
  have hs := over_8 hn k8
  rw [h3] at hs
  exact bk_tick b (by simpa using hs.symm)
 by_cases k9 : e.kind = 9
 ·rw [← wk9 k9] at hw ⊢
  by_cases q : lauC x e = 0
  ·exact bk_lau b (ev_ne h2 (.inr k9)) (p1 (by rw [k9];rfl)) (p3 (by rw [k9];rfl) (by omega)) q
  ·rw [lauR_no q] at hw;exact absurd hw q
 ·have := ev_kind h2
  rw [← wk10 (by omega)]
  exact bk_land b
theorem bookOk_appB {x : Book} {e : Event} (h : applyC x e = 0) : bookOk (appB x e) = true := by
 have b := bk_work h
 by_cases r : (workR x e).l = []
 ·rw [(appB_nil h r).1];exact bOk_to b
 ·rw [(appB_yes h r).1]
  have hn := over_next (applyC_ok h).2.2
  have h2 := b.next
  rw [workR_next] at h2 ⊢
  exact bOk_to (b.setNext ⟨by omega,by omega⟩)
end Go.Proofs.YtogkbcmfoalpiaaGreat

