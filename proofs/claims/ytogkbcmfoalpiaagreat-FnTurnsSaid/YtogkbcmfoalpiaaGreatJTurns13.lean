/- FnTurns is proved: the given statement holds with no condition. Texts joined: TrnS, EG3, LFnTurns, CFnTurns. -/
import Derived.Test.YtogkbcmfoalpiaaGreatJTurns12
import Derived.Test.YtogkbcmfoalpiaaGreatJTurns10
import Derived.Test.YtogkbcmfoalpiaaGreatKTurns
import Derived.Test.YtogkbcmfoalpiaaGreatRows
import Derived.Test.YtogkbcmfoalpiaaGreatKOpn
namespace Go.Proofs.YtogkbcmfoalpiaaGreat
open Go.RowKit
set_option linter.unusedSimpArgs false
set_option linter.unusedVariables false
theorem nextPpm_in {c : Chan} {r : Rule} (hc : COk c) (hr : ruleOk r = true) : r.min ≤ nextPpm c r ∧ nextPpm c r ≤ r.max := by
 have h := ruleOk_iff.1 hr
 have h1 : (ruleOk r && amtOk c.size && amtOk c.loc && part c.ppm) = true := by
  have a := hc.size;have b := hc.loc;have d := hc.ppm
  unfold Amt at a b
  rw [hr,amtOk_true.2 a,amtOk_true.2 b]
  show part c.ppm = true
  exact inB_true.2 d
 unfold nextPpm
 rw [if_pos h1]
 have h2 := inB_true.1 (show inB r.max r.min 1000000 = true from by unfold ruleOk at hr;simp only [Bool.and_eq_true] at hr;exact hr.2)
 unfold clamp
 (repeat' split) <;> omega
theorem rule_parts {r : Rule} (hr : ruleOk r = true) : 0 ≤ r.min ∧ r.max ≤ 1000000 := by
 unfold ruleOk at hr
 simp only [Bool.and_eq_true] at hr
 have h1 := inB_true.1 hr.1.2
 have h2 := inB_true.1 hr.2
 omega
theorem turnEv_ok {c : Chan} {r : Rule} (hc : COk c) (hr : ruleOk r = true) : eventOk (turnEv r c) = true := by
 obtain ⟨h1,h2⟩ := nextPpm_in hc hr
 obtain ⟨h3,h4⟩ := rule_parts hr
 have hb := hc.base
 have hi := hc.id
 unfold Amt at hb
 have e1 : inB c.id 1 99 = true := inB_true.2 hi
 have e2 : inB c.base 0 1125899906842624 = true := inB_true.2 hb
 have e3 : inB (nextPpm c r) 0 1000000 = true := inB_true.2 ⟨by omega,by omega⟩
 show (inB 4 1 11 && fieldB (hK 4) 0 1 1000000 && fieldB (hC 4) c.id 1 99 && fieldB (hT 4) 0 1 99 && !(hT 4 && c.id == 0) && fieldB (hA 4) c.base 0 1125899906842624 && fieldB (hF 4) (nextPpm c r) 0 1000000 && (hY 4 || !false)) = true
 rw [show hK 4 = false from rfl,show hC 4 = true from rfl,show hT 4 = false from rfl,show hA 4 = true from rfl,show hF 4 = true from rfl]
 unfold fieldB
 simp [e1,e2,e3,show inB 4 1 11 = true from rfl]
structure TrI (x : Book) (r : Rule) (y : Book) (done : List Chan) : Prop where
 ok : bookOk y = true
 next : y.next = x.next
 there : ∀ ch,There y.chans ch ↔ There x.chans ch
 yes : ∀ c ∈ x.chans,c ∈ done → chanOr y.chans c.id = { c with ppm := nextPpm c r }
 no : ∀ c ∈ x.chans,c ∉ done → chanOr y.chans c.id = c
theorem chan_inj {x : Book} (b : BOk x) {c d : Chan} (hc : c ∈ x.chans) (hd : d ∈ x.chans) (h : c.id = d.id) : c = d := by
 rw [← chanOr_eq b.asc hc,← chanOr_eq b.asc hd,h]
theorem TrI.start {x : Book} {r : Rule} (h : bookOk x = true) : TrI x r x [] := ⟨h,rfl,fun _ => Iff.rfl,fun c _ hd => by simp at hd,fun c hc _ => chanOr_eq (bOk_of h).asc hc⟩
theorem there_upd_iff {f : Chan → Chan} (hf : ∀ c,(f c).id = c.id) {l : List Chan} {a ch : Int} : There (updC l a f) ch ↔ There l ch := ⟨fun ⟨d,hd,q⟩ => by
 obtain ⟨c,hc,rfl⟩ := mem_upd hd
 refine ⟨c,hc,?_⟩
 rw [← q];split <;> simp [hf],fun h => there_upd hf h⟩
theorem turn_code {x y : Book} {r : Rule} {done : List Chan} (hr : ruleOk r = true) (hx : bookOk x = true) (h : TrI x r y done) {c : Chan} (hc : c ∈ x.chans) (hn : x.next ≠ 1125899906842624) : applyC y (turnEv r c) = 0 ∧ (workR y (turnEv r c)).l = [] ∧ (workR y (turnEv r c)).b = { y with chans := updC y.chans c.id fun d => { d with base := c.base,ppm := nextPpm c r } } := by
 have b := bOk_of hx
 have he := turnEv_ok (b.ch c hc) hr
 have ht : There y.chans c.id := (h.there c.id).2 ⟨c,hc,rfl⟩
 obtain ⟨i,d,q1,q2,_,_⟩ := chan_there (there_at.2 ht)
 have hw : workR y (turnEv r c) = ⟨{ y with chans := updC y.chans c.id fun d => { d with base := c.base,ppm := nextPpm c r } },[],0⟩ := by
  rw [← wk4 (e := turnEv r c) rfl]
  exact priR_yes (e := turnEv r c) (i := i) q1
 have hov : overB y (turnEv r c) = false := by
  unfold overB
  rw [h.next,if_neg hn]
  have k : (turnEv r c).kind = 4 := rfl
  simp [k]
 rw [applyC_work (by rw [h.ok,he];rfl) hov,hw]
 exact ⟨rfl,rfl,rfl⟩
theorem TrI.step {x y : Book} {r : Rule} {done : List Chan} (hr : ruleOk r = true) (hx : bookOk x = true) (h : TrI x r y done) {c : Chan} (hc : c ∈ x.chans) (hn : x.next ≠ 1125899906842624) (hd : c ∉ done) : TrI x r (appB y (turnEv r c)) (done ++ [c]) := by
 have b := bOk_of hx
 obtain ⟨h1,h2,h3⟩ := turn_code hr hx h hc hn
 have e := (appB_nil h1 h2).1
 rw [h3] at e
 have ht : There y.chans c.id := (h.there c.id).2 ⟨c,hc,rfl⟩
 have hup := fun ch => chanOr_upd (f := fun d : Chan => { d with base := c.base,ppm := nextPpm c r }) (by intro c;rfl) c.id ch y.chans
 have hself : chanOr (appB y (turnEv r c)).chans c.id = { c with ppm := nextPpm c r } := by
  rw [e]
  show chanOr (updC y.chans c.id _) c.id = _
  rw [hup,if_pos ⟨rfl,ht⟩,h.no c hc hd]
 have hoth : ∀ d ∈ x.chans,d ≠ c → chanOr (appB y (turnEv r c)).chans d.id = chanOr y.chans d.id := fun d hd' hne => by
  rw [e]
  show chanOr (updC y.chans c.id _) d.id = _
  rw [hup,if_neg (fun z => hne (chan_inj b hd' hc z.1))]
 refine ⟨bookOk_appB h1,by rw [e];exact h.next,fun ch => ?_,fun d hd' hq => ?_,fun d hd' hq => ?_⟩
 ·rw [e]
  exact (there_upd_iff (f := fun d : Chan => { d with base := c.base,ppm := nextPpm c r }) (fun _ => rfl)).trans (h.there ch)
 ·by_cases q : d = c
  ·subst q;exact hself
  ·rw [hoth d hd' q]
   refine h.yes d hd' ?_
   rcases List.mem_append.1 hq with z | z
   ·exact z
   ·exact absurd (List.mem_singleton.1 z) q
 ·have q : d ≠ c := fun z => hq (by simp [z])
  rw [hoth d hd' q]
  exact h.no d hd' fun z => hq (by simp [z])
theorem TrI.same {x y : Book} {r : Rule} {done : List Chan} (h : TrI x r y done) {c : Chan} (hq : nextPpm c r = c.ppm) : TrI x r y (done ++ [c]) := ⟨h.ok,h.next,h.there,fun d hd hm => by
 by_cases z : d ∈ done
 ·exact h.yes d hd z
 ·rcases List.mem_append.1 hm with q | q
  ·exact absurd q z
  ·have q := List.mem_singleton.1 q
   subst q
   rw [h.no d hd z,hq],fun d hd hm => h.no d hd fun z => hm (by simp [z])⟩
theorem turns_run {x : Book} {r : Rule} (hr : ruleOk r = true) (hx : bookOk x = true) (hn : x.next ≠ 1125899906842624) : ∀ (todo done : List Chan) (y : Book) (cs : List Int),(∀ c ∈ todo,c ∈ x.chans) → (done ++ todo).Pairwise (fun a b => a.id < b.id) → TrI x r y done →
 ∃ n,((todo.filterMap (turnOf r)).foldl allF ⟨y,cs,[]⟩).codes = cs ++ List.replicate n 0 ∧ TrI x r ((todo.filterMap (turnOf r)).foldl allF ⟨y,cs,[]⟩).now (done ++ todo)
 | [],done,y,cs,_,_,h => ⟨0,by simp,by simpa using h⟩
 | c :: todo,done,y,cs,hm,hp,h => by
  have hc := hm c (by simp)
  have hp' : ((done ++ [c]) ++ todo).Pairwise (fun a b => a.id < b.id) := by rw [List.append_assoc];exact hp
  by_cases q : nextPpm c r = c.ppm
  ·rw [List.filterMap_cons_none (turnOf_none q)]
   obtain ⟨n,h1,h2⟩ := turns_run hr hx hn todo (done ++ [c]) y cs (fun d hd => hm d (by simp [hd])) hp' (h.same q)
   exact ⟨n,h1,by rw [List.append_assoc] at h2;exact h2⟩
  ·rw [List.filterMap_cons_some (turnOf_some q),List.foldl_cons]
   have hd : c ∉ done := fun z => by
    have := (List.pairwise_append.1 hp).2.2 c z c (by simp)
    omega
   obtain ⟨k1,k2,k3⟩ := turn_code hr hx h hc hn
   have e : allF ⟨y,cs,[]⟩ (turnEv r c) = ⟨appB y (turnEv r c),cs ++ [0],[]⟩ := by
    unfold allF
    dsimp only
    rw [if_pos k1,if_neg (fun z => z.2 (by rw [(appB_nil k1 k2).2])),k1]
   rw [e]
   obtain ⟨n,h1,h2⟩ := turns_run hr hx hn todo (done ++ [c]) _ (cs ++ [0]) (fun d hd => hm d (by simp [hd])) hp' (h.step hr hx hc hn hd)
   exact ⟨n + 1,by rw [h1,List.append_assoc];rfl,by rw [List.append_assoc] at h2;exact h2⟩
theorem turns_eq {x : Book} {r : Rule} (hr : ruleOk r = true) (hx : bookOk x = true) : turnsOf x r = x.chans.filterMap (turnOf r) := if_pos ⟨hx,hr⟩
theorem turns_all {x : Book} {r : Rule} (hr : ruleOk r = true) (hx : bookOk x = true) (hn : x.next ≠ 1125899906842624) : (∀ c ∈ (allS x (turnsOf x r)).codes,c = 0) ∧ TrI x r (allS x (turnsOf x r)).now x.chans := by
 obtain ⟨n,h1,h2⟩ := turns_run hr hx hn x.chans [] x [] (fun c hc => hc) (bOk_of hx).asc (TrI.start hx)
 rw [turns_eq hr hx]
 refine ⟨fun c hc => ?_,h2⟩
 have e : (allS x (x.chans.filterMap (turnOf r))).codes = [] ++ List.replicate n 0 := h1
 rw [e,List.nil_append] at hc
 exact (List.mem_replicate.1 hc).2
theorem TrI.fee {x y : Book} {r : Rule} (hx : bookOk x = true) (hr : ruleOk r = true) (h : TrI x r y x.chans) {e : Event} (he : e ∈ turnsOf x r) : r.min ≤ e.fee ∧ e.fee ≤ r.max ∧ There y.chans e.ch ∧ ∀ d ∈ y.chans,d.id = e.ch → d.ppm = e.fee ∧ d.base = e.amt := by
 rw [turns_eq hr hx] at he
 obtain ⟨c,hc,q⟩ := List.mem_filterMap.1 he
 unfold turnOf at q
 split at q
 ·cases q
 injection q with q
 subst q
 have hcx : c ∈ x.chans := hc
 obtain ⟨h1,h2⟩ := nextPpm_in ((bOk_of hx).ch c hcx) hr
 refine ⟨h1,h2,(h.there c.id).2 ⟨c,hcx,rfl⟩,fun d hd hi => ?_⟩
 have hi : d.id = c.id := hi
 have e1 := chanOr_eq (bOk_of h.ok).asc hd
 rw [hi,h.yes c hcx hcx] at e1
 rw [← e1]
 exact ⟨rfl,rfl⟩
theorem TrI.still {x y : Book} {r : Rule} (hx : bookOk x = true) (hr : ruleOk r = true) (h : TrI x r y x.chans) : turnsOf y ⟨r.lo,r.hi,0,r.min,r.max⟩ = [] ∧ ruleOk ⟨r.lo,r.hi,0,r.min,r.max⟩ = true := by
 have hr0 : ruleOk ⟨r.lo,r.hi,0,r.min,r.max⟩ = true := by
  unfold ruleOk at hr ⊢
  simp only [Bool.and_eq_true] at hr ⊢
  exact ⟨⟨⟨hr.1.1.1,rfl⟩,hr.1.2⟩,hr.2⟩
 refine ⟨?_,hr0⟩
 rw [turns_eq hr0 h.ok]
 have by' := bOk_of h.ok
 refine List.filterMap_eq_nil_iff.2 fun d hd => turnOf_none ?_
 obtain ⟨c,hc,hi⟩ := (h.there d.id).1 ⟨d,hd,rfl⟩
 have e1 := chanOr_eq by'.asc hd
 rw [← hi,h.yes c hc hc] at e1
 obtain ⟨h1,h2⟩ := nextPpm_in ((bOk_of hx).ch c hc) hr
 have hdp : d.ppm = nextPpm c r := by rw [← e1]
 have k := by'.ch d hd
 have g : (ruleOk ⟨r.lo,r.hi,0,r.min,r.max⟩ && amtOk d.size && amtOk d.loc && part d.ppm) = true := by
  have a := k.size;have b := k.loc;have q := k.ppm
  unfold Amt at a b
  rw [hr0,amtOk_true.2 a,amtOk_true.2 b]
  exact inB_true.2 q
 unfold nextPpm
 rw [if_pos g]
 have hz : (if d.loc < ends1 d.size r.lo r.hi then d.ppm + 0 else if ends2 d.size r.lo r.hi < d.loc then d.ppm - 0 else d.ppm) = d.ppm := by
  split
  ·omega
  ·split <;> omega
 show clamp (if d.loc < ends1 d.size r.lo r.hi then d.ppm + 0 else if ends2 d.size r.lo r.hi < d.loc then d.ppm - 0 else d.ppm) r.min r.max = d.ppm
 rw [hz,hdp]
 unfold clamp
 rw [if_neg (by omega),if_neg (by omega)]
theorem turns_full {x : Book} {r : Rule} (hr : ruleOk r = true) (hx : bookOk x = true) (hn : x.next = 1125899906842624) : ∀ c ∈ (allS x (turnsOf x r)).codes,c = 2 := by
 have key : ∀ (es : List Event) (cs : List Int),(∀ e ∈ es,eventOk e = true) → (∀ c ∈ cs,c = 2) → ∀ c ∈ (es.foldl allF ⟨x,cs,[]⟩).codes,c = 2 := by
  intro es
  induction es with
  | nil => intro cs _ h;exact h
  | cons e es ih =>
   intro cs he h
   have hc : applyC x e = 2 := applyC_over (by rw [hx,he e (by simp)];rfl) (by unfold overB;rw [if_pos hn])
   rw [List.foldl_cons,show allF ⟨x,cs,[]⟩ e = ⟨x,cs ++ [2],[]⟩ from by
    unfold allF
    dsimp only
    rw [hc,if_neg (by decide),if_neg (fun z => absurd z.1 (by decide))]]
   refine ih _ (fun e' h' => he e' (by simp [h'])) (fun c hc' => ?_)
   rcases List.mem_append.1 hc' with q | q
   ·exact h c q
   ·exact List.mem_singleton.1 q
 refine key (turnsOf x r) [] (fun e he => ?_) (by simp)
 rw [turns_eq hr hx] at he
 obtain ⟨c,hc,q⟩ := List.mem_filterMap.1 he
 unfold turnOf at q
 split at q
 ·cases q
 injection q with q
 subst q
 exact turnEv_ok ((bOk_of hx).ch c hc) hr

set_option maxHeartbeats 16000000
set_option maxRecDepth 100000
abbrev rulV (r : Rule) : AV := .agg [int r.lo,int r.hi,int r.step,int r.min,int r.max]
theorem one_ev2 (e : Event) : ∀ u ∈ encEvent e,u.oneCell' = true := one_ev _ _ _ _ _ _ _
theorem impl_Turns_e (x : Book) (r : Rule) (hw : BookWf x) : GC Tryz.prog 24 [bookV x,rulV r] [] (.p (.lst 29 7 (rowsOf encEvent (turnsOf x r)))) [] := GC.of_sl (rep := repEvent) (fun _ _ _ _ _ h => h.1) (fun _ => rfl) one_ev2 fun L ρ w cs h => by
 obtain ⟨c,d,rfl,hc,hd⟩ := h.two
 obtain ⟨a0,c0,a1,c1,a2,c2,rfl,s0,s1,s2⟩ := bookArg hc hw
 rw [valA_eq (v := .agg #[.int .i64 r.lo,.int .i64 r.hi,.int .i64 r.step,.int .i64 r.min,.int .i64 r.max]) rfl hd]
 refine (impl_Turns_c x _ _ _ _ _ _ r w s0 s1 s2 hw.len).mono ?_
 rintro e w' ⟨a,c,rfl,g,q⟩
 exact ⟨_,rfl,g,q⟩
theorem spec_Turns_e (x : Book) (r : Rule) (hw : BookWf x) : GC Tryz.prog 25 [bookV x,rulV r] [] (.p (.lst 29 7 (rowsOf encEvent (turnsOf x r)))) [] := GC.of_sl (rep := repEvent) (fun _ _ _ _ _ h => h.1) (fun _ => rfl) one_ev2 fun L ρ w cs h => by
 obtain ⟨c,d,rfl,hc,hd⟩ := h.two
 obtain ⟨a0,c0,a1,c1,a2,c2,rfl,s0,s1,s2⟩ := bookArg hc hw
 rw [valA_eq (v := .agg #[.int .i64 r.lo,.int .i64 r.hi,.int .i64 r.step,.int .i64 r.min,.int .i64 r.max]) rfl hd]
 refine (spec_Turns_c x _ _ _ _ _ _ r w s0 s1 s2 hw.len).mono ?_
 rintro e w' ⟨a,c,rfl,g,q⟩
 exact ⟨_,rfl,g,q⟩
theorem iruleOk_e (r : Rule) : GC Tryz.prog 83 [rulV r] [] (boo (ruleOk r)) [] := GC.of_old (RV.v_mk rfl) fun L ρ w cs h => by
 obtain ⟨c,rfl,hc⟩ := h.sole
 rw [valA_eq (v := .agg #[.int .i64 r.lo,.int .i64 r.hi,.int .i64 r.step,.int .i64 r.min,.int .i64 r.max]) rfl hc]
 exact impl_RuleOk_c r w
theorem sruleOk_e (r : Rule) : GC Tryz.prog 23 [rulV r] [] (boo (ruleOk r)) [] := GC.of_old (RV.v_mk rfl) fun L ρ w cs h => by
 obtain ⟨c,rfl,hc⟩ := h.sole
 rw [valA_eq (v := .agg #[.int .i64 r.lo,.int .i64 r.hi,.int .i64 r.step,.int .i64 r.min,.int .i64 r.max]) rfl hc]
 exact spec_RuleOk_c r w
def stillB (x : Book) (r : Rule) : Bool := bookOk x && ruleOk r && decide ((turnsOf x r).length = 0)
def DrRl : AV → Prop := fun x => ∃ a b c d e : Int,(i64 a ∧ i64 b ∧ i64 c ∧ i64 d ∧ i64 e) ∧ x = .agg [int a,int b,int c,int d,int e]
theorem steady_e (x : Book) (r : Rule) (hw : BookWf x) : GC Tryz.prog 26 [bookV x,rulV r] [] (boo (stillB x r)) [] := by
 refine gi 4 Tryz.func26 rfl Tryz.ntmps26 rfl ?_
 intro L O w0
 refine sL<|lst (zX 2002 Z) Z<|lst (zX 2003 Z) Z<|laZ Z<|nA<|loX (.agg [vI _ _,vI _ _,vI _ _,vL _ _ _,vL _ _ _,vL _ _ _]) ty.kd27 Z<|lst (zC [] [] [] Tryz.func11 (impl_BookOk_e x hw) (trivial) Z Z) Z<|lmB Z ?_
 refine AL.bool (t := 7) rfl ?_ ?_
 ·intro h1
  refine loX (.agg [vI _ _,vI _ _,vI _ _,vI _ _,vI _ _]) ty.kd59 Z<|lst (zC [] [] [] Tryz.func83 (iruleOk_e r) (trivial) Z Z) Z<|lkB Z<|lmB Z ?_
  refine AL.bool (t := 11) rfl ?_ ?_
  ·intro h2
   refine loX (.agg [vI _ _,vI _ _,vI _ _,vL _ _ _,vL _ _ _,vL _ _ _]) ty.kd27 Z<|loX (.agg [vI _ _,vI _ _,vI _ _,vI _ _,vI _ _]) ty.kd59 Z<|lst (zC [] [] [] Tryz.func24 (impl_Turns_e x r hw) (trivial) Z Z) Z<|lnI ty.sl44 Z<|lbB Z<|lkB Z<|laB Z<|nG<|aR ?_
   refine eBo trivial ?_
   unfold stillB
   simp_all [length_rowsOf]
  ·intro h2
   refine lno Z<|lno Z<|lno Z<|lno Z<|lno Z<|lkZ Z<|laZ Z<|nG<|aR ?_
   refine eBo trivial ?_
   unfold stillB
   simp_all [length_rowsOf]
 ·intro h1
  refine lno Z<|lno Z<|lkZ Z<|lmZ Z<|lno Z<|lno Z<|lno Z<|lno Z<|lno Z<|lkZ Z<|laZ Z<|nG<|aR ?_
  refine eBo trivial ?_
  unfold stillB
  simp_all [length_rowsOf]
theorem l10Rule_e (g : Value) (code : List Int) (i : Nat) (h : Int) (hc : CurOk code i) : GX Tryz.prog 123 [.ptr 0 0 0] [(0,curO g code i h)] (DrR g code fun x => ∃ a b c d e : Int,(-10000 ≤ a ∧ a ≤ 10000 ∧ -10000 ≤ b ∧ b ≤ 10000 ∧ -10000 ≤ c ∧ c ≤ 10000 ∧ -10000 ≤ d ∧ d ≤ 10000 ∧ -10000 ≤ e ∧ e ≤ 10000) ∧ x = .agg [int a,int b,int c,int d,int e]) := by
 refine GX.intro (rs := [.cell 2 59 (some 5)]) Tryz.func123 rfl Tryz.ntmps123 (Nat.le_of_ble_eq_true rfl) ⟨rfl,rfl,ty.kd59,trivial⟩ ?_
 intro L O w0
 refine sL<|lst (zA 2002 ty.ze59 Z) Z<|nA<|lmP Z ?_
 refine lX [(0,0)] [] [0] Tryz.func35 (l01Below_e g code _ _ _ hc) (⟨⟨0,rfl,rfl⟩,trivial⟩) (pins_cur) Z ?_
 intro xz1 oz1 hz1
 obtain ⟨i1,q1,hc1,⟨n1,⟨na1,nb1⟩,rfl⟩,rfl⟩ := hz1
 refine lmP rfl ?_
 refine lX [(0,0)] [] [0] Tryz.func35 (l01Below_e g code _ _ _ hc1) (⟨⟨0,rfl,rfl⟩,trivial⟩) (pins_cur) Z ?_
 intro xz2 oz2 hz2
 obtain ⟨i2,q2,hc2,⟨n2,⟨na2,nb2⟩,rfl⟩,rfl⟩ := hz2
 refine lmP rfl ?_
 refine lX [(0,0)] [] [0] Tryz.func35 (l01Below_e g code _ _ _ hc2) (⟨⟨0,rfl,rfl⟩,trivial⟩) (pins_cur) Z ?_
 intro xz3 oz3 hz3
 obtain ⟨i3,q3,hc3,⟨n3,⟨na3,nb3⟩,rfl⟩,rfl⟩ := hz3
 refine lq (rd (x := .agg [vI _ _,vI _ _,vI _ _,vI _ _,vI _ _]) (rd_build Z ty.sa59 Z Z Z) Z)<|lst (zA 2003 ty.ze59 Z) Z<|lst (zB 2003 ty.co59 ty.inf59 Z) Z<|nG<|aS<|aG 6 [0]<|tq 0 (rf 0 ty.F59_0 Z)<|tq 1 (roI ty.kd3 Z)<|yq 2 (rmP Z) ?_
 refine AG.stx (i := 3) rfl (by kernel_rfl) (St.callX [(0,0)] [] [0] rfl (by intro s hs;cases hs;decide) rfl Tryz.func35 rfl rfl (l01Below_e g code _ _ _ hc3) ⟨rfl,rfl,rfl⟩ (⟨⟨0,rfl,rfl⟩,trivial⟩) (pins_cur) rfl) (exK (l := [0]) rfl rfl) rfl ?_
 rintro _ _ ⟨xz5,oz5,hz5,rfl,rfl⟩
 obtain ⟨i5,q5,hc5,⟨n5,⟨na5,nb5⟩,rfl⟩,rfl⟩ := hz5
 refine gX [0,2,3,12,14] [0,2002,2003] ?_
 refine yq 4 (rgI rfl (by unfold i64;omega))<|yq 5 (rf 1 ty.F59_1 rfl)<|yl rfl (zB 2003 ty.co3 ty.inf3 rfl)<|gT<|aS<|aG 6 [0]<|tq 0 (rf 3 ty.F59_3 rfl)<|tq 1 (roI ty.kd3 rfl)<|yq 2 (rmP rfl) ?_
 refine AG.stx (i := 3) rfl (by kernel_rfl) (St.callX [(0,0)] [] [0] rfl (by intro s hs;cases hs;decide) rfl Tryz.func35 rfl rfl (l01Below_e g code _ _ _ hc5) ⟨rfl,rfl,rfl⟩ (⟨⟨0,rfl,rfl⟩,trivial⟩) (pins_cur) rfl) (exK (l := [0]) rfl rfl) rfl ?_
 rintro _ _ ⟨xz7,oz7,hz7,rfl,rfl⟩
 obtain ⟨i7,q7,hc7,⟨n7,⟨na7,nb7⟩,rfl⟩,rfl⟩ := hz7
 refine yq 4 (rgI rfl (by unfold i64;omega))<|yq 5 (rf 4 ty.F59_4 rfl)<|yl rfl (zB 2003 ty.co3 ty.inf3 rfl)<|gA<|loX (.agg [vI _ _,vI _ _,vI _ _,vI _ _,vI _ _]) ty.kd59 Z<|lst (zB 2002 ty.co59 ty.inf59 rfl) Z<|nG<|aR ?_
 refine end_xret ((.agg [int _,int _,int _,int _,int _])) [(0,curO g code i7 q7)] ?_ rfl ⟨rfl,trivial⟩
 exact ⟨_,_,by assumption,⟨_,_,_,_,_,by omega,rfl⟩,rfl⟩
theorem l10Any_e (g : Value) (code : List Int) (i : Nat) (h : Int) (hc : CurOk code i) : GX Tryz.prog 75 [.ptr 0 0 0] [(0,curO g code i h)] (DrR g code DrRl) := by
 refine GX.intro (rs := [.cell 2 59 (some 5)]) Tryz.func75 rfl Tryz.ntmps75 (Nat.le_of_ble_eq_true rfl) ⟨rfl,rfl,ty.kd59,trivial⟩ ?_
 intro L O w0
 refine sL<|lst (zA 2002 ty.ze59 Z) Z<|nA<|lmP Z ?_
 refine lX [(0,0)] [] [0] Tryz.func123 (l10Rule_e g code _ _ hc) (⟨⟨0,rfl,rfl⟩,trivial⟩) (pins_cur) Z ?_
 intro xz1 oz1 hz1
 obtain ⟨i1,q1,hc1,⟨ra1,rb1,rc1,rd1,re1,hr1,rfl⟩,rfl⟩ := hz1
 refine lst (zA 2003 ty.ze59 Z) Z<|lst (zB 2003 ty.co59 ty.inf59 Z) Z<|nA<|lmP Z ?_
 refine lX [(0,0)] [] [0] Tryz.func35 (l01Below_e g code _ _ _ hc1) (⟨⟨0,rfl,rfl⟩,trivial⟩) (pins_cur) Z ?_
 intro xz2 oz2 hz2
 obtain ⟨i2,q2,hc2,⟨n2,⟨na2,nb2⟩,rfl⟩,rfl⟩ := hz2
 refine laI Z<|nG ?_
 refine aJ [0,2,3,4] [2002] (D := Nat × Int × Int × Int × Int × Int × Int) (fun d => []) (fun d => [(0,curO g code d.1 d.2.1),(2003,.box 59 none [int d.2.2.1,int d.2.2.2.1,int d.2.2.2.2.1,int d.2.2.2.2.2.1,int d.2.2.2.2.2.2])]) (fun d => CurOk code d.1 ∧ ((-10001 ≤ d.2.2.1 ∧ d.2.2.1 ≤ 10001) ∧ (-10001 ≤ d.2.2.2.2.2.1 ∧ d.2.2.2.2.2.1 ≤ 10001)) ∧ i64 d.2.2.2.1 ∧ i64 d.2.2.2.2.1 ∧ i64 d.2.2.2.2.2.2) ?_ ?_
 ·refine sL<|lmI Z<|lbB Z<|nG ?_
  refine AW.cond rfl ?_ ?_
  ·intro h1
   refine aL<|lf 0 ty.F59_0 Z<|loI ty.kd3 Z<|lgI Z<|lf 1 ty.F59_1 Z<|lst (zB 2003 ty.co3 ty.inf3 Z) Z<|lT [0,2,3,4] [0,2002,2003] ?_
   refine nG ?_
   refine ⟨(_,_,_,_,_,_,_),⟨by assumption,by dsimp only;omega,by dsimp only;first | assumption | (unfold i64 at *;omega),by dsimp only;first | assumption | (unfold i64 at *;omega),by dsimp only;first | assumption | (unfold i64 at *;omega)⟩,trivial,⟨rfl,rfl,trivial⟩,rfl,rfl⟩
  ·intro h1
   refine aK<|gT ?_
   refine ⟨(_,_,_,_,_,_,_),⟨by assumption,by dsimp only;omega,by dsimp only;first | assumption | (unfold i64 at *;omega),by dsimp only;first | assumption | (unfold i64 at *;omega),by dsimp only;first | assumption | (unfold i64 at *;omega)⟩,trivial,⟨rfl,rfl,trivial⟩,rfl,rfl⟩
 ·intro ⟨iJ5,qJ5,ra5,rb5,rc5,rd5,re5⟩ hJ5
  dsimp only
  obtain ⟨hcJ5,hwJ5,hx5,hy5,hz5⟩ := hJ5
  simp only at hcJ5 hwJ5 hx5 hy5 hz5
  refine aJ [0,2,3,4] [2002] (D := Nat × Int × Int × Int × Int × Int × Int) (fun d => []) (fun d => [(0,curO g code d.1 d.2.1),(2003,.box 59 none [int d.2.2.1,int d.2.2.2.1,int d.2.2.2.2.1,int d.2.2.2.2.2.1,int d.2.2.2.2.2.2])]) (fun d => CurOk code d.1 ∧ ((-10001 ≤ d.2.2.1 ∧ d.2.2.1 ≤ 10001) ∧ (-10001 ≤ d.2.2.2.2.2.1 ∧ d.2.2.2.2.2.1 ≤ 10001)) ∧ i64 d.2.2.2.1 ∧ i64 d.2.2.2.2.1 ∧ i64 d.2.2.2.2.2.2) ?_ ?_
  ·refine sL<|lmI Z<|lbB Z<|nG ?_
   refine AW.cond rfl ?_ ?_
   ·intro h2
    refine aL<|lmP Z ?_
    refine lX [(0,0)] [] [0] Tryz.func90 (l01Raw_e g code _ _ hcJ5) (⟨⟨0,rfl,rfl⟩,trivial⟩) (pins_cur) Z ?_
    intro xz3 oz3 hz3
    obtain ⟨i3,q3,hc3,⟨n3,hn3,rfl⟩,rfl⟩ := hz3
    refine lf 2 ty.F59_2 Z<|lst (zB 2003 ty.co3 ty.inf3 Z) Z<|nG ?_
    refine ⟨(_,_,_,_,_,_,_),⟨by assumption,by dsimp only;omega,by dsimp only;first | assumption | (unfold i64 at *;omega),by dsimp only;first | assumption | (unfold i64 at *;omega),by dsimp only;first | assumption | (unfold i64 at *;omega)⟩,trivial,⟨rfl,rfl,trivial⟩,rfl,rfl⟩
   ·intro h2
    refine aK<|gT ?_
    refine ⟨(_,_,_,_,_,_,_),⟨by assumption,by dsimp only;omega,by dsimp only;first | assumption | (unfold i64 at *;omega),by dsimp only;first | assumption | (unfold i64 at *;omega),by dsimp only;first | assumption | (unfold i64 at *;omega)⟩,trivial,⟨rfl,rfl,trivial⟩,rfl,rfl⟩
  ·intro ⟨iJ7,qJ7,ra7,rb7,rc7,rd7,re7⟩ hJ7
   dsimp only
   obtain ⟨hcJ7,hwJ7,hx7,hy7,hz7⟩ := hJ7
   simp only at hcJ7 hwJ7 hx7 hy7 hz7
   refine aJ [0,2,3,4] [2002] (D := Nat × Int × Int × Int × Int × Int × Int) (fun d => []) (fun d => [(0,curO g code d.1 d.2.1),(2003,.box 59 none [int d.2.2.1,int d.2.2.2.1,int d.2.2.2.2.1,int d.2.2.2.2.2.1,int d.2.2.2.2.2.2])]) (fun d => CurOk code d.1 ∧ ((-10001 ≤ d.2.2.1 ∧ d.2.2.1 ≤ 10001) ∧ (-10001 ≤ d.2.2.2.2.2.1 ∧ d.2.2.2.2.2.1 ≤ 10001)) ∧ i64 d.2.2.2.1 ∧ i64 d.2.2.2.2.1 ∧ i64 d.2.2.2.2.2.2) ?_ ?_
   ·refine sL<|lmI Z<|lbB Z<|nG ?_
    refine AW.cond rfl ?_ ?_
    ·intro h3
     refine aL<|lf 3 ty.F59_3 Z<|loI ty.kd3 Z<|lgI Z<|lf 4 ty.F59_4 Z<|lst (zB 2003 ty.co3 ty.inf3 Z) Z<|nG ?_
     refine ⟨(_,_,_,_,_,_,_),⟨by assumption,by dsimp only;omega,by dsimp only;first | assumption | (unfold i64 at *;omega),by dsimp only;first | assumption | (unfold i64 at *;omega),by dsimp only;first | assumption | (unfold i64 at *;omega)⟩,trivial,⟨rfl,rfl,trivial⟩,rfl,rfl⟩
    ·intro h3
     refine aK<|gT ?_
     refine ⟨(_,_,_,_,_,_,_),⟨by assumption,by dsimp only;omega,by dsimp only;first | assumption | (unfold i64 at *;omega),by dsimp only;first | assumption | (unfold i64 at *;omega),by dsimp only;first | assumption | (unfold i64 at *;omega)⟩,trivial,⟨rfl,rfl,trivial⟩,rfl,rfl⟩
   ·intro ⟨iJ9,qJ9,ra9,rb9,rc9,rd9,re9⟩ hJ9
    dsimp only
    obtain ⟨hcJ9,hwJ9,hx9,hy9,hz9⟩ := hJ9
    simp only at hcJ9 hwJ9 hx9 hy9 hz9
    refine aJ [2,3] [2002] (D := Nat × Int × Int × Int × Int × Int × Int) (fun d => []) (fun d => [(0,curO g code d.1 d.2.1),(2003,.box 59 none [int d.2.2.1,int d.2.2.2.1,int d.2.2.2.2.1,int d.2.2.2.2.2.1,int d.2.2.2.2.2.2])]) (fun d => CurOk code d.1 ∧ ((-10001 ≤ d.2.2.1 ∧ d.2.2.1 ≤ 10001) ∧ (-10001 ≤ d.2.2.2.2.2.1 ∧ d.2.2.2.2.2.1 ≤ 10001)) ∧ i64 d.2.2.2.1 ∧ i64 d.2.2.2.2.1 ∧ i64 d.2.2.2.2.2.2) ?_ ?_
    ·refine sL<|lmI Z<|lbB Z<|nG ?_
     refine AW.cond rfl ?_ ?_
     ·intro h4
      refine aL<|lmP Z ?_
      refine lX [(0,0)] [] [0] Tryz.func90 (l01Raw_e g code _ _ hcJ9) (⟨⟨0,rfl,rfl⟩,trivial⟩) (pins_cur) Z ?_
      intro xz4 oz4 hz4
      obtain ⟨i4,q4,hc4,⟨n4,hn4,rfl⟩,rfl⟩ := hz4
      refine lf 4 ty.F59_4 Z<|lst (zB 2003 ty.co3 ty.inf3 Z) Z<|nG ?_
      refine ⟨(_,_,_,_,_,_,_),⟨by assumption,by dsimp only;omega,by dsimp only;first | assumption | (unfold i64 at *;omega),by dsimp only;first | assumption | (unfold i64 at *;omega),by dsimp only;first | assumption | (unfold i64 at *;omega)⟩,trivial,⟨rfl,rfl,trivial⟩,rfl,rfl⟩
     ·intro h4
      refine aK<|gT ?_
      refine ⟨(_,_,_,_,_,_,_),⟨by assumption,by dsimp only;omega,by dsimp only;first | assumption | (unfold i64 at *;omega),by dsimp only;first | assumption | (unfold i64 at *;omega),by dsimp only;first | assumption | (unfold i64 at *;omega)⟩,trivial,⟨rfl,rfl,trivial⟩,rfl,rfl⟩
    ·intro ⟨iJ11,qJ11,ra11,rb11,rc11,rd11,re11⟩ hJ11
     dsimp only
     obtain ⟨hcJ11,hwJ11,hx11,hy11,hz11⟩ := hJ11
     simp only at hcJ11 hwJ11 hx11 hy11 hz11
     refine sL<|loX (.agg [vI _ _,vI _ _,vI _ _,vI _ _,vI _ _]) ty.kd59 Z<|lst (zB 2002 ty.co59 ty.inf59 Z) Z<|nG<|aR ?_
     refine end_xret ((.agg [int _,int _,int _,int _,int _])) [(0,curO g code _ _)] ?_ rfl ⟨rfl,trivial⟩
     exact ⟨_,_,by assumption,⟨_,_,_,_,_,by unfold i64 at *;omega,rfl⟩,rfl⟩
def DrT : AV → List (Nat × AO) → Prop := fun x ob => ∃ a b c l h i r,BookWf ⟨a,b,c,l,h,i⟩ ∧ x = .tup [ownB a b c,rulV r] ∧ ob = obB l h i
theorem drawTurns_e (code : List Int) (hm : code.length ≤ 1048576) : GX Tryz.prog 21 [.p (.lst 5 1 (rowsOf encU8 code))] [] (DrT) := by
 refine GX.intro (rs := [.cell 2 27 (some 6),.cell 3 59 (some 5)]) Tryz.func21 rfl Tryz.ntmps21 (Nat.le_of_ble_eq_true rfl) ⟨rfl,rfl,ty.kd27,rfl,rfl,ty.kd59,trivial⟩ ?_
 intro L O w0
 refine sL<|lst (zA 2002 ty.ze27 Z) Z<|lst (zA 2003 ty.ze59 Z) Z<|nA<|lmL Z ?_
 refine lX [(31,0)] [0] [] Tryz.func32 (l01New_e code hm) (trivial) (fun _ _ _ => trivial) Z ?_
 intro xz1 oz1 hz1
 obtain ⟨q1,rfl,rfl⟩ := hz1
 refine laP Z<|nA ?_
 refine AL.pinB 0 rfl ?_
 intro g
 have hc : CurOk code 0 := ⟨Nat.zero_le _,hm⟩
 refine lmP rfl ?_
 refine lX [(0,0),(1,1),(2,2),(3,3)] [1,2,3] [0] Tryz.func74 (l07Draw_e g code _ _ 16 hc (by omega)) (⟨⟨0,rfl,rfl⟩,trivial⟩) (pins_curX) Z ?_
 intro xz2 oz2 hz2
 obtain ⟨i2,q2,_,hc2,⟨_,_,_,_,_,_,hw2,rfl,rfl⟩,rfl⟩ := hz2
 refine lst (zA 2005 ty.ze27 Z) Z<|lst (zB 2005 ty.co27 ty.inf27 Z) Z<|nG ?_
 refine aJ [2,3,4,5] [2002,2003] (D := Nat × Int × Int × Int × Int × List Chan × List Htlc × List Circle) (fun d => []) (fun d => [(0,curO g code d.1 d.2.1),(2005,.box 27 none [int d.2.2.1,int d.2.2.2.1,int d.2.2.2.2.1,.own 1,.own 2,.own 3]),(1,.arr 40 7 (rowsOf encChan d.2.2.2.2.2.1)),(2,.arr 68 7 (rowsOf encHtlc d.2.2.2.2.2.2.1)),(3,.arr 78 5 (rowsOf encCircle d.2.2.2.2.2.2.2))]) (fun d => CurOk code d.1 ∧ BookWf ⟨d.2.2.1,d.2.2.2.1,d.2.2.2.2.1,d.2.2.2.2.2.1,d.2.2.2.2.2.2.1,d.2.2.2.2.2.2.2⟩) ?_ ?_
 ·refine sL<|lmP Z ?_
  refine lX [(0,0)] [] [0] Tryz.func35 (l01Below_e g code _ _ _ hc2) (⟨⟨0,rfl,rfl⟩,trivial⟩) (pins_cur) Z ?_
  intro xz3 oz3 hz3
  obtain ⟨i3,q3,hc3,⟨n3,⟨na3,nb3⟩,rfl⟩,rfl⟩ := hz3
  refine lbB Z<|nG ?_
  refine AW.cond rfl ?_ ?_
  ·intro h1
   refine aL<|lmP Z ?_
   refine lX [(0,0),(1,1),(2,2),(3,3)] [1,2,3] [0] Tryz.func33 (l07Any_e g code _ _ hc3) (⟨⟨0,rfl,rfl⟩,trivial⟩) (pins_curX) Z ?_
   intro xz4 oz4 hz4
   obtain ⟨i4,q4,_,hc4,⟨_,_,_,_,_,_,hw4,rfl,rfl⟩,rfl⟩ := hz4
   refine lT [2,3,4,5,14] [0,1,2,3,2002,2003,2005] ?_
   refine lst (zB 2005 ty.co27 ty.inf27 Z) Z<|nG ?_
   refine ⟨(_,_,_,_,_,_,_,_),⟨by assumption,by assumption⟩,trivial,⟨rfl,rfl,rfl,rfl,rfl,trivial⟩,rfl,rfl⟩
  ·intro h1
   refine aK<|gT ?_
   refine ⟨(_,_,_,_,_,_,_,_),⟨by assumption,by assumption⟩,trivial,⟨rfl,rfl,rfl,rfl,rfl,trivial⟩,rfl,rfl⟩
 ·intro ⟨iJ5,qJ5,aJ5,bJ5,cJ5,lJ5,xJ5,yJ5⟩ hJ5
  dsimp only
  obtain ⟨hcJ5,hwJ5⟩ := hJ5
  simp only at hcJ5 hwJ5
  refine aS<|aG 4 [0,2002]<|tq 0 (roX (.agg [vI _ _,vI _ _,vI _ _,.own _,.own _,.own _]) ty.kd27 Z)<|yq 1 (rmP Z) ?_
  refine AG.stx (i := 2) rfl (by kernel_rfl) (St.callX [(0,0)] [] [0] rfl (by intro s hs;cases hs;decide) rfl Tryz.func75 rfl rfl (l10Any_e g code _ _ hcJ5) ⟨rfl,rfl,rfl⟩ (⟨⟨0,rfl,rfl⟩,trivial⟩) (pins_cur) rfl) (exK (l := [0]) rfl rfl) rfl ?_
  rintro _ _ ⟨xz6,oz6,hz6,rfl,rfl⟩
  obtain ⟨i6,q6,hc6,⟨ra6,rb6,rc6,rd6,re6,hr6,rfl⟩,rfl⟩ := hz6
  refine yst 3 Z (zB 2002 ty.co27 ty.inf27 Z)<|yl Z (zB 2003 ty.co59 ty.inf59 Z)<|gT<|aR ?_
  refine end_xret ((.tup [ownB _ _ _,.agg [int _,int _,int _,int _,int _]])) (obB _ _ _) ?_ rfl ⟨rfl,rfl,rfl,trivial⟩
  exact ⟨_,_,_,_,_,_,⟨_,_,_,_,_⟩,hwJ5,rfl,rfl⟩
theorem turn_fact {x : Book} {r : Rule} (hn : bookOk x = true → ruleOk r = true → x.next ≠ 1125899906842624) {k : Nat} (hk : k < (turnsOf x r).length) : ∃ h2 : k < (allA x (turnsOf x r)).codes.length,(allA x (turnsOf x r)).codes[k] = 0 ∧ r.min ≤ (turnsOf x r)[k].fee ∧ (turnsOf x r)[k].fee ≤ r.max ∧ There (allA x (turnsOf x r)).now.chans (turnsOf x r)[k].ch ∧ bookOk (allA x (turnsOf x r)).now = true ∧ ∀ d ∈ (allA x (turnsOf x r)).now.chans,d.id = (turnsOf x r)[k].ch → d.ppm = (turnsOf x r)[k].fee ∧ d.base = (turnsOf x r)[k].amt := by
 have q : bookOk x = true ∧ ruleOk r = true := by
  refine Classical.byContradiction fun z => ?_
  unfold turnsOf at hk
  rw [if_neg z] at hk
  simp at hk
 obtain ⟨hx,hr⟩ := q
 obtain ⟨t1,t2⟩ := turns_all hr hx (hn hx hr)
 have hl := allS_codes (x := x) (es := turnsOf x r) _ (Nat.le_refl _)
 rw [List.take_length] at hl
 rw [← allA_ok hx] at t1 t2 hl
 obtain ⟨f1,f2,f3,f4⟩ := t2.fee hx hr (List.getElem_mem hk)
 have h2 : k < (allA x (turnsOf x r)).codes.length := by omega
 exact ⟨h2,t1 _ (List.getElem_mem h2),f1,f2,f3,t2.ok,f4⟩
theorem turn_still {x : Book} {r : Rule} (hx : bookOk x = true) (hr : ruleOk r = true) (hn : x.next ≠ 1125899906842624) : stillB (allA x (turnsOf x r)).now ⟨r.lo,r.hi,0,r.min,r.max⟩ = true := by
 obtain ⟨t1,t2⟩ := turns_all hr hx hn
 rw [allA_ok hx]
 obtain ⟨s1,s2⟩ := t2.still hx hr
 unfold stillB
 rw [t2.ok,s1,s2];rfl
theorem turn_full {x : Book} {r : Rule} (hx : bookOk x = true) (hr : ruleOk r = true) (hn : x.next = 1125899906842624) : (allA x (turnsOf x r)).codes.length = (turnsOf x r).length ∧ ∀ c ∈ (allA x (turnsOf x r)).codes,c = 2 := by
 have hl := allS_codes (x := x) (es := turnsOf x r) _ (Nat.le_refl _)
 rw [List.take_length] at hl
 rw [allA_ok hx]
 exact ⟨hl,turns_full hr hx hn⟩
theorem turns_none {x : Book} {r : Rule} {b : Bool} (h : b = (bookOk x && ruleOk r)) (hb : b = false) : turnsOf x r = [] := by
 unfold turnsOf
 rw [if_neg]
 rintro ⟨h1,h2⟩
 rw [h1,h2,hb] at h
 cases h
theorem turns_right {x : Book} {r : Rule} {b : Bool} (h : b = (bookOk x && ruleOk r)) (hb : b = true) : bookOk x = true ∧ ruleOk r = true := by
 rw [hb] at h
 rw [← Bool.and_eq_true,← h]
theorem fnTurns_e (code : List Int) : GC Tryz.prog 5 [.p (.lst 5 1 (rowsOf encU8 code))] [] (boo true) [] := by
 refine gi 2 Tryz.func5 rfl Tryz.ntmps5 rfl ?_
 intro L O w0
 refine sL<|laZ Z<|nG<|aS<|sL<|lmL Z<|lnI ty.sl22 Z<|lbB Z<|nG ?_
 refine AW.cond rfl ?_ ?_
 ·intro h1
  refine sL<|laT Z<|nG<|aR<|rT ?_
  refine eBo trivial ?_
  rfl
 ·intro h1
  refine aK<|gA<|lmL Z ?_
  have hm : code.length ≤ 1048576 := by have h := h1;simp [length_rowsOf] at h;omega
  refine lX [(1,1),(2,2),(3,3)] [1,2,3] [] Tryz.func21 (drawTurns_e code hm) (trivial) (fun _ _ _ => trivial) Z ?_
  intro xz1 oz1 hz1
  obtain ⟨wa,wb,wc,wl,wh,wi,wr,hwB,rfl,rfl⟩ := hz1
  refine lmX (.tup [.agg [vI _ _,vI _ _,vI _ _,.own _,.own _,.own _],.agg [vI _ _,vI _ _,vI _ _,vI _ _,vI _ _]]) rfl ?_
  refine AL.freeze 1 rfl ?_
  refine AL.freeze 2 rfl ?_
  refine AL.freeze 3 rfl ?_
  refine lxX (.agg [vI _ _,vI _ _,vI _ _,vL _ _ _,vL _ _ _,vL _ _ _]) Z<|lxX (.agg [vI _ _,vI _ _,vI _ _,vI _ _,vI _ _]) Z<|lst (zA 2003 ty.ze27 Z) Z<|lst (zA 2004 ty.ze59 Z) Z<|lst (zB 2003 ty.co27 ty.inf27 Z) Z<|lst (zB 2004 ty.co59 ty.inf59 Z) Z<|lT [2,3,4] [2003,2004] ?_
  refine nG ?_
  refine aJ [2,3,4] [2003,2004] (D := Bool) (fun d => [(5,boo d)]) (fun d => []) (fun d => d = (bookOk ⟨wa,wb,wc,wl,wh,wi⟩ && ruleOk wr)) ?_ ?_
  ·refine aL<|loX (.agg [vI _ _,vI _ _,vI _ _,vL _ _ _,vL _ _ _,vL _ _ _]) ty.kd27 Z ?_
   refine lst (zC [] [] [] Tryz.func22 (spec_BookOk_e ⟨wa,wb,wc,wl,wh,wi⟩ hwB) (trivial) rfl rfl) Z<|lmB rfl ?_
   refine AL.bool (t := 26) rfl ?_ ?_
   ·intro h2
    refine loX (.agg [vI _ _,vI _ _,vI _ _,vI _ _,vI _ _]) ty.kd59 Z<|lst (zC [] [] [] Tryz.func23 (sruleOk_e wr) (trivial) Z Z) Z<|lkB Z<|laB Z<|nG ?_
    refine ⟨_,(by simp_all),⟨rfl,trivial⟩,trivial,rfl,rfl⟩
   ·intro h2
    refine lno Z<|lno Z<|lkZ Z<|laZ Z<|nG ?_
    refine ⟨_,(by simp_all),⟨rfl,trivial⟩,trivial,rfl,rfl⟩
  ·intro rt hrt
   refine sL<|loX (.agg [vI _ _,vI _ _,vI _ _,vL _ _ _,vL _ _ _,vL _ _ _]) ty.kd27 Z<|loX (.agg [vI _ _,vI _ _,vI _ _,vI _ _,vI _ _]) ty.kd59 Z ?_
   refine lst (zC [] [] [] Tryz.func24 (impl_Turns_e ⟨wa,wb,wc,wl,wh,wi⟩ wr hwB) (trivial) rfl rfl) Z<|laL Z<|nG<|aS<|sL<|lmL Z<|lnI ty.sl44 Z<|loX (.agg [vI _ _,vI _ _,vI _ _,vL _ _ _,vL _ _ _,vL _ _ _]) ty.kd27 Z<|loX (.agg [vI _ _,vI _ _,vI _ _,vI _ _,vI _ _]) ty.kd59 rfl ?_
   refine lst (zC [] [] [] Tryz.func25 (spec_Turns_e ⟨wa,wb,wc,wl,wh,wi⟩ wr hwB) (trivial) rfl rfl) Z<|lnI ty.sl44 Z<|lbB Z<|nG ?_
   refine AW.cond rfl ?_ ?_
   ·intro h3
    refine sL<|laZ Z<|nG<|aR<|rT ?_
    refine eBo trivial ?_
    exfalso
    simp at h3
   ·intro h3
    refine aK<|gA<|loX (.agg [vI _ _,vI _ _,vI _ _,vL _ _ _,vL _ _ _,vL _ _ _]) ty.kd27 Z<|lmL Z ?_
    have hlen := turnsOf_len (x := ⟨wa,wb,wc,wl,wh,wi⟩) (r := wr)
    have hte : ∀ e ∈ turnsOf ⟨wa,wb,wc,wl,wh,wi⟩ wr,wfEvent e := by
     intro e he
     by_cases q : bookOk ⟨wa,wb,wc,wl,wh,wi⟩ = true ∧ ruleOk wr = true
     ·exact turns_wf q.2 hwB.chans e (by unfold turnsOf at he;rwa [if_pos q] at he)
     ·unfold turnsOf at he;rw [if_neg q] at he;cases he
    refine lst (zC [] [] [] Tryz.func18 (applyAll_f ⟨wa,wb,wc,wl,wh,wi⟩ _ hwB hte (by have := turnsOf_len (x := ⟨wa,wb,wc,wl,wh,wi⟩) (r := wr);omega)) (trivial) rfl rfl) Z<|lT [2,3,4,5,6,43] [2003,2004] ?_
    refine lmX (.tup [.agg [vI _ _,vI _ _,vI _ _,vL _ _ _,vL _ _ _,vL _ _ _],vL _ _ _,vL _ _ _]) rfl ?_
    have hwn : BookWf (allA ⟨wa,wb,wc,wl,wh,wi⟩ (turnsOf ⟨wa,wb,wc,wl,wh,wi⟩ wr)).now := allA_wf hwB hte
    refine lxX (.agg [vI _ _,vI _ _,vI _ _,vL _ _ _,vL _ _ _,vL _ _ _]) Z<|lxL Z<|lxL Z<|lst (zA 2007 ty.ze27 Z) Z<|lst (zB 2007 ty.co27 ty.inf27 Z) Z<|laL Z<|laL Z<|nG ?_
    refine aJ [2,4,5,6,7,9] [2003,2004,2007] (D := Unit) (fun jd => []) (fun jd => []) (fun jd => bookOk ⟨wa,wb,wc,wl,wh,wi⟩ = true → ruleOk wr = true → wb ≠ 1125899906842624) ?_ ?_
    ·refine sL<|lmB Z<|lmB Z ?_
     refine AL.bool (t := 48) rfl ?_ ?_
     ·intro h4
      refine lf 1 ty.F27_1 Z<|loI ty.kd3 Z<|lbB Z<|lkB Z<|nG ?_
      refine AW.cond rfl ?_ ?_
      ·intro h5
       refine aS<|sL ?_
       obtain ⟨hr1,hr2⟩ := turns_right hrt (by assumption)
       obtain ⟨hcl,hfull⟩ := turn_full hr1 hr2 (by simpa using h5)
       refine lmL Z<|lnI ty.sl50 Z<|lmI Z<|nG<|aB ?_
       refine aW [2,4,5,6,7,9,53,54] [2003,2004,2007] (D := Nat) (fun k => [(55,int (k : Int))]) (fun k => []) (fun k => True) (fun k => (allA ⟨wa,wb,wc,wl,wh,wi⟩ (turnsOf ⟨wa,wb,wc,wl,wh,wi⟩ wr)).codes.length - k) (0) (trivial) ⟨rfl,trivial⟩ trivial ?_
       intro k hI
       refine sL<|lbB Z<|nG<|aS ?_
       refine AW.cond rfl ?_ ?_
       ·intro h6
        refine aK<|gT<|aS<|aB<|sL ?_
        have hk : k < (allA ⟨wa,wb,wc,wl,wh,wi⟩ (turnsOf ⟨wa,wb,wc,wl,wh,wi⟩ wr)).codes.length := by have h := h6;simp [length_rowsOf] at h;omega
        refine li k ty.el50 Z (row_map hk)<|lrI ty.kd3 Z<|laI Z<|nA<|lmI Z<|lbB Z<|nG ?_
        refine AW.cond rfl ?_ ?_
        ·intro h7
         refine sL<|laZ Z<|nG<|aR<|rB<|rT<|rT<|rB<|rT<|rT ?_
         refine eBo trivial ?_
         exfalso
         simp [hfull _ (List.getElem_mem hk)] at h7
        ·intro h7
         refine aK<|gB<|gT<|aL<|lgI Z<|lmI Z<|nG ?_
         refine ⟨k + 1,trivial,by omega,⟨(iq rfl),trivial⟩,trivial,rfl,rfl⟩
       ·intro h6
        refine aE<|eT<|eT<|eB<|gA<|lmL Z<|lnI ty.sl50 Z<|lmL Z<|lnI ty.sl44 Z<|lT [2,4,5,6,7,9,63,65] [2003,2004,2007] ?_
        refine lbB Z<|laB Z<|nG<|aR<|rT ?_
        refine eBo trivial ?_
        simp [length_rowsOf,hcl]
      ·intro h5
       refine aK<|gT ?_
       refine ⟨(),(by intro q1 q2 q3;simp_all),trivial,trivial,rfl,rfl⟩
     ·intro h4
      refine lno Z<|lno Z<|lno Z<|lkZ Z<|nG<|aN Z<|aK<|gT ?_
      refine ⟨(),(by intro q1 q2 q3;simp_all),trivial,trivial,rfl,rfl⟩
    ·intro jd hnm
     refine aS<|sL<|lmL Z<|lnI ty.sl44 Z<|lmI Z<|nG<|aB ?_
     refine aW [2,4,5,6,7,9,67,68] [2003,2004,2007] (D := Nat) (fun k => [(69,int (k : Int))]) (fun k => []) (fun k => True) (fun k => (turnsOf ⟨wa,wb,wc,wl,wh,wi⟩ wr).length - k) (0) (trivial) ⟨rfl,trivial⟩ trivial ?_
     intro k hI
     refine sL<|lbB Z<|nG<|aS ?_
     refine AW.cond rfl ?_ ?_
     ·intro h8
      refine aK<|gT<|aS<|aB<|sL<|lmI Z ?_
      have hk : k < (turnsOf ⟨wa,wb,wc,wl,wh,wi⟩ wr).length := by have h := h8;simp [length_rowsOf] at h;omega
      obtain ⟨hk2,f1,f2,f3,f4,f5,f6⟩ := turn_fact hnm hk
      refine li k ty.el44 Z (row_map hk)<|lrX (.agg [vI _ _,vI _ _,vI _ _,vI _ _,vI _ _,vI _ _,vB _]) ty.kd29 Z<|lst (zA 2013 ty.ze29 Z) Z<|laI Z<|lst (zB 2013 ty.co29 ty.inf29 Z) Z<|nG<|aS<|sL<|lmL Z<|lmI Z<|li k ty.el50 Z (row_map hk2)<|lrI ty.kd3 Z<|lbB Z<|lmB Z ?_
      refine AL.bool (t := 79) rfl ?_ ?_
      ·intro h9
       refine lno Z<|lno Z<|lno Z<|lno Z<|lno Z<|lkT Z<|lmT Z<|lno Z<|lno Z<|lno Z<|lno Z<|lno Z<|lkT Z<|nG<|aY Z<|sL<|laZ Z<|nG<|aR<|rT<|rB<|rT<|rT<|rB<|rT ?_
       refine eBo trivial ?_
       exfalso
       first | (simp [f1] at h9;done) | (simp only [decide_eq_true_eq] at h9;omega)
      ·intro h9
       refine lf 5 ty.F29_5 Z<|loI ty.kd3 Z<|lf 3 ty.F59_3 Z<|loI ty.kd3 Z<|lbB Z<|lkB Z<|lmB Z ?_
       refine AL.bool (t := 86) rfl ?_ ?_
       ·intro h10
        refine lno Z<|lno Z<|lno Z<|lno Z<|lno Z<|lkT Z<|nG<|aY Z<|sL<|laZ Z<|nG<|aR<|rT<|rB<|rT<|rT<|rB<|rT ?_
        refine eBo trivial ?_
        exfalso
        first | (simp [f1] at h10;done) | (simp only [decide_eq_true_eq] at h10;omega)
       ·intro h10
        refine lf 5 ty.F29_5 Z<|lT [2,4,5,6,7,9,13,67,68,69,86,87] [2003,2004,2007,2013] ?_
        refine loI ty.kd3 Z<|lf 4 ty.F59_4 Z<|loI ty.kd3 Z<|lbB Z<|lkB Z<|nG ?_
        refine AW.cond rfl ?_ ?_
        ·intro h11
         refine sL<|laZ Z<|nG<|aR<|rT<|rB<|rT<|rT<|rB<|rT ?_
         refine eBo trivial ?_
         exfalso
         first | (simp [f1] at h11;done) | (simp only [decide_eq_true_eq] at h11;omega)
        ·intro h11
         refine aK<|gA<|loX (.agg [vI _ _,vI _ _,vI _ _,vL _ _ _,vL _ _ _,vL _ _ _]) ty.kd27 Z<|lf 2 ty.F29_2 Z<|loI ty.kd3 Z ?_
         refine lX [] [] [] Tryz.func13 (pick_e (allA ⟨wa,wb,wc,wl,wh,wi⟩ (turnsOf ⟨wa,wb,wc,wl,wh,wi⟩ wr)).now _ hwn) (trivial) (fun _ _ e => by rw [e.1];trivial) Z ?_
         intro xz2 oz2 hz2
         obtain ⟨rfl,dk,ok,rfl,hyk,hnk⟩ := hz2
         refine lmX (.tup [.agg [vI _ _,vI _ _,vI _ _,vI _ _,vI _ _,vI _ _,vI _ _],vB _]) Z<|lxX (.agg [vI _ _,vI _ _,vI _ _,vI _ _,vI _ _,vI _ _,vI _ _]) Z<|lxB Z<|lst (zA 2014 ty.ze40 Z) Z<|lT [2,4,5,6,7,9,13,14,67,68,69,98,99] [2003,2004,2007,2013,2014] ?_
         refine lst (zB 2014 ty.co40 ty.inf40 Z) Z<|laB Z<|nA<|lmB Z<|luB Z<|lmB Z ?_
         refine AL.bool (t := 102) rfl ?_ ?_
         ·intro h12
          refine lno Z<|lno Z<|lno Z<|lno Z<|lno Z<|lkT Z<|lmT Z<|lno Z<|lno Z<|lno Z<|lno Z<|lno Z<|lkT Z<|nG<|aY Z<|sL<|laZ Z<|nG<|aR<|rB<|rT<|rT<|rB<|rT ?_
          refine eBo trivial ?_
          exfalso
          rcases hok : ok with _ | _
          ·exact hnk hok f5 f4
          ·obtain ⟨g1,g2⟩ := hyk hok
           obtain ⟨g3,g4⟩ := f6 dk g1 g2
           first | (simp [hok] at h12;done) | (simp [g3] at h12;done) | (simp [g4] at h12;done)
         ·intro h12
          refine lf 5 ty.F40_5 Z<|loI ty.kd3 Z<|lf 5 ty.F29_5 Z<|loI ty.kd3 Z<|lbB Z<|lkB Z<|lmB Z ?_
          refine AL.bool (t := 109) rfl ?_ ?_
          ·intro h13
           refine lno Z<|lno Z<|lno Z<|lno Z<|lno Z<|lkT Z<|nG<|aY Z<|sL<|laZ Z<|nG<|aR<|rB<|rT<|rT<|rB<|rT ?_
           refine eBo trivial ?_
           exfalso
           rcases hok : ok with _ | _
           ·exact hnk hok f5 f4
           ·obtain ⟨g1,g2⟩ := hyk hok
            obtain ⟨g3,g4⟩ := f6 dk g1 g2
            first | (simp [hok] at h13;done) | (simp [g3] at h13;done) | (simp [g4] at h13;done)
          ·intro h13
           refine lf 4 ty.F40_4 Z<|loI ty.kd3 Z<|lf 4 ty.F29_4 Z<|loI ty.kd3 Z<|lbB Z<|lkB Z<|nG ?_
           refine AW.cond rfl ?_ ?_
           ·intro h14
            refine sL<|laZ Z<|nG<|aR<|rB<|rT<|rT<|rB<|rT ?_
            refine eBo trivial ?_
            exfalso
            rcases hok : ok with _ | _
            ·exact hnk hok f5 f4
            ·obtain ⟨g1,g2⟩ := hyk hok
             obtain ⟨g3,g4⟩ := f6 dk g1 g2
             first | (simp [hok] at h14;done) | (simp [g3] at h14;done) | (simp [g4] at h14;done)
           ·intro h14
            refine aK<|gB<|gT<|aL<|lgI Z<|lmI Z<|nG ?_
            refine ⟨k + 1,trivial,by omega,⟨(iq rfl),trivial⟩,trivial,rfl,rfl⟩
     ·intro h8
      refine aE<|eT<|eT<|eB<|gA<|lf 2 ty.F59_2 Z<|lst (zB 2004 ty.co3 ty.inf3 Z) Z<|lT [2,4,5,6,7] [2003,2004,2007] ?_
      refine nA<|lmB Z<|luB Z<|lmB Z ?_
      refine AL.bool (t := 120) rfl ?_ ?_
      ·intro h15
       refine lmL Z<|lnI ty.sl44 Z<|lbB Z<|lkB Z<|lmB Z ?_
       refine AL.bool (t := 125) rfl ?_ ?_
       ·intro h16
        refine lno Z<|lno Z<|lno Z<|lno Z<|lno Z<|lno Z<|lkT Z<|laT Z<|nG<|aR ?_
        refine eBo trivial ?_
        first | rfl | (have hz := turns_none hrt (by simp_all);rw [hz];rfl) | (obtain ⟨hr1,hr2⟩ := turns_right hrt (by simp_all);exact turn_still hr1 hr2 (hnm hr1 hr2)) | (exfalso;have hz := turns_none hrt (by simp_all);rw [hz] at h8;simp [rowsOf] at h8;done) | (exfalso;have hz := turns_none hrt (by simp_all);rw [hz] at h15;simp [rowsOf] at h15;done) | (exfalso;have hz := turns_none hrt (by simp_all);rw [hz] at h16;simp [rowsOf] at h16;done) | (exfalso;simp_all;done) | (trace_state;sorry)
       ·intro h16
        refine lmB Z<|lmB Z ?_
        refine AL.bool (t := 127) rfl ?_ ?_
        ·intro h17
         refine loX (.agg [vI _ _,vI _ _,vI _ _,vL _ _ _,vL _ _ _,vL _ _ _]) ty.kd27 Z<|loX (.agg [vI _ _,vI _ _,vI _ _,vI _ _,vI _ _]) ty.kd59 Z ?_
         refine lst (zC [] [] [] Tryz.func26 (steady_e (allA ⟨wa,wb,wc,wl,wh,wi⟩ (turnsOf ⟨wa,wb,wc,wl,wh,wi⟩ wr)).now ⟨wr.lo,wr.hi,0,wr.min,wr.max⟩ hwn) (trivial) rfl rfl) Z<|lT [2,125,127,130] [2003,2004,2007] ?_
         refine lkB Z<|lkB Z<|laB Z<|nG<|aR ?_
         refine eBo trivial ?_
         first | rfl | (have hz := turns_none hrt (by simp_all);rw [hz];rfl) | (obtain ⟨hr1,hr2⟩ := turns_right hrt (by simp_all);exact turn_still hr1 hr2 (hnm hr1 hr2)) | (exfalso;have hz := turns_none hrt (by simp_all);rw [hz] at h15;simp [rowsOf] at h15;done) | (exfalso;have hz := turns_none hrt (by simp_all);rw [hz] at h16;simp [rowsOf] at h16;done) | (exfalso;have hz := turns_none hrt (by simp_all);rw [hz] at h17;simp [rowsOf] at h17;done) | (exfalso;simp_all;done) | (trace_state;sorry)
        ·intro h17
         refine lno Z<|lno Z<|lno Z<|lkZ Z<|lkZ Z<|laZ Z<|nG<|aR ?_
         refine eBo trivial ?_
         first | rfl | (have hz := turns_none hrt (by simp_all);rw [hz];rfl) | (obtain ⟨hr1,hr2⟩ := turns_right hrt (by simp_all);exact turn_still hr1 hr2 (hnm hr1 hr2)) | (exfalso;have hz := turns_none hrt (by simp_all);rw [hz] at h15;simp [rowsOf] at h15;done) | (exfalso;have hz := turns_none hrt (by simp_all);rw [hz] at h16;simp [rowsOf] at h16;done) | (exfalso;have hz := turns_none hrt (by simp_all);rw [hz] at h17;simp [rowsOf] at h17;done) | (exfalso;simp_all;done) | (trace_state;sorry)
      ·intro h15
       refine lno Z<|lno Z<|lno Z<|lkZ Z<|lmZ Z<|lmB Z<|lmB Z ?_
       refine AL.bool (t := 127) rfl ?_ ?_
       ·intro h18
        refine loX (.agg [vI _ _,vI _ _,vI _ _,vL _ _ _,vL _ _ _,vL _ _ _]) ty.kd27 Z<|loX (.agg [vI _ _,vI _ _,vI _ _,vI _ _,vI _ _]) ty.kd59 Z ?_
        refine lst (zC [] [] [] Tryz.func26 (steady_e (allA ⟨wa,wb,wc,wl,wh,wi⟩ (turnsOf ⟨wa,wb,wc,wl,wh,wi⟩ wr)).now ⟨wr.lo,wr.hi,0,wr.min,wr.max⟩ hwn) (trivial) rfl rfl) Z<|lkB Z<|lkB Z<|laB Z<|nG<|aR ?_
        refine eBo trivial ?_
        first | rfl | (have hz := turns_none hrt (by simp_all);rw [hz];rfl) | (obtain ⟨hr1,hr2⟩ := turns_right hrt (by simp_all);exact turn_still hr1 hr2 (hnm hr1 hr2)) | (exfalso;have hz := turns_none hrt (by simp_all);rw [hz] at h8;simp [rowsOf] at h8;done) | (exfalso;have hz := turns_none hrt (by simp_all);rw [hz] at h15;simp [rowsOf] at h15;done) | (exfalso;have hz := turns_none hrt (by simp_all);rw [hz] at h18;simp [rowsOf] at h18;done) | (exfalso;simp_all;done) | (trace_state;sorry)
       ·intro h18
        refine lno Z<|lno Z<|lno Z<|lkZ Z<|lkZ Z<|laZ Z<|nG<|aR ?_
        refine eBo trivial ?_
        first | rfl | (have hz := turns_none hrt (by simp_all);rw [hz];rfl) | (obtain ⟨hr1,hr2⟩ := turns_right hrt (by simp_all);exact turn_still hr1 hr2 (hnm hr1 hr2)) | (exfalso;have hz := turns_none hrt (by simp_all);rw [hz] at h8;simp [rowsOf] at h8;done) | (exfalso;have hz := turns_none hrt (by simp_all);rw [hz] at h15;simp [rowsOf] at h15;done) | (exfalso;have hz := turns_none hrt (by simp_all);rw [hz] at h18;simp [rowsOf] at h18;done) | (exfalso;simp_all;done) | (trace_state;sorry)

theorem FnTurns_walk (l : List Int) (a : Option Addr) (c : Nat) (w : World) (h0 : SlR 1 repByte w 0 w.heap.size (.slice a l.length c) l) :
 Calls Tryz.prog 5 #[.slice a l.length c] w fun r w' => r = .returned (.bool true) ∧ Grow w w' :=
 GC.calls (cs := [_]) rfl (fnTurns_e l) (by
  simp only [RVL]
  exact ⟨_,_,rfl,RV.of_slr (enc := encU8) h0 (fun _ _ h => h.1) (fun _ => rfl) (by intro c u hu;simp [encU8] at hu;subst hu;rfl) (Nat.le_refl _) (fun _ _ _ => no_live),rfl⟩)
end Go.Proofs.YtogkbcmfoalpiaaGreat

namespace Go.Proofs.YtogkbcmfoalpiaaGreat.fnTurns
open Go.ChangeShapes Go.WideShapes Go.ChangeAt Go.RowKit Go.Proofs.YtogkbcmfoalpiaaGreat
set_option maxHeartbeats 16000000
set_option maxRecDepth 100000
set_option linter.unusedVariables false
theorem own : ownKnob Tryz.prog.godebug = none := by kernel_rfl
theorem laid : laidOutB Tryz.prog = true := by kernel_rfl
theorem readable : ∀ t ∈ [22],Tryz.prog.readableRec t = true ∧ t < Tryz.prog.types.size := by
 intro t ht
 simp only [List.mem_cons,List.not_mem_nil,or_false] at ht
 rcases ht with rfl
 all_goals exact ⟨by kernel_rfl,of_decide_eq_true (by kernel_rfl)⟩
theorem lifted (os : Os) (started : os.Started) (H : Type) (enc : TypeId × Value → H) :
 ReturnsInHanded {} Tryz.checked os 5 .any (Rows.fnTurnsSpec.pre6 enc Tryz.prog Tryz.f5 Rows.fnTurnsRow.domain false) (Rows.fnTurnsSpec.post enc Tryz.prog Tryz.f5 false true false false) := by
 refine returnsInHanded_of_change (C := Tryz.checked) own started (by kernel_rfl) Tryz.func5
  (ChangeSpec.witness6 (enc := enc) (C := Tryz.checked) false ⟨#[],#[.slice none 0 0],[]⟩ 8 (by kernel_rfl) (by kernel_rfl) (by kernel_rfl) (by kernel_rfl)) ?_
 intro W base args ds gs before hval0 hW hcnd _
 have hval : ∀ (j : Nat) t v,Tryz.f5.params[j]? = some t → args[j]? = some v → Value.okWide Tryz.prog W .any base t v := hval0
 have hW' := hW
 obtain ⟨p,q,hA0,hV,rfl,hfz,hnd⟩ := hW
 have hA : DataW.TrodAll enc Tryz.prog W 0 (fun _ => true) true Tryz.f5.params.toList args.toList ds p := hA0
 rw [Tryz.params5] at hA hval
 have hB := hA
 obtain ⟨v0,vs0,d0,ds0,p0,q0,hargs,rfl,rfl,h0,r0⟩ := trodAll_cons hA
 obtain ⟨rfl,rfl,rfl⟩ := trodAll_nil r0
 obtain rfl : args = #[v0] := by cases args;simp_all
 obtain ⟨rfl,rfl⟩ := trodVars_none hV
 obtain ⟨a0,l0,c0,rfl⟩ := okWide_slice Tryz.underlying22 (hval 0 22 v0 rfl rfl)
 obtain ⟨fu0,t0⟩ := h0
 obtain ⟨x0,s0⟩ := SlR.of_trod (rep := repByte) Tryz.underlying22 cellsByte (by decide) (fun _ _ _ h => trodByte h) t0
 obtain rfl : l0 = x0.length := by obtain ⟨_,_,he,_⟩ := s0;injection he
 clear hA0 hval0
 simp only [List.append_nil] at hW'
 refine (FnTurns_walk x0 a0 c0 W s0).mono fun e W' ⟨he,hg⟩ => ?_
 subst he
 exact ⟨_,rfl,_,_,_,_,_,[],hW',trodAll_mk1 (shut_bool Tryz.underlying4 true),
  trodAll_below laid hg.below (readable) hB,rfl,hg.below.frame _,fun h => by cases h⟩
theorem over : Rows.fnTurnsRow.holds Tryz.pinned (OpenSpec.ofChange Rows.fnTurnsSpec) :=
 OpenClaim.holds_of_wide 5 Tryz.f5 rfl rfl rfl rfl rfl rfl rfl ⟨rfl,rfl,rfl,rfl,rfl⟩ rfl rfl rfl rfl rfl (by kernel_rfl) Tryz.func5 (by kernel_rfl)
  (of_decide_eq_true (by kernel_rfl)) (by unfold Func.isWrapper;first | (rw [if_pos (by decide +kernel)];kernel_rfl) | (rw [if_neg (by decide +kernel)];exact ⟨rfl,rfl⟩))
  (fun os started H enc _ => lifted os started H enc)
theorem proved : Rows.FnTurnsSaid :=
 over
#print axioms proved
end Go.Proofs.YtogkbcmfoalpiaaGreat.fnTurns

