/- FnAgrees is proved: the given statement holds with no condition. Texts joined: EG2, LFnAgrees, CFnAgrees. -/
import Derived.Test.YtogkbcmfoalpiaaGreatJAgrees12
import Derived.Test.YtogkbcmfoalpiaaGreatJAgrees13
import Derived.Test.YtogkbcmfoalpiaaGreatRows
import Derived.Test.YtogkbcmfoalpiaaGreatKOpn
namespace Go.Proofs.YtogkbcmfoalpiaaGreat
open Go.RowKit
set_option maxHeartbeats 16000000
set_option maxRecDepth 100000
set_option linter.unusedSimpArgs false
set_option linter.unusedVariables false
theorem chan_eq2 {c d : Chan} (h : eqVals (encChan c) (encChan d) = true) : c = d := by
 simp only [encChan,eqVals,Bool.and_true,Bool.and_eq_true,beq_iff_eq] at h
 cases c;cases d;simp_all
theorem htlc_eq2 {c d : Htlc} (h : eqVals (encHtlc c) (encHtlc d) = true) : c = d := by
 simp only [encHtlc,eqVals,Bool.and_true,Bool.and_eq_true,beq_iff_eq] at h
 cases c;cases d;simp_all
theorem circle_eq2 {c d : Circle} (h : eqVals (encCircle c) (encCircle d) = true) : c = d := by
 simp only [encCircle,eqVals,Bool.and_true,Bool.and_eq_true,beq_iff_eq] at h
 cases c;cases d;simp_all
def smR (x y : Book) : AV → List (Nat × AO) → Prop := fun v ob => ob = [] ∧ ∃ b : Bool,v = boo b ∧ (b = true → x = y)
def upTo {α : Type} (l m : List α) (k : Nat) : Prop := ∀ j (h1 : j < l.length) (h2 : j < m.length),j < k → l[j] = m[j]
theorem upTo.zero {α : Type} (l m : List α) : upTo l m 0 := fun j _ _ h => absurd h (by omega)
theorem upTo.next {α : Type} {l m : List α} {k : Nat} (h : upTo l m k) (h1 : k < l.length) (h2 : k < m.length) (e : l[k] = m[k]) : upTo l m (k + 1) := fun j q1 q2 q3 => by
 by_cases r : j = k
 ·subst r;exact e
 ·exact h j q1 q2 (by omega)
theorem upTo.all {α : Type} {l m : List α} {k : Nat} (h : upTo l m k) (hl : l.length = m.length) (hk : ¬ k < l.length) : l = m := List.ext_getElem hl fun j q1 q2 => h j q1 q2 (by omega)
theorem ssame_e (x y : Book) (hx : BookWf x) (hy : BookWf y) : GX Tryz.prog 15 [bookV x,bookV y] [] (smR x y) := by
 refine GX.intro (rs := [.tmp 4]) Tryz.func15 rfl Tryz.ntmps15 (Nat.le_of_ble_eq_true rfl) ⟨rfl,trivial⟩ ?_
 intro L O w0
 refine sL<|lst (zX 2002 Z) Z<|lst (zX 2003 Z) Z<|laZ Z<|nG<|aS<|sL<|loX (.agg [vI _ _,vI _ _,vI _ _,vL _ _ _,vL _ _ _,vL _ _ _]) ty.kd27 Z<|lst (zC [] [] [] Tryz.func22 (spec_BookOk_e x hx) (trivial) Z Z) Z<|luB Z<|lmB Z ?_
 refine AL.bool (t := 11) rfl ?_ ?_
 ·intro h1
  refine lno Z<|lno Z<|lno Z<|lkT Z<|lmT Z<|lno Z<|lno Z<|lno Z<|lno Z<|lno Z<|lkT Z<|lmT Z<|lno Z<|lno Z<|lno Z<|lno Z<|lno Z<|lkT Z<|lmT Z<|lno Z<|lno Z<|lno Z<|lno Z<|lno Z<|lkT Z<|lmT Z<|lno Z<|lno Z<|lno Z<|lno Z ?_
  refine lno Z<|lno Z<|lno Z<|lkT Z<|lmT Z<|lno Z<|lno Z<|lno Z<|lno Z<|lno Z<|lno Z<|lno Z<|lkT Z<|lmT Z<|lno Z<|lno Z<|lno Z<|lno Z<|lno Z<|lno Z<|lno Z<|lkT Z<|nG<|aY Z<|sL<|laZ Z<|nG ?_
  refine aR<|rT ?_
  refine end_xret (boo false) [] ?_ rfl trivial
  exact ⟨rfl,_,rfl,fun h => by cases h⟩
 ·intro h1
  refine loX (.agg [vI _ _,vI _ _,vI _ _,vL _ _ _,vL _ _ _,vL _ _ _]) ty.kd27 Z<|lst (zC [] [] [] Tryz.func22 (spec_BookOk_e y hy) (trivial) Z Z) Z<|lT [2,3,4,11,13] [2002,2003] ?_
  refine luB Z<|lkB Z<|lmB Z ?_
  refine AL.bool (t := 16) rfl ?_ ?_
  ·intro h2
   refine lno Z<|lno Z<|lno Z<|lno Z<|lno Z<|lkT Z<|lmT Z<|lno Z<|lno Z<|lno Z<|lno Z<|lno Z<|lkT Z<|lmT Z<|lno Z<|lno Z<|lno Z<|lno Z<|lno Z<|lkT Z<|lmT Z<|lno Z<|lno Z<|lno Z<|lno Z<|lno Z<|lno Z<|lno Z<|lkT Z<|lmT Z ?_
   refine lno Z<|lno Z<|lno Z<|lno Z<|lno Z<|lno Z<|lno Z<|lkT Z<|lmT Z<|lno Z<|lno Z<|lno Z<|lno Z<|lno Z<|lno Z<|lno Z<|lkT Z<|nG<|aY Z<|sL<|laZ Z<|nG<|aR<|rT ?_
   refine end_xret (boo false) [] ?_ rfl trivial
   exact ⟨rfl,_,rfl,fun h => by cases h⟩
  ·intro h2
   refine lf 0 ty.F27_0 Z<|loI ty.kd3 Z<|lf 0 ty.F27_0 Z<|loI ty.kd3 Z<|lbB Z<|lkB Z<|lmB Z ?_
   refine AL.bool (t := 23) rfl ?_ ?_
   ·intro h3
    refine lno Z<|lno Z<|lno Z<|lno Z<|lno Z<|lkT Z<|lmT Z<|lno Z<|lno Z<|lno Z<|lno Z<|lno Z<|lkT Z<|lmT Z<|lno Z<|lno Z<|lno Z<|lno Z<|lno Z<|lno Z<|lno Z<|lkT Z<|lmT Z<|lno Z<|lno Z<|lno Z<|lno Z<|lno Z<|lno Z<|lno Z ?_
    refine lkT Z<|lmT Z<|lT [2,3,4,55] [2002,2003] ?_
    refine lno Z<|lno Z<|lno Z<|lno Z<|lno Z<|lno Z<|lno Z<|lkT Z<|nG<|aY Z<|sL<|laZ Z<|nG<|aR<|rT ?_
    refine end_xret (boo false) [] ?_ rfl trivial
    exact ⟨rfl,_,rfl,fun h => by cases h⟩
   ·intro h3
    refine lf 1 ty.F27_1 Z<|loI ty.kd3 Z<|lf 1 ty.F27_1 Z<|loI ty.kd3 Z<|lbB Z<|lkB Z<|lmB Z ?_
    refine AL.bool (t := 30) rfl ?_ ?_
    ·intro h4
     refine lno Z<|lno Z<|lno Z<|lno Z<|lno Z<|lkT Z<|lmT Z<|lno Z<|lno Z<|lno Z<|lno Z<|lno Z<|lno Z<|lno Z<|lkT Z<|lmT Z<|lno Z<|lno Z<|lno Z<|lno Z<|lno Z<|lno Z<|lno Z<|lkT Z<|lmT Z<|lno Z<|lno Z<|lno Z<|lno Z<|lno Z ?_
     refine lno Z<|lno Z<|lkT Z<|nG<|aY Z<|sL<|laZ Z<|nG<|aR<|rT ?_
     refine end_xret (boo false) [] ?_ rfl trivial
     exact ⟨rfl,_,rfl,fun h => by cases h⟩
    ·intro h4
     refine lf 2 ty.F27_2 Z<|loI ty.kd3 Z<|lf 2 ty.F27_2 Z<|loI ty.kd3 Z<|lbB Z<|lkB Z<|lmB Z ?_
     refine AL.bool (t := 37) rfl ?_ ?_
     ·intro h5
      refine lno Z<|lno Z<|lno Z<|lno Z<|lno Z<|lno Z<|lno Z<|lkT Z<|lmT Z<|lno Z<|lno Z<|lno Z<|lno Z<|lno Z<|lno Z<|lno Z<|lkT Z<|lmT Z<|lno Z<|lno Z<|lno Z<|lno Z<|lno Z<|lno Z<|lno Z<|lkT Z<|nG<|aY Z<|aS ?_
      refine aL<|laZ Z<|lT [2,3,4] [2002,2003] ?_
      refine nG<|aR<|rT ?_
      refine end_xret (boo false) [] ?_ rfl trivial
      exact ⟨rfl,_,rfl,fun h => by cases h⟩
     ·intro h5
      refine lf 3 ty.F27_3 Z<|loL ty.kd23 Z<|lnI ty.sl23 Z<|lf 3 ty.F27_3 Z<|loL ty.kd23 Z<|lnI ty.sl23 Z<|lbB Z<|lkB Z<|lmB Z ?_
      refine AL.bool (t := 46) rfl ?_ ?_
      ·intro h6
       refine lno Z<|lno Z<|lno Z<|lno Z<|lno Z<|lno Z<|lno Z<|lkT Z<|lmT Z<|lno Z<|lno Z<|lno Z<|lno Z<|lno Z<|lno Z<|lno Z<|lkT Z<|nG<|aY Z<|sL<|laZ Z<|nG<|aR<|rT ?_
       refine end_xret (boo false) [] ?_ rfl trivial
       exact ⟨rfl,_,rfl,fun h => by cases h⟩
      ·intro h6
       refine lf 4 ty.F27_4 Z<|loL ty.kd24 Z<|lnI ty.sl24 Z<|lf 4 ty.F27_4 Z<|loL ty.kd24 Z<|lnI ty.sl24 Z<|lbB Z<|lkB Z<|lmB Z ?_
       refine AL.bool (t := 55) rfl ?_ ?_
       ·intro h7
        refine lno Z<|lno Z<|lno Z<|lno Z<|lno Z<|lno Z<|lno Z<|lkT Z<|nG<|aY Z<|sL<|laZ Z<|nG<|aR<|rT ?_
        refine end_xret (boo false) [] ?_ rfl trivial
        exact ⟨rfl,_,rfl,fun h => by cases h⟩
       ·intro h7
        refine lf 5 ty.F27_5 Z<|loL ty.kd25 Z<|lnI ty.sl25 Z<|lf 5 ty.F27_5 Z<|loL ty.kd25 Z<|lnI ty.sl25 Z<|lT [2,3,4,55,58,61] [2002,2003] ?_
        refine lbB Z<|lkB Z<|nG ?_
        refine AW.cond rfl ?_ ?_
        ·intro h8
         refine sL<|laZ Z<|nG<|aR<|rT ?_
         refine end_xret (boo false) [] ?_ rfl trivial
         exact ⟨rfl,_,rfl,fun h => by cases h⟩
        ·intro h8
         refine aK<|gT<|aS<|sL<|lf 3 ty.F27_3 Z<|loL ty.kd23 Z ?_
         have b1 := bOk_of (x := x) (by simpa using h1)
         have l0 := b1.lc
         have l1 := b1.lh
         have l2 := b1.li
         have s5 : x.chans.length = y.chans.length := by have h := h6;simp [length_rowsOf] at h;omega
         have s6 : x.htlcs.length = y.htlcs.length := by have h := h7;simp [length_rowsOf] at h;omega
         have s7 : x.circles.length = y.circles.length := by have h := h8;simp [length_rowsOf] at h;omega
         have s2 : x.tick = y.tick := by have h := h3;simp at h;omega
         have s3 : x.next = y.next := by have h := h4;simp at h;omega
         have s4 : x.wallet = y.wallet := by have h := h5;simp at h;omega
         refine lnI ty.sl23 Z<|lmI Z<|nG<|aB ?_
         refine aW [2,3,4,66] [2002,2003] (D := Nat) (fun k => [(67,int (k : Int))]) (fun k => []) (fun k => upTo x.chans y.chans k) (fun k => x.chans.length - k) (0) (upTo.zero _ _) ⟨rfl,trivial⟩ trivial ?_
         intro k hI
         refine sL<|lbB Z<|nG<|aS ?_
         refine AW.cond rfl ?_ ?_
         ·intro h9
          refine aK<|gT<|aS<|aB<|sL<|lmI Z<|laI Z<|nG<|aS<|aF []<|pq 0 (qf 3 ty.F27_3 Z)<|sq 1 (roL ty.kd23 Z)<|pq 2 (qmX (vI _ _) Z) ?_
          have hk : k < x.chans.length := by simpa [length_rowsOf] using h9
          have hk2 : k < y.chans.length := by omega
          refine sq 3 (ri k ty.el23 rfl (row_map hk))<|sq 4 (rrX (.agg [vI _ _,vI _ _,vI _ _,vI _ _,vI _ _,vI _ _,vI _ _]) ty.kd40 rfl)<|pq 5 (qf 3 ty.F27_3 rfl)<|sq 6 (roL ty.kd23 rfl)<|vq 7 (rmI rfl)<|vq 8 (ri k ty.el23 rfl (row_map hk2))<|vq 9 (rrX (.agg [vI _ _,vI _ _,vI _ _,vI _ _,vI _ _,vI _ _,vI _ _]) ty.kd40 rfl)<|vq 10 (rd (x := vB _) (rd_eqS rfl (.inr rfl) rfl rfl ty.sf40 ty.su40 ty.sh40 ty.sg40 ?hn1) rfl) ?_
          case hn1 => exact ⟨rfl,by decide,rfl,⟨_,Tryz.underlying3⟩,rfl,by decide,rfl,⟨_,Tryz.underlying3⟩,rfl,by decide,rfl,⟨_,Tryz.underlying3⟩,rfl,by decide,rfl,⟨_,Tryz.underlying3⟩,rfl,by decide,rfl,⟨_,Tryz.underlying3⟩,rfl,by decide,rfl,⟨_,Tryz.underlying3⟩,rfl,by decide,rfl,⟨_,Tryz.underlying3⟩,trivial⟩
          refine fD<|gT ?_
          refine AW.cond rfl ?_ ?_
          ·intro h10
           refine sL<|laZ Z<|nG<|aR<|rB<|rT<|rT<|rB<|rT ?_
           refine end_xret (boo false) [] ?_ rfl trivial
           exact ⟨rfl,_,rfl,fun h => by cases h⟩
          ·intro h10
           refine aK<|gB<|gT<|aL<|lgI Z<|lmI Z<|nG ?_
           refine ⟨k + 1,hI.next hk hk2 (chan_eq2 (by have h := h10;rw [zb2] at h;exact h)),by omega,⟨(iq rfl),trivial⟩,trivial,rfl,rfl⟩
         ·intro h9
          refine aE<|eT<|eT<|eB<|gT<|aS<|aS ?_
          have e1 := hI.all (by omega) (by have h := h9;simp [length_rowsOf] at h;omega)
          clear hI
          refine aL<|lf 4 ty.F27_4 Z<|loL ty.kd24 Z<|lnI ty.sl24 Z<|lmI Z<|nG<|aB ?_
          refine aW [2,3,4,84] [2002,2003] (D := Nat) (fun k => [(85,int (k : Int))]) (fun k => []) (fun k => upTo x.htlcs y.htlcs k) (fun k => x.htlcs.length - k) (0) (upTo.zero _ _) ⟨rfl,trivial⟩ trivial ?_
          intro k hI
          refine sL<|lbB Z<|nG<|aS ?_
          refine AW.cond rfl ?_ ?_
          ·intro h11
           refine aK<|gT<|aS<|aB<|sL<|lmI Z<|lT [2,3,4,84,85,87] [2002,2003] ?_
           refine laI Z<|nG<|aS<|aF []<|pq 0 (qf 4 ty.F27_4 Z)<|sq 1 (roL ty.kd24 Z)<|pq 2 (qmX (vI _ _) Z) ?_
           have hk : k < x.htlcs.length := by simpa [length_rowsOf] using h11
           have hk2 : k < y.htlcs.length := by omega
           refine sq 3 (ri k ty.el24 rfl (row_map hk))<|sq 4 (rrX (.agg [vI _ _,vI _ _,vI _ _,vI _ _,vI _ _,vB _,vI _ _]) ty.kd68 rfl)<|pq 5 (qf 4 ty.F27_4 rfl)<|sq 6 (roL ty.kd24 rfl)<|vq 7 (rmI rfl)<|vq 8 (ri k ty.el24 rfl (row_map hk2))<|vq 9 (rrX (.agg [vI _ _,vI _ _,vI _ _,vI _ _,vI _ _,vB _,vI _ _]) ty.kd68 rfl)<|vq 10 (rd (x := vB _) (rd_eqS rfl (.inr rfl) rfl rfl ty.sf68 ty.su68 ty.sh68 ty.sg68 ?hn2) rfl) ?_
           case hn2 => exact ⟨rfl,by decide,rfl,⟨_,Tryz.underlying3⟩,rfl,by decide,rfl,⟨_,Tryz.underlying3⟩,rfl,by decide,rfl,⟨_,Tryz.underlying3⟩,rfl,by decide,rfl,⟨_,Tryz.underlying3⟩,rfl,by decide,rfl,⟨_,Tryz.underlying3⟩,by decide,rfl,Tryz.underlying4,rfl,by decide,rfl,⟨_,Tryz.underlying3⟩,trivial⟩
           refine fD<|gT ?_
           refine AW.cond rfl ?_ ?_
           ·intro h12
            refine sL<|laZ Z<|nG<|aR<|rB<|rT<|rT<|rB<|rT ?_
            refine end_xret (boo false) [] ?_ rfl trivial
            exact ⟨rfl,_,rfl,fun h => by cases h⟩
           ·intro h12
            refine aK<|gB<|gT<|aL<|lgI Z<|lmI Z<|nG ?_
            refine ⟨k + 1,hI.next hk hk2 (htlc_eq2 (by have h := h12;rw [zb2] at h;exact h)),by omega,⟨(iq rfl),trivial⟩,trivial,rfl,rfl⟩
          ·intro h11
           refine aE<|eT<|eT<|eB<|gT<|aS<|aS ?_
           have e2 := hI.all (by omega) (by have h := h11;simp [length_rowsOf] at h;omega)
           clear hI
           refine aL<|lf 5 ty.F27_5 Z<|loL ty.kd25 Z<|lnI ty.sl25 Z<|lmI Z<|nG<|aB ?_
           refine aW [2,3,4,102] [2002,2003] (D := Nat) (fun k => [(103,int (k : Int))]) (fun k => []) (fun k => upTo x.circles y.circles k) (fun k => x.circles.length - k) (0) (upTo.zero _ _) ⟨rfl,trivial⟩ trivial ?_
           intro k hI
           refine sL<|lbB Z<|nG<|aS ?_
           refine AW.cond rfl ?_ ?_
           ·intro h13
            refine aK<|gT<|aS<|aB<|sL<|lmI Z<|laI Z<|nG<|aS<|aF []<|pq 0 (qf 5 ty.F27_5 Z)<|sq 1 (roL ty.kd25 Z)<|pq 2 (qmX (vI _ _) Z) ?_
            have hk : k < x.circles.length := by simpa [length_rowsOf] using h13
            have hk2 : k < y.circles.length := by omega
            refine sq 3 (ri k ty.el25 Z (row_map hk))<|sq 4 (rrX (.agg [vI _ _,vI _ _,vI _ _,vI _ _,vI _ _]) ty.kd78 Z)<|pq 5 (qf 5 ty.F27_5 Z)<|sq 6 (roL ty.kd25 Z)<|vq 7 (rmI Z)<|fT [2,3,4,102,103,110,112,113] [2002,2003] ?_
            refine vq 8 (ri k ty.el25 rfl (row_map hk2))<|vq 9 (rrX (.agg [vI _ _,vI _ _,vI _ _,vI _ _,vI _ _]) ty.kd78 rfl)<|vq 10 (rd (x := vB _) (rd_eqS rfl (.inr rfl) rfl rfl ty.sf78 ty.su78 ty.sh78 ty.sg78 ?hn3) rfl) ?_
            case hn3 => exact ⟨rfl,by decide,rfl,⟨_,Tryz.underlying3⟩,rfl,by decide,rfl,⟨_,Tryz.underlying3⟩,rfl,by decide,rfl,⟨_,Tryz.underlying3⟩,rfl,by decide,rfl,⟨_,Tryz.underlying3⟩,rfl,by decide,rfl,⟨_,Tryz.underlying3⟩,trivial⟩
            refine fD<|gT ?_
            refine AW.cond rfl ?_ ?_
            ·intro h14
             refine sL<|laZ Z<|nG<|aR<|rB<|rT<|rT<|rB<|rT ?_
             refine end_xret (boo false) [] ?_ rfl trivial
             exact ⟨rfl,_,rfl,fun h => by cases h⟩
            ·intro h14
             refine aK<|gB<|gT<|aL<|lgI Z<|lmI Z<|nG ?_
             refine ⟨k + 1,hI.next hk hk2 (circle_eq2 (by have h := h14;rw [zb2] at h;exact h)),by omega,⟨(iq rfl),trivial⟩,trivial,rfl,rfl⟩
           ·intro h13
            refine aE<|eT<|eT<|eB<|gA<|laT Z<|nG<|aR ?_
            have e3 := hI.all (by omega) (by have h := h13;simp [length_rowsOf] at h;omega)
            refine end_xret (boo true) [] ?_ rfl trivial
            exact ⟨rfl,_,rfl,fun _ => by cases x;cases y;simp_all⟩
def DrAA : AV → List (Nat × AO) → Prop := fun v ob => ob = [] ∧ ∃ x es,BookWf x ∧ EvsOk 48 es ∧ v = .tup [bookV x,.p (.lst 29 7 (rowsOf encEvent es))]
theorem drawAll_e (code : List Int) (hm : code.length ≤ 1048576) : GX Tryz.prog 14 [.p (.lst 5 1 (rowsOf encU8 code))] [] (DrAA) := by
 refine GX.intro (rs := [.cell 2 27 (some 6),.tmp 3]) Tryz.func14 rfl Tryz.ntmps14 (Nat.le_of_ble_eq_true rfl) ⟨rfl,rfl,ty.kd27,rfl,trivial⟩ ?_
 intro L O w0
 refine sL<|lst (zA 2002 ty.ze27 Z) Z<|laV Z<|nA<|lmL Z ?_
 refine lX [(31,0)] [0] [] Tryz.func32 (l01New_e code hm) (trivial) (fun _ _ _ => trivial) Z ?_
 intro xz1 oz1 hz1
 obtain ⟨q1,rfl,rfl⟩ := hz1
 refine laP Z<|nA<|lst (zC [] [] [] Tryz.func16 (bookNew_e) (trivial) Z Z) Z<|lst (zA 2005 ty.ze27 Z) Z<|lst (zB 2005 ty.co27 ty.inf27 Z) Z<|nA ?_
 refine AL.pinB 0 rfl ?_
 intro g
 have hc : CurOk code 0 := ⟨Nat.zero_le _,hm⟩
 refine lmP rfl ?_
 refine lX [(0,0),(50,50)] [50] [0] Tryz.func70 (l07Events_e g code _ _ (30) hc (by omega)) (⟨⟨0,rfl,rfl⟩,trivial⟩) (pins_curX) Z ?_
 intro xz2 oz2 hz2
 obtain ⟨i2,q2,_,hc2,⟨es2,hes2,rfl,rfl⟩,rfl⟩ := hz2
 refine laO Z<|nG ?_
 refine aJ [2,3,4,5] [2002] (D := Nat × Int × Book × List Event) (fun d => [(6,.own 50)]) (fun d => [(0,curO g code d.1 d.2.1),(2005,.box 27 none [int d.2.2.1.tick,int d.2.2.1.next,int d.2.2.1.wallet,.p (.lst 40 7 (rowsOf encChan d.2.2.1.chans)),.p (.lst 68 7 (rowsOf encHtlc d.2.2.1.htlcs)),.p (.lst 78 5 (rowsOf encCircle d.2.2.1.circles))]),(50,.arr 29 7 (rowsOf encEvent d.2.2.2))]) (fun d => CurOk code d.1 ∧ BookWf d.2.2.1 ∧ EvsOk 35 d.2.2.2) ?_ ?_
 ·refine sL<|lmP Z ?_
  refine lX [(0,0)] [] [0] Tryz.func35 (l01Below_e g code _ _ _ hc2) (⟨⟨0,rfl,rfl⟩,trivial⟩) (pins_cur) Z ?_
  intro xz3 oz3 hz3
  obtain ⟨i3,q3,hc3,⟨n3,⟨na3,nb3⟩,rfl⟩,rfl⟩ := hz3
  refine lbB Z<|nG ?_
  refine AW.cond rfl ?_ ?_
  ·intro h1
   refine aL<|lmP Z ?_
   refine lX [(0,0),(1,1),(2,2),(3,3)] [1,2,3] [0] Tryz.func33 (l07Any_e g code _ _ hc3) (⟨⟨0,rfl,rfl⟩,trivial⟩) (pins_curX) Z ?_
   intro xz4 oz4 hz4
   obtain ⟨i4,q4,_,hc4,⟨aB,bB,cB,lB,xB,yB,hwB,rfl,rfl⟩,rfl⟩ := hz4
   refine lT [2,3,4,5,6,17] [0,1,2,3,50,2002,2005] ?_
   refine AL.freeze 1 rfl ?_
   refine AL.freeze 2 rfl ?_
   refine AL.freeze 3 rfl ?_
   refine lst (zB 2005 ty.co27 ty.inf27 Z) Z<|nG ?_
   refine ⟨(_,_,⟨aB,bB,cB,lB,xB,yB⟩,_),⟨by assumption,hwB,by assumption⟩,⟨rfl,trivial⟩,⟨rfl,rfl,rfl,trivial⟩,rfl,rfl⟩
  ·intro h1
   refine aK<|gT ?_
   refine ⟨(_,_,newBook,_),⟨by assumption,newBook_wf,by assumption⟩,⟨rfl,trivial⟩,⟨rfl,rfl,rfl,trivial⟩,rfl,rfl⟩
 ·intro ⟨iJ6,qJ6,xJ,esJ⟩ hJ6
  dsimp only
  obtain ⟨hcJ6,hwJ6,hesJ6⟩ := hJ6
  simp only at hcJ6 hwJ6 hesJ6
  refine aS<|sL<|lmP Z ?_
  refine lX [(0,0)] [] [0] Tryz.func35 (l01Below_e g code _ _ _ hcJ6) (⟨⟨0,rfl,rfl⟩,trivial⟩) (pins_cur) Z ?_
  intro xz5 oz5 hz5
  obtain ⟨i5,q5,hc5,⟨n5,⟨na5,nb5⟩,rfl⟩,rfl⟩ := hz5
  refine lbB Z<|nG ?_
  refine AW.cond rfl ?_ ?_
  ·intro h2
   refine sL<|laI Z<|nG<|aB ?_
   refine aW [2,3,5] [0,2002,2005] (D := Nat × List Event) (fun d => [(7,int (d.1 : Int)),(6,.own 50)]) (fun d => [(50,.arr 29 7 (rowsOf encEvent d.2))]) (fun d => EvsOk (35 + d.1) d.2 ∧ d.1 ≤ 13) (fun d => 13 - d.1) ((0,esJ)) (⟨by simpa using hesJ6,Nat.zero_le _⟩) ⟨rfl,rfl,trivial⟩ ⟨rfl,trivial⟩ ?_
   intro ⟨k,esL⟩ hI
   obtain ⟨hesL,hkL⟩ := hI
   simp only at hesL hkL
   dsimp only
   refine aS<|sL<|lmI Z<|lbB Z<|nG ?_
   refine AW.cond rfl ?_ ?_
   ·intro h3
    refine aK<|gT<|aS<|aB<|aL<|lmO Z<|lmI Z<|lgI Z<|lq (rd (x := .agg [vI _ _,vI _ _,vI _ _,vI _ _,vI _ _,vI _ _,vB true]) (rd_build Z ty.sa29 Z Z Z) Z) ?_
    have hk : k < 13 := by have h := h3;simp only [decide_eq_true_eq] at h;omega
    refine lst (zS 2029 (rowsOf encEvent [⟨5,100 + (k : Int),1,2,10,0,true⟩]) ty.el44 ty.ze29 rfl) Z<|lst (zP 50 ty.el44 ty.ze29 ty.by29 rfl (Src.own rfl rfl) (by have := hesL.2;simp [rowsOf];omega)) Z<|laO Z<|lN<|gB<|gT<|aL<|lmI Z<|lgI Z<|laI Z<|nG ?_
    refine ⟨(k + 1,esL ++ [⟨5,100 + (k : Int),1,2,10,0,true⟩]),⟨(hesL.add (by unfold wfEvent i64;dsimp only;omega)).mono (by dsimp only;omega),hk⟩,by dsimp only;omega,⟨(Eq.trans (b := int _) rfl (congrArg int (by dsimp only;omega))),rfl,trivial⟩,⟨(congrArg (AO.arr 29 7) (rowsOf_app encEvent _ [_]).symm),trivial⟩,rfl,rfl⟩
   ·intro h3
    refine aE<|eT<|eT<|eB<|gA ?_
    refine AL.freeze 50 rfl ?_
    refine loX (.agg [vI _ _,vI _ _,vI _ _,vL _ _ _,vL _ _ _,vL _ _ _]) ty.kd27 Z<|lmL Z<|lst (zB 2002 ty.co27 ty.inf27 Z) Z<|lT [2,3,32] [0,2002,2005] ?_
    refine laL Z<|nG<|aR ?_
    refine end_xret ((.tup [bookV xJ,.p (.lst 29 7 (rowsOf encEvent esL))])) [] ?_ rfl trivial
    exact ⟨rfl,_,_,hwJ6,hesL.mono (by omega),rfl⟩
  ·intro h2
   refine aK<|gA ?_
   refine AL.freeze 50 rfl ?_
   refine loX (.agg [vI _ _,vI _ _,vI _ _,vL _ _ _,vL _ _ _,vL _ _ _]) ty.kd27 Z<|lmL Z<|lst (zB 2002 ty.co27 ty.inf27 Z) Z<|laL Z<|nG<|aR ?_
   refine end_xret ((.tup [bookV xJ,.p (.lst 29 7 (rowsOf encEvent esJ))])) [] ?_ rfl trivial
   exact ⟨rfl,_,_,hwJ6,hesJ6.mono (by omega),rfl⟩
theorem ibookNew_0 : GC Tryz.prog 17 [] [] (.agg [int 0,int 1,int 0,.p (.v (.slice none 0 0)),.p (.v (.slice none 0 0)),.p (.v (.slice none 0 0))]) [] := by
 refine GC.intro (rs := [.cell 0 27 (some 6)]) Tryz.func17 rfl Tryz.ntmps17 (Nat.le_of_ble_eq_true rfl) ⟨rfl,rfl,ty.kd27,trivial⟩ ?_
 intro L O w0
 refine sL<|lst (zA 2000 ty.ze27 Z) Z<|nA<|lq (rd (x := .agg [vI _ _,vI _ _,vI _ _,vV _,vV _,vV _]) (rd_build Z ty.sa27 Z Z Z) Z)<|lst (zB 2000 ty.co27 ty.inf27 Z) Z<|nG<|aR ?_
 refine end_ret ?_ trivial
 rfl
theorem ibookNew_e : GC Tryz.prog 17 [] [] (bookV newBook) [] := GX.imp ibookNew_0 (fun x ob1 ⟨e1,e2⟩ => by
 subst e1 e2
 exact ⟨bookV newBook,Imp.agg (ImpL.cons (Imp.refl _) (ImpL.cons (Imp.refl _) (ImpL.cons (Imp.refl _) (ImpL.cons (Imp.nil _ _) (ImpL.cons (Imp.nil _ _) (ImpL.cons (Imp.nil _ _) ImpL.nil)))))),rfl,rfl⟩)
theorem allS_ps_len {x : Book} {es : List Event} : ∀ k,k ≤ es.length → ∀ p ∈ (allS x (es.take k)).ps,p.lines.length ≤ 1000
 | 0,_ => by rw [List.take_zero];intro p hp;simp [allS_nil] at hp
 | k + 1,h => by
  rw [allS_succ (by omega)]
  have ih := allS_ps_len (x := x) (es := es) k (by omega)
  unfold allF
  dsimp only
  split
  ·rename_i q
   intro p hp
   rcases List.mem_append.1 hp with r | r
   ·exact ih p r
   ·rw [List.mem_singleton.1 r]
    by_cases z : (workR (allS x (es.take k)).now es[k]).l = []
    ·rw [(appB_nil q.1 z).2];simp
    ·rw [(appB_yes q.1 z).2]
     have := (ln_work q.1).len
     show (workR _ _).l.length ≤ 1000
     omega
  ·exact ih
theorem postAll0_e (ps : List Posting) (hps : ∀ p ∈ ps,p.lines.length ≤ 1000) (hn : ps.length ≤ 1000000) : GC Tryz.prog 19 [.agg [int 0,.p (.v (.slice none 0 0))],.p (.lst 34 2 (rowsP ps))] [] (.tup [ledV (postS ⟨0,[]⟩ ps).1,int (postS ⟨0,[]⟩ ps).2]) [] := GC.imp_args (postAll_e ⟨0,[]⟩ ps rfl hps hn) (ImpL.cons (Imp.agg (ImpL.cons (Imp.refl _) (ImpL.cons (Imp.nil _ _) ImpL.nil))) (ImpL.cons (Imp.refl _) ImpL.nil))
theorem bookOk_new : bookOk newBook = true := by decide +kernel
theorem agr_new : Agr newBook ⟨0,[]⟩ := ⟨bookOk_new,⟨List.Pairwise.nil,by simp,by simp,rfl,by simp⟩,rfl,rfl,fun _ _ => rfl,fun _ _ => rfl,fun _ _ => rfl⟩
theorem fnAgrees_e (code : List Int) : GC Tryz.prog 4 [.p (.lst 5 1 (rowsOf encU8 code))] [] (boo true) [] := by
 refine gi 2 Tryz.func4 rfl Tryz.ntmps4 rfl ?_
 intro L O w0
 refine sL<|laZ Z<|nG<|aS<|sL<|lmL Z<|lnI ty.sl22 Z<|lbB Z<|nG ?_
 refine AW.cond rfl ?_ ?_
 ·intro h1
  refine sL<|laT Z<|nG<|aR<|rT ?_
  refine eBo trivial ?_
  first | rfl | exact (hag.2 (by have h := h1;simp only [decide_eq_false_iff_not,rowsP_len] at h;omega)).yes | (trace_state;sorry)
 ·intro h1
  refine aK<|gA<|lmL Z ?_
  have hm : code.length ≤ 1048576 := by have h := h1;simp [length_rowsOf] at h;omega
  refine lX [] [] [] Tryz.func14 (drawAll_e code hm) (trivial) (fun _ _ e => by rw [e.1];trivial) Z ?_
  intro xz1 oz1 hz1
  obtain ⟨rfl,wx,wes,hwx,hwes,rfl⟩ := hz1
  refine lmX (.tup [.agg [vI _ _,vI _ _,vI _ _,vL _ _ _,vL _ _ _,vL _ _ _],vL _ _ _]) Z<|lxX (.agg [vI _ _,vI _ _,vI _ _,vL _ _ _,vL _ _ _,vL _ _ _]) Z<|lxL Z<|lst (zA 2003 ty.ze27 Z) Z<|lst (zB 2003 ty.co27 ty.inf27 Z) Z<|laL Z<|nG<|aS<|aS<|aF []<|sq 0 (roX (.agg [vI _ _,vI _ _,vI _ _,vL _ _ _,vL _ _ _,vL _ _ _]) ty.kd27 Z)<|vst 1 Z (zC [] [] [] Tryz.func16 (bookNew_e) (trivial) Z Z) (.inr Z)<|fT [2,3,4,18,19] [2003] ?_
  refine AF.stx (i := 2) rfl (by kernel_rfl) (St.callX [] [] [] rfl (by intro s hs;cases hs;decide) rfl Tryz.func15 rfl rfl (ssame_e wx newBook hwx newBook_wf) ⟨rfl,rfl,rfl⟩ (trivial) (fun _ _ e => by rw [e.1];trivial) rfl) (.inr rfl) rfl ?_
  rintro _ _ ⟨xz3,oz3,hz3,rfl,rfl⟩
  obtain ⟨rfl,sb,rfl,hsb⟩ := hz3
  refine vq 3 (ruB Z)<|fD<|gT ?_
  refine AW.cond rfl ?_ ?_
  ·intro h2
   refine aL<|lst (zC [] [] [] Tryz.func17 (ibookNew_e) (trivial) rfl rfl) Z<|lst (zB 2003 ty.co27 ty.inf27 rfl) Z<|nA<|loX (.agg [vI _ _,vI _ _,vI _ _,vL _ _ _,vL _ _ _,vL _ _ _]) ty.kd27 Z<|lmL Z<|lst (zC [] [] [] Tryz.func18 (applyAll_f newBook wes newBook_wf hwes.1 (by have := hwes.2;omega)) (trivial) rfl rfl) Z<|lmX (.tup [.agg [vI _ _,vI _ _,vI _ _,vL _ _ _,vL _ _ _,vL _ _ _],vL _ _ _,vL _ _ _]) Z<|lxX (.agg [vI _ _,vI _ _,vI _ _,vL _ _ _,vL _ _ _,vL _ _ _]) Z<|lxL Z<|lxL Z<|lst (zA 2005 ty.ze27 rfl) Z<|lst (zB 2005 ty.co27 ty.inf27 rfl) Z<|laL Z<|laL Z<|nA<|lq (rd (x := .agg [vI _ _,vV _]) (rd_build rfl ty.sa54 rfl rfl rfl) rfl)<|lmL rfl ?_
   have heq : allA newBook wes = allS newBook wes := if_pos bookOk_new
   have hwn : BookWf (allA newBook wes).now := allA_wf newBook_wf hwes.1
   have hps := allS_ps (x := newBook) (es := wes) wes.length (Nat.le_refl _)
   have hpl := allS_ps_len (x := newBook) (es := wes) wes.length (Nat.le_refl _)
   have hag := agr_all agr_new (es := wes) wes.length (Nat.le_refl _)
   have hcl := allS_codes (x := newBook) (es := wes) wes.length (Nat.le_refl _)
   rw [List.take_length,← heq] at hps hpl hag hcl
   have hw2 := hwes.2
   have hpn : (allA newBook wes).ps.length ≤ 1000000 := by omega
   have hsl := postS_le (l := ⟨0,[]⟩) (ps := (allA newBook wes).ps) (by simp) _ (Nat.le_refl _)
   rw [List.take_length] at hsl
   refine lst (zC [] [] [] Tryz.func19 (postAll0_e (allA newBook wes).ps hpl hpn) (trivial) Z Z) Z<|lT [2,4,5,6,7,33] [2003,2005] ?_
   refine lmX (.tup [.agg [vI _ _,vL _ _ _],vI _ _]) Z<|lxX (.agg [vI _ _,vL _ _ _]) Z<|lxI Z<|lst (zA 2008 ty.ze54 Z) Z<|lst (zB 2008 ty.co54 ty.inf54 Z) Z<|laI Z<|nG<|aS<|sL<|lmL Z<|lnI ty.sl50 Z<|lmL Z<|lnI ty.sl44 Z<|lbB Z<|lmB Z ?_
   refine AL.bool (t := 41) rfl ?_ ?_
   ·intro h3
    refine lno Z<|lno Z<|lno Z<|lno Z<|lkT Z<|nG<|aY Z<|sL<|laZ Z<|nG<|aR<|rT ?_
    refine eBo trivial ?_
    exfalso
    first | (simp [length_rowsOf,hcl] at h3;done) | (have h := h3;simp only [decide_eq_true_eq,rowsP_len] at h;omega)
   ·intro h3
    refine lmI Z<|lmL Z<|lnI ty.sl49 Z<|lbB Z<|lkB Z<|nG ?_
    refine AW.cond rfl ?_ ?_
    ·intro h4
     refine sL<|laZ Z<|nG<|aR<|rT ?_
     refine eBo trivial ?_
     exfalso
     first | (simp [length_rowsOf,hcl] at h4;done) | (have h := h4;simp only [decide_eq_true_eq,rowsP_len] at h;omega)
    ·intro h4
     refine aK<|gA<|lmI Z<|lmL Z<|lnI ty.sl49 Z<|lbB Z<|lmB Z ?_
     refine AL.bool (t := 51) rfl ?_ ?_
     ·intro h5
      refine lno Z<|lno Z<|lno Z<|lkT Z<|laT Z<|nG<|aR ?_
      refine eBo trivial ?_
      first | rfl | exact (hag.2 (by have h := h5;simp only [decide_eq_false_iff_not,rowsP_len] at h;omega)).yes | (trace_state;sorry)
     ·intro h5
      refine loX (.agg [vI _ _,vI _ _,vI _ _,vL _ _ _,vL _ _ _,vL _ _ _]) ty.kd27 Z<|loX (.agg [vI _ _,vL _ _ _]) ty.kd54 Z<|lst (zC [] [] [] Tryz.func20 (agrees_e (allA newBook wes).now _ hwn (by have := hsl.1;omega)) (trivial) rfl rfl) Z<|lT [2,51,54] [2003,2005,2008] ?_
      refine lkB Z<|laB Z<|nG<|aR ?_
      refine eBo trivial ?_
      first | rfl | exact (hag.2 (by have h := h5;simp only [decide_eq_false_iff_not,rowsP_len] at h;omega)).yes | (trace_state;sorry)
  ·intro h2
   refine aK<|gA ?_
   have hxe : wx = newBook := hsb (by simpa using h2)
   subst hxe
   refine loX (.agg [vI _ _,vI _ _,vI _ _,vL _ _ _,vL _ _ _,vL _ _ _]) ty.kd27 Z<|lmL Z<|lst (zC [] [] [] Tryz.func18 (applyAll_f newBook wes newBook_wf hwes.1 (by have := hwes.2;omega)) (trivial) rfl rfl) Z<|lmX (.tup [.agg [vI _ _,vI _ _,vI _ _,vL _ _ _,vL _ _ _,vL _ _ _],vL _ _ _,vL _ _ _]) Z<|lxX (.agg [vI _ _,vI _ _,vI _ _,vL _ _ _,vL _ _ _,vL _ _ _]) Z<|lxL Z<|lxL Z<|lst (zA 2005 ty.ze27 rfl) Z<|lst (zB 2005 ty.co27 ty.inf27 rfl) Z<|laL Z<|laL Z<|nA<|lq (rd (x := .agg [vI _ _,vV _]) (rd_build rfl ty.sa54 rfl rfl rfl) rfl)<|lmL rfl ?_
   have heq : allA newBook wes = allS newBook wes := if_pos bookOk_new
   have hwn : BookWf (allA newBook wes).now := allA_wf newBook_wf hwes.1
   have hps := allS_ps (x := newBook) (es := wes) wes.length (Nat.le_refl _)
   have hpl := allS_ps_len (x := newBook) (es := wes) wes.length (Nat.le_refl _)
   have hag := agr_all agr_new (es := wes) wes.length (Nat.le_refl _)
   have hcl := allS_codes (x := newBook) (es := wes) wes.length (Nat.le_refl _)
   rw [List.take_length,← heq] at hps hpl hag hcl
   have hw2 := hwes.2
   have hpn : (allA newBook wes).ps.length ≤ 1000000 := by omega
   have hsl := postS_le (l := ⟨0,[]⟩) (ps := (allA newBook wes).ps) (by simp) _ (Nat.le_refl _)
   rw [List.take_length] at hsl
   refine lst (zC [] [] [] Tryz.func19 (postAll0_e (allA newBook wes).ps hpl hpn) (trivial) Z Z) Z<|lT [2,4,5,6,7,33] [2003,2005] ?_
   refine lmX (.tup [.agg [vI _ _,vL _ _ _],vI _ _]) Z<|lxX (.agg [vI _ _,vL _ _ _]) Z<|lxI Z<|lst (zA 2008 ty.ze54 Z) Z<|lst (zB 2008 ty.co54 ty.inf54 Z) Z<|laI Z<|nG<|aS<|sL<|lmL Z<|lnI ty.sl50 Z<|lmL Z<|lnI ty.sl44 Z<|lbB Z<|lmB Z ?_
   refine AL.bool (t := 41) rfl ?_ ?_
   ·intro h6
    refine lno Z<|lno Z<|lno Z<|lno Z<|lkT Z<|nG<|aY Z<|sL<|laZ Z<|nG<|aR<|rT ?_
    refine eBo trivial ?_
    exfalso
    first | (simp [length_rowsOf,hcl] at h6;done) | (have h := h6;simp only [decide_eq_true_eq,rowsP_len] at h;omega)
   ·intro h6
    refine lmI Z<|lmL Z<|lnI ty.sl49 Z<|lbB Z<|lkB Z<|nG ?_
    refine AW.cond rfl ?_ ?_
    ·intro h7
     refine sL<|laZ Z<|nG<|aR<|rT ?_
     refine eBo trivial ?_
     exfalso
     first | (simp [length_rowsOf,hcl] at h7;done) | (have h := h7;simp only [decide_eq_true_eq,rowsP_len] at h;omega)
    ·intro h7
     refine aK<|gA<|lmI Z<|lmL Z<|lnI ty.sl49 Z<|lbB Z<|lmB Z ?_
     refine AL.bool (t := 51) rfl ?_ ?_
     ·intro h8
      refine lno Z<|lno Z<|lno Z<|lkT Z<|laT Z<|nG<|aR ?_
      refine eBo trivial ?_
      first | rfl | exact (hag.2 (by have h := h8;simp only [decide_eq_false_iff_not,rowsP_len] at h;omega)).yes | (trace_state;sorry)
     ·intro h8
      refine loX (.agg [vI _ _,vI _ _,vI _ _,vL _ _ _,vL _ _ _,vL _ _ _]) ty.kd27 Z<|loX (.agg [vI _ _,vL _ _ _]) ty.kd54 Z<|lst (zC [] [] [] Tryz.func20 (agrees_e (allA newBook wes).now _ hwn (by have := hsl.1;omega)) (trivial) rfl rfl) Z<|lT [2,51,54] [2003,2005,2008] ?_
      refine lkB Z<|laB Z<|nG<|aR ?_
      refine eBo trivial ?_
      first | rfl | exact (hag.2 (by have h := h8;simp only [decide_eq_false_iff_not,rowsP_len] at h;omega)).yes | (trace_state;sorry)

theorem FnAgrees_walk (l : List Int) (a : Option Addr) (c : Nat) (w : World) (h0 : SlR 1 repByte w 0 w.heap.size (.slice a l.length c) l) :
 Calls Tryz.prog 4 #[.slice a l.length c] w fun r w' => r = .returned (.bool true) ∧ Grow w w' :=
 GC.calls (cs := [_]) rfl (fnAgrees_e l) (by
  simp only [RVL]
  exact ⟨_,_,rfl,RV.of_slr (enc := encU8) h0 (fun _ _ h => h.1) (fun _ => rfl) (by intro c u hu;simp [encU8] at hu;subst hu;rfl) (Nat.le_refl _) (fun _ _ _ => no_live),rfl⟩)
end Go.Proofs.YtogkbcmfoalpiaaGreat

namespace Go.Proofs.YtogkbcmfoalpiaaGreat.fnAgrees
open Go.ChangeShapes Go.WideShapes Go.ChangeAt Go.RowKit Go.Proofs.YtogkbcmfoalpiaaGreat
set_option maxHeartbeats 16000000
set_option maxRecDepth 100000
set_option linter.unusedVariables false
theorem own : ownKnob Tryz.prog.godebug = none := by kernel_rfl
theorem laid : laidOutB Tryz.prog = true := by kernel_rfl
theorem readable : ∀ t ∈ [22],Tryz.prog.readableRec t = true ∧ t < Tryz.prog.types.size := by
 intro t ht
 simp only [List.mem_cons,List.not_mem_nil,or_false] at ht
 rcases ht with rfl
 all_goals exact ⟨by kernel_rfl,of_decide_eq_true (by kernel_rfl)⟩
theorem lifted (os : Os) (started : os.Started) (H : Type) (enc : TypeId × Value → H) :
 ReturnsInHanded {} Tryz.checked os 4 .any (Rows.fnAgreesSpec.pre6 enc Tryz.prog Tryz.f4 Rows.fnAgreesRow.domain false) (Rows.fnAgreesSpec.post enc Tryz.prog Tryz.f4 false true false false) := by
 refine returnsInHanded_of_change (C := Tryz.checked) own started (by kernel_rfl) Tryz.func4
  (ChangeSpec.witness6 (enc := enc) (C := Tryz.checked) false ⟨#[],#[.slice none 0 0],[]⟩ 8 (by kernel_rfl) (by kernel_rfl) (by kernel_rfl) (by kernel_rfl)) ?_
 intro W base args ds gs before hval0 hW hcnd _
 have hval : ∀ (j : Nat) t v,Tryz.f4.params[j]? = some t → args[j]? = some v → Value.okWide Tryz.prog W .any base t v := hval0
 have hW' := hW
 obtain ⟨p,q,hA0,hV,rfl,hfz,hnd⟩ := hW
 have hA : DataW.TrodAll enc Tryz.prog W 0 (fun _ => true) true Tryz.f4.params.toList args.toList ds p := hA0
 rw [Tryz.params4] at hA hval
 have hB := hA
 obtain ⟨v0,vs0,d0,ds0,p0,q0,hargs,rfl,rfl,h0,r0⟩ := trodAll_cons hA
 obtain ⟨rfl,rfl,rfl⟩ := trodAll_nil r0
 obtain rfl : args = #[v0] := by cases args;simp_all
 obtain ⟨rfl,rfl⟩ := trodVars_none hV
 obtain ⟨a0,l0,c0,rfl⟩ := okWide_slice Tryz.underlying22 (hval 0 22 v0 rfl rfl)
 obtain ⟨fu0,t0⟩ := h0
 obtain ⟨x0,s0⟩ := SlR.of_trod (rep := repByte) Tryz.underlying22 cellsByte (by decide) (fun _ _ _ h => trodByte h) t0
 obtain rfl : l0 = x0.length := by obtain ⟨_,_,he,_⟩ := s0;injection he
 clear hA0 hval0
 simp only [List.append_nil] at hW'
 refine (FnAgrees_walk x0 a0 c0 W s0).mono fun e W' ⟨he,hg⟩ => ?_
 subst he
 exact ⟨_,rfl,_,_,_,_,_,[],hW',trodAll_mk1 (shut_bool Tryz.underlying4 true),
  trodAll_below laid hg.below (readable) hB,rfl,hg.below.frame _,fun h => by cases h⟩
theorem over : Rows.fnAgreesRow.holds Tryz.pinned (OpenSpec.ofChange Rows.fnAgreesSpec) :=
 OpenClaim.holds_of_wide 4 Tryz.f4 rfl rfl rfl rfl rfl rfl rfl ⟨rfl,rfl,rfl,rfl,rfl⟩ rfl rfl rfl rfl rfl (by kernel_rfl) Tryz.func4 (by kernel_rfl)
  (of_decide_eq_true (by kernel_rfl)) (by unfold Func.isWrapper;first | (rw [if_pos (by decide +kernel)];kernel_rfl) | (rw [if_neg (by decide +kernel)];exact ⟨rfl,rfl⟩))
  (fun os started H enc _ => lifted os started H enc)
theorem proved : Rows.FnAgreesSaid :=
 over
#print axioms proved
end Go.Proofs.YtogkbcmfoalpiaaGreat.fnAgrees

