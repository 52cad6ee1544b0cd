/- Texts of the proof of FnMoves, joined: ED2, E25, ED3, EA5, EA6, EA7, EA9, ES1. -/
import Derived.Test.YtnlpbgljaecdmaaJMoves5
import Derived.Test.YtnlpbgljaecdmaaJMoves3
namespace Go.Proofs.Ytnlpbgljaecdmaa
open Go.RowKit
set_option maxHeartbeats 16000000
set_option maxRecDepth 100000
set_option linter.unusedSimpArgs false
set_option linter.unusedVariables false
def DrE:AV→Prop:=fun x=>∃e,wfEvent e∧x=evV e
abbrev evC(T:Option Value)(a b c d e f:Int)(g:Bool):AO:=.box 111 T [int a,int b,int c,int d,int e,int f,boo g]
abbrev Ev7:=Int×Int×Int×Int×Int×Int×Bool
abbrev ev7(z:Ev7):Event:=⟨z.1,z.2.1,z.2.2.1,z.2.2.2.1,z.2.2.2.2.1,z.2.2.2.2.2.1,z.2.2.2.2.2.2⟩
abbrev encI(n:Int):List Value:=[.int .i64 n]
theorem tmod4(x:Int):-3≤x.tmod 4∧x.tmod 4≤3:=by cases x<;>simp[Int.tmod]<;>omega
theorem mem_i64:∀x∈([-101,-100,0,19,20,100,101]:List Int),i64 x:=by intro x hx;simp at hx;unfold i64;omega
theorem l04Draw_e(g:Value)(code:List Int)(i:Nat)(h:Int)(hc:CurOk code i):GX Try.prog 71 [.ptr 0 0 0] [(0,curO g code i h)] (DrR g code DrE):=by
 refine GX.intro (rs:=[.cell 2 111 (some 7)]) Try.func71 rfl Try.ntmps71 (Nat.le_of_ble_eq_true rfl) ⟨rfl,rfl,ty.kd111,trivial⟩ ?_
 intro L O w0
 refine sL<|lst (zA 2002 ty.ze111 Z) Z<|nA<|lmP Z ?_
 refine lX [(0,0)] [] [0] Try.func20 (l01Below_e g code _ _ _ hc) (⟨⟨0,rfl,rfl⟩,trivial⟩) (pins_cur) Z ?_
 intro xz1 oz1 hz1
 obtain⟨i1,q1,hc1,⟨n1,⟨na1,nb1⟩,rfl⟩,rfl⟩:=hz1
 refine lgI Z<|laI Z<|nA<|lmI Z<|lq (rd (x:=.agg [vI _ _,vI _ _,vI _ _,vI _ _,vI _ _,vI _ _,vB false]) (rd_build Z ty.sa111 Z Z Z) Z)<|lst (zA 2004 ty.ze111 Z) Z<|lst (zB 2004 ty.co111 ty.inf111 Z) Z<|nA<|lmI Z<|lst (zC [(60,60)] [60] [] Try.func86 (shas_e _) (trivial) Z Z) Z<|laO Z<|nG ?_
 refine aJ [0,2,4,5] [60,2002] (D:=Nat×Int×Ev7) (fun d=>[]) (fun d=>[(0,curO g code d.1 d.2.1),(2004,evC none d.2.2.1 d.2.2.2.1 d.2.2.2.2.1 d.2.2.2.2.2.1 d.2.2.2.2.2.2.1 d.2.2.2.2.2.2.2.1 d.2.2.2.2.2.2.2.2)]) (fun d=>CurOk code d.1∧wfEvent (ev7 d.2.2)) ?_ ?_
 ·refine sL<|lmO Z<|lq (rj 0 ty.el132 rfl (by show 0<6;decide))<|lq (rd (x:=vB _) (rd_load_arr rfl ty.kd4 rfl rfl rfl (rfl) rfl) rfl)<|nG ?_
  refine AW.cond rfl ?_ ?_
  ·intro h1
   refine aL<|lmP Z ?_
   refine lX [(0,0)] [] [0] Try.func20 (l01Below_e g code _ _ _ hc1) (⟨⟨0,rfl,rfl⟩,trivial⟩) (pins_cur) Z ?_
   intro xz2 oz2 hz2
   obtain⟨i2,q2,hc2,⟨n2,⟨na2,nb2⟩,rfl⟩,rfl⟩:=hz2
   refine lT [0,2,4,5,17] [0,60,2002,2004] ?_
   refine lgI Z<|lf 1 ty.F111_1 Z<|lst (zB 2004 ty.co3 ty.inf3 Z) Z<|nG ?_
   refine⟨(_,_,_,_,_,_,_,_,_),(by refine⟨by assumption,?_⟩;simp only[wfEvent,i64,ev7]at *;omega),trivial,⟨rfl,rfl,trivial⟩,rfl,rfl⟩
  ·intro h1
   refine aK<|gT ?_
   refine⟨(_,_,_,_,_,_,_,_,_),(by refine⟨by assumption,?_⟩;simp only[wfEvent,i64,ev7]at *;omega),trivial,⟨rfl,rfl,trivial⟩,rfl,rfl⟩
 ·intro ⟨iJ6,qJ6,ea6,eb6,ec6,ed6,ee6,ef6,eg6⟩ hJ6
  dsimp only
  obtain⟨hcJ6,hwJ6⟩:=hJ6
  replace hcJ6:CurOk code iJ6:=hcJ6
  unfold wfEvent i64 at hwJ6
  simp only[ev7]at hwJ6
  refine aJ [0,2,4,5] [60,2002] (D:=Nat×Int×Ev7) (fun d=>[]) (fun d=>[(0,curO g code d.1 d.2.1),(2004,evC none d.2.2.1 d.2.2.2.1 d.2.2.2.2.1 d.2.2.2.2.2.1 d.2.2.2.2.2.2.1 d.2.2.2.2.2.2.2.1 d.2.2.2.2.2.2.2.2)]) (fun d=>CurOk code d.1∧wfEvent (ev7 d.2.2)) ?_ ?_
  ·refine sL<|lmO Z<|lq (rj 1 ty.el132 rfl (by show 1<6;decide))<|lq (rd (x:=vB _) (rd_load_arr rfl ty.kd4 rfl rfl rfl (rfl) rfl) rfl)<|nG ?_
   refine AW.cond rfl ?_ ?_
   ·intro h2
    refine aL<|lmP Z ?_
    refine lX [(0,0)] [] [0] Try.func20 (l01Below_e g code _ _ _ hcJ6) (⟨⟨0,rfl,rfl⟩,trivial⟩) (pins_cur) Z ?_
    intro xz3 oz3 hz3
    obtain⟨i3,q3,hc3,⟨n3,⟨na3,nb3⟩,rfl⟩,rfl⟩:=hz3
    refine lgI Z<|lf 2 ty.F111_2 Z<|lst (zB 2004 ty.co3 ty.inf3 Z) Z<|nG ?_
    refine⟨(_,_,_,_,_,_,_,_,_),(by refine⟨by assumption,?_⟩;simp only[wfEvent,i64,ev7]at *;omega),trivial,⟨rfl,rfl,trivial⟩,rfl,rfl⟩
   ·intro h2
    refine aK<|gT ?_
    refine⟨(_,_,_,_,_,_,_,_,_),(by refine⟨by assumption,?_⟩;simp only[wfEvent,i64,ev7]at *;omega),trivial,⟨rfl,rfl,trivial⟩,rfl,rfl⟩
  ·intro ⟨iJ8,qJ8,ea8,eb8,ec8,ed8,ee8,ef8,eg8⟩ hJ8
   dsimp only
   obtain⟨hcJ8,hwJ8⟩:=hJ8
   replace hcJ8:CurOk code iJ8:=hcJ8
   unfold wfEvent i64 at hwJ8
   simp only[ev7]at hwJ8
   refine aJ [0,2,4,5] [60,2002] (D:=Nat×Int×Ev7) (fun d=>[]) (fun d=>[(0,curO g code d.1 d.2.1),(2004,evC none d.2.2.1 d.2.2.2.1 d.2.2.2.2.1 d.2.2.2.2.2.1 d.2.2.2.2.2.2.1 d.2.2.2.2.2.2.2.1 d.2.2.2.2.2.2.2.2)]) (fun d=>CurOk code d.1∧wfEvent (ev7 d.2.2)) ?_ ?_
   ·refine sL<|lmO Z<|lq (rj 2 ty.el132 rfl (by show 2<6;decide))<|lq (rd (x:=vB _) (rd_load_arr rfl ty.kd4 rfl rfl rfl (rfl) rfl) rfl)<|nG ?_
    refine AW.cond rfl ?_ ?_
    ·intro h3
     refine aG 8 [0]<|tq 0 (rf 2 ty.F111_2 Z)<|tq 1 (roI ty.kd3 Z)<|yq 2 (rmP Z) ?_
     refine AG.stx (i:=3) rfl (by kernel_rfl) (St.callX [(0,0)] [] [0] rfl (by intro s hs;cases hs;decide) rfl Try.func20 rfl rfl (l01Below_e g code _ _ _ hcJ8) ⟨rfl,rfl,rfl⟩ (⟨⟨0,rfl,rfl⟩,trivial⟩) (pins_cur) rfl) (exK (l:=[0]) rfl rfl) rfl ?_
     rintro _ _ ⟨xz5,oz5,hz5,rfl,rfl⟩
     obtain⟨i5,q5,hc5,⟨n5,⟨na5,nb5⟩,rfl⟩,rfl⟩:=hz5
     refine yq 4 (rd (x:=vI _ _) (rd_val rfl rfl rfl (run_addw rfl) rfl) rfl) ?_
     refine yq 5 (rhI rfl ⟨rfl,by decide⟩) ?_
     have ht4:=tmod4 (IntKind.i64.wrap (ec8+n5))
     refine yq 6 (rgI rfl (by unfold i64;omega))<|yq 7 (rf 3 ty.F111_3 rfl)<|yl rfl (zB 2004 ty.co3 ty.inf3 rfl)<|gT ?_
     refine⟨(_,_,_,_,_,_,_,_,_),(by refine⟨by assumption,?_⟩;simp only[wfEvent,i64,ev7]at *;omega),trivial,⟨rfl,rfl,trivial⟩,rfl,rfl⟩
    ·intro h3
     refine aK<|gT ?_
     refine⟨(_,_,_,_,_,_,_,_,_),(by refine⟨by assumption,?_⟩;simp only[wfEvent,i64,ev7]at *;omega),trivial,⟨rfl,rfl,trivial⟩,rfl,rfl⟩
   ·intro ⟨iJ10,qJ10,ea10,eb10,ec10,ed10,ee10,ef10,eg10⟩ hJ10
    dsimp only
    obtain⟨hcJ10,hwJ10⟩:=hJ10
    replace hcJ10:CurOk code iJ10:=hcJ10
    unfold wfEvent i64 at hwJ10
    simp only[ev7]at hwJ10
    refine aJ [0,2,4,5] [60,2002] (D:=Nat×Int×Ev7) (fun d=>[]) (fun d=>[(0,curO g code d.1 d.2.1),(2004,evC none d.2.2.1 d.2.2.2.1 d.2.2.2.2.1 d.2.2.2.2.2.1 d.2.2.2.2.2.2.1 d.2.2.2.2.2.2.2.1 d.2.2.2.2.2.2.2.2)]) (fun d=>CurOk code d.1∧wfEvent (ev7 d.2.2)) ?_ ?_
    ·refine sL<|lmO Z<|lq (rj 3 ty.el132 rfl (by show 3<6;decide))<|lq (rd (x:=vB _) (rd_load_arr rfl ty.kd4 rfl rfl rfl (rfl) rfl) rfl)<|nG ?_
     refine AW.cond rfl ?_ ?_
     ·intro h4
      refine aL<|lmP Z ?_
      refine lX [(0,0)] [] [0] Try.func20 (l01Below_e g code _ _ _ hcJ10) (⟨⟨0,rfl,rfl⟩,trivial⟩) (pins_cur) Z ?_
      intro xz6 oz6 hz6
      obtain⟨i6,q6,hc6,⟨n6,⟨na6,nb6⟩,rfl⟩,rfl⟩:=hz6
      refine lgI Z<|lgI Z<|lf 4 ty.F111_4 Z<|lst (zB 2004 ty.co3 ty.inf3 Z) Z<|nG ?_
      refine⟨(_,_,_,_,_,_,_,_,_),(by refine⟨by assumption,?_⟩;simp only[wfEvent,i64,ev7]at *;omega),trivial,⟨rfl,rfl,trivial⟩,rfl,rfl⟩
     ·intro h4
      refine aK<|gT ?_
      refine⟨(_,_,_,_,_,_,_,_,_),(by refine⟨by assumption,?_⟩;simp only[wfEvent,i64,ev7]at *;omega),trivial,⟨rfl,rfl,trivial⟩,rfl,rfl⟩
    ·intro ⟨iJ12,qJ12,ea12,eb12,ec12,ed12,ee12,ef12,eg12⟩ hJ12
     dsimp only
     obtain⟨hcJ12,hwJ12⟩:=hJ12
     replace hcJ12:CurOk code iJ12:=hcJ12
     unfold wfEvent i64 at hwJ12
     simp only[ev7]at hwJ12
     refine aJ [0,2,4,5] [60,2002] (D:=Nat×Int×Ev7) (fun d=>[]) (fun d=>[(0,curO g code d.1 d.2.1),(2004,evC none d.2.2.1 d.2.2.2.1 d.2.2.2.2.1 d.2.2.2.2.2.1 d.2.2.2.2.2.2.1 d.2.2.2.2.2.2.2.1 d.2.2.2.2.2.2.2.2)]) (fun d=>CurOk code d.1∧wfEvent (ev7 d.2.2)) ?_ ?_
     ·refine sL<|lmO Z<|lq (rj 4 ty.el132 rfl (by show 4<6;decide))<|lq (rd (x:=vB _) (rd_load_arr rfl ty.kd4 rfl rfl rfl (rfl) rfl) rfl)<|nG ?_
      refine AW.cond rfl ?_ ?_
      ·intro h5
       refine aL<|lmP Z ?_
       refine lX [(0,0)] [] [0] Try.func20 (l01Below_e g code _ _ _ hcJ12) (⟨⟨0,rfl,rfl⟩,trivial⟩) (pins_cur) Z ?_
       intro xz7 oz7 hz7
       obtain⟨i7,q7,hc7,⟨n7,⟨na7,nb7⟩,rfl⟩,rfl⟩:=hz7
       refine lgI Z<|lf 5 ty.F111_5 Z<|lst (zB 2004 ty.co3 ty.inf3 Z) Z<|nG ?_
       refine⟨(_,_,_,_,_,_,_,_,_),(by refine⟨by assumption,?_⟩;simp only[wfEvent,i64,ev7]at *;omega),trivial,⟨rfl,rfl,trivial⟩,rfl,rfl⟩
      ·intro h5
       refine aK<|gT ?_
       refine⟨(_,_,_,_,_,_,_,_,_),(by refine⟨by assumption,?_⟩;simp only[wfEvent,i64,ev7]at *;omega),trivial,⟨rfl,rfl,trivial⟩,rfl,rfl⟩
     ·intro ⟨iJ14,qJ14,ea14,eb14,ec14,ed14,ee14,ef14,eg14⟩ hJ14
      dsimp only
      obtain⟨hcJ14,hwJ14⟩:=hJ14
      replace hcJ14:CurOk code iJ14:=hcJ14
      unfold wfEvent i64 at hwJ14
      simp only[ev7]at hwJ14
      refine aJ [0,2,4,5] [60,2002] (D:=Nat×Int×Ev7) (fun d=>[]) (fun d=>[(0,curO g code d.1 d.2.1),(2004,evC none d.2.2.1 d.2.2.2.1 d.2.2.2.2.1 d.2.2.2.2.2.1 d.2.2.2.2.2.2.1 d.2.2.2.2.2.2.2.1 d.2.2.2.2.2.2.2.2)]) (fun d=>CurOk code d.1∧wfEvent (ev7 d.2.2)) ?_ ?_
      ·refine aL<|lmO Z<|lq (rj 5 ty.el132 rfl (by show 5<6;decide))<|lq (rd (x:=vB _) (rd_load_arr rfl ty.kd4 rfl rfl rfl (rfl) rfl) rfl)<|lmB rfl ?_
       refine AL.bool (t:=56) rfl ?_ ?_
       ·intro h6
        refine lmP rfl ?_
        refine lX [(0,0)] [] [0] Try.func20 (l01Below_e g code _ _ _ hcJ14) (⟨⟨0,rfl,rfl⟩,trivial⟩) (pins_cur) Z ?_
        intro xz8 oz8 hz8
        obtain⟨i8,q8,hc8,⟨n8,⟨na8,nb8⟩,rfl⟩,rfl⟩:=hz8
        refine lbB Z<|lkB Z<|lf 6 ty.F111_6 Z<|lst (zB 2004 ty.co4 ty.inf4 Z) Z<|nG ?_
        refine⟨(_,_,_,_,_,_,_,_,_),(by refine⟨by assumption,?_⟩;simp only[wfEvent,i64,ev7]at *;omega),trivial,⟨rfl,rfl,trivial⟩,rfl,rfl⟩
       ·intro h6
        refine lno Z<|lno Z<|lno Z<|lkZ Z<|lf 6 ty.F111_6 Z<|lst (zB 2004 ty.co4 ty.inf4 Z) Z<|nG ?_
        refine⟨(_,_,_,_,_,_,_,_,_),(by refine⟨by assumption,?_⟩;simp only[wfEvent,i64,ev7]at *;omega),trivial,⟨rfl,rfl,trivial⟩,rfl,rfl⟩
      ·intro ⟨iJ15,qJ15,ea15,eb15,ec15,ed15,ee15,ef15,eg15⟩ hJ15
       dsimp only
       obtain⟨hcJ15,hwJ15⟩:=hJ15
       replace hcJ15:CurOk code iJ15:=hcJ15
       unfold wfEvent i64 at hwJ15
       simp only[ev7]at hwJ15
       refine aJ [2,4] [60,2002] (D:=Nat×Int×Ev7) (fun d=>[]) (fun d=>[(0,curO g code d.1 d.2.1),(2004,evC none d.2.2.1 d.2.2.2.1 d.2.2.2.2.1 d.2.2.2.2.2.1 d.2.2.2.2.2.2.1 d.2.2.2.2.2.2.2.1 d.2.2.2.2.2.2.2.2)]) (fun d=>CurOk code d.1∧wfEvent (ev7 d.2.2)) ?_ ?_
       ·refine sL<|lmP Z ?_
        refine lX [(0,0)] [] [0] Try.func20 (l01Below_e g code _ _ _ hcJ15) (⟨⟨0,rfl,rfl⟩,trivial⟩) (pins_cur) Z ?_
        intro xz9 oz9 hz9
        obtain⟨i9,q9,hc9,⟨n9,⟨na9,nb9⟩,rfl⟩,rfl⟩:=hz9
        refine lbB Z<|lmB Z ?_
        refine AL.bool (t:=65) rfl ?_ ?_
        ·intro h7
         refine lmO Z<|lq (rj 3 ty.el132 rfl (by show 3<6;decide))<|lq (rd (x:=vB _) (rd_load_arr rfl ty.kd4 rfl rfl rfl (rfl) rfl) rfl)<|lkB Z<|nG ?_
         refine AW.cond rfl ?_ ?_
         ·intro h8
          refine aL<|lmP Z ?_
          refine lX [(0,0)] [] [0] Try.func20 (l01Below_e g code _ _ _ hc9) (⟨⟨0,rfl,rfl⟩,trivial⟩) (pins_cur) Z ?_
          intro xz10 oz10 hz10
          obtain⟨i10,q10,hc10,⟨n10,⟨na10,nb10⟩,rfl⟩,rfl⟩:=hz10
          refine lgI Z<|lf 4 ty.F111_4 Z<|lst (zB 2004 ty.co3 ty.inf3 Z) Z<|nG ?_
          refine⟨(_,_,_,_,_,_,_,_,_),(by refine⟨by assumption,?_⟩;simp only[wfEvent,i64,ev7]at *;omega),trivial,⟨rfl,rfl,trivial⟩,rfl,rfl⟩
         ·intro h8
          refine aK<|gT ?_
          refine⟨(_,_,_,_,_,_,_,_,_),(by refine⟨by assumption,?_⟩;simp only[wfEvent,i64,ev7]at *;omega),trivial,⟨rfl,rfl,trivial⟩,rfl,rfl⟩
        ·intro h7
         refine lno Z<|lno Z<|lno Z<|lkZ Z<|nG<|aN Z<|aK<|gT ?_
         refine⟨(_,_,_,_,_,_,_,_,_),(by refine⟨by assumption,?_⟩;simp only[wfEvent,i64,ev7]at *;omega),trivial,⟨rfl,rfl,trivial⟩,rfl,rfl⟩
       ·intro ⟨iJ17,qJ17,ea17,eb17,ec17,ed17,ee17,ef17,eg17⟩ hJ17
        dsimp only
        obtain⟨hcJ17,hwJ17⟩:=hJ17
        replace hcJ17:CurOk code iJ17:=hcJ17
        unfold wfEvent i64 at hwJ17
        simp only[ev7]at hwJ17
        refine sL<|loX (.agg [vI _ _,vI _ _,vI _ _,vI _ _,vI _ _,vI _ _,vB _]) ty.kd111 Z<|lst (zB 2002 ty.co111 ty.inf111 Z) Z<|nG<|aR ?_
        refine end_xret (evV ⟨_,_,_,_,_,_,_⟩) [(0,curO g code _ _)] ?_ rfl ⟨rfl,trivial⟩
        exact⟨_,_,by assumption,⟨_,by simp only[wfEvent,i64]at *;omega,rfl⟩,rfl⟩
theorem l06Score_e(g:Value)(code:List Int)(i:Nat)(h:Int)(hc:CurOk code i):GX Try.prog 59 [.ptr 0 0 0] [(0,curO g code i h)] (DrR g code (DrI i64)):=by
 refine GX.intro (rs:=[.tmp 2]) Try.func59 rfl Try.ntmps59 (Nat.le_of_ble_eq_true rfl) ⟨rfl,trivial⟩ ?_
 intro L O w0
 refine sL<|laI Z<|nA<|lmP Z ?_
 refine lX [(0,0)] [] [0] Try.func20 (l01Below_e g code _ _ _ hc) (⟨⟨0,rfl,rfl⟩,trivial⟩) (pins_cur) Z ?_
 intro xz1 oz1 hz1
 obtain⟨i1,q1,hc1,⟨n1,⟨na1,nb1⟩,rfl⟩,rfl⟩:=hz1
 refine lgI Z<|laI Z<|nA<|lmP Z ?_
 refine lX [(0,0)] [] [0] Try.func20 (l01Below_e g code _ _ _ hc1) (⟨⟨0,rfl,rfl⟩,trivial⟩) (pins_cur) Z ?_
 intro xz2 oz2 hz2
 obtain⟨i2,q2,hc2,⟨n2,⟨na2,nb2⟩,rfl⟩,rfl⟩:=hz2
 refine laI Z<|nG ?_
 refine aJ [0,2,4] [] (D:=Nat×Int×Int) (fun d=>[(3,int d.2.2)]) (fun d=>[(0,curO g code d.1 d.2.1)]) (fun d=>CurOk code d.1∧i64 d.2.2) ?_ ?_
 ·refine sL<|lmI Z<|lbB Z<|nG ?_
  refine AW.cond rfl ?_ ?_
  ·intro h1
   refine aL<|lmP Z ?_
   refine lX [(0,0)] [] [0] Try.func21 (l01Raw_e g code _ _ hc2) (⟨⟨0,rfl,rfl⟩,trivial⟩) (pins_cur) Z ?_
   intro xz3 oz3 hz3
   obtain⟨i3,q3,hc3,⟨n3,hn3,rfl⟩,rfl⟩:=hz3
   refine laI Z<|nG ?_
   refine⟨(_,_,_),(by refine⟨by assumption,?_⟩;dsimp only;first|assumption|(unfold i64 at *;omega)|exact mem_i64 _ (List.getElem_mem _)),⟨rfl,trivial⟩,⟨rfl,trivial⟩,rfl,rfl⟩
  ·intro h1
   refine aK<|gT ?_
   refine⟨(_,_,_),(by refine⟨by assumption,?_⟩;dsimp only;first|assumption|(unfold i64 at *;omega)|exact mem_i64 _ (List.getElem_mem _)),⟨rfl,trivial⟩,⟨rfl,trivial⟩,rfl,rfl⟩
 ·intro ⟨iJ5,qJ5,nJ5⟩ hJ5
  dsimp only
  obtain⟨hcJ5,hwJ5⟩:=hJ5
  replace hcJ5:CurOk code iJ5:=hcJ5
  replace hwJ5:i64 nJ5:=hwJ5
  refine aJ [2] [] (D:=Nat×Int×Int) (fun d=>[(3,int d.2.2)]) (fun d=>[(0,curO g code d.1 d.2.1)]) (fun d=>CurOk code d.1∧i64 d.2.2) ?_ ?_
  ·refine sL<|lmI Z<|lbB Z<|nG ?_
   refine AW.cond rfl ?_ ?_
   ·intro h2
    refine aL<|lst (zS 2016 (rowsOf encI [-101,-100,0,19,20,100,101]) ty.el46 ty.ze3 rfl (by intro r hr;simp[rowsOf]at hr;rcases hr with h|h|h|h|h|h|h<;>(subst h;rfl))) Z<|lmP rfl ?_
    refine lX [(0,0)] [] [0] Try.func20 (l01Below_e g code _ _ _ hcJ5) (⟨⟨0,rfl,rfl⟩,trivial⟩) (pins_cur) Z ?_
    intro xz4 oz4 hz4
    obtain⟨i4,q4,hc4,⟨n4,⟨na4,nb4⟩,rfl⟩,rfl⟩:=hz4
    obtain⟨m,hm⟩:=Int.eq_ofNat_of_zero_le na4
    have hm7:m<([-101,-100,0,19,20,100,101]:List Int).length:=by show m<7;omega
    refine lq (rd (x:=.ptr 2016 _ 0) (rd_iaddr_own (i:=m) rfl ty.el46 rfl rfl rfl ?hn1 (by rw[length_rowsOf];exact hm7)) rfl) ?_
    case hn1=>exact hm
    refine lq (rd (x:=vI _ _) (rd_load_arr Z ty.kd3 Z Z Z (row_map hm7) Z) Z)<|laI Z<|nG ?_
    refine⟨(_,_,_),(by refine⟨by assumption,?_⟩;dsimp only;first|assumption|(unfold i64 at *;omega)|exact mem_i64 _ (List.getElem_mem _)),⟨rfl,trivial⟩,⟨rfl,trivial⟩,rfl,rfl⟩
   ·intro h2
    refine aK<|gT ?_
    refine⟨(_,_,_),(by refine⟨by assumption,?_⟩;dsimp only;first|assumption|(unfold i64 at *;omega)|exact mem_i64 _ (List.getElem_mem _)),⟨rfl,trivial⟩,⟨rfl,trivial⟩,rfl,rfl⟩
  ·intro ⟨iJ7,qJ7,nJ7⟩ hJ7
   dsimp only
   obtain⟨hcJ7,hwJ7⟩:=hJ7
   replace hcJ7:CurOk code iJ7:=hcJ7
   replace hwJ7:i64 nJ7:=hwJ7
   refine sL<|lmI Z<|laI Z<|nG<|aR ?_
   refine end_xret (int _) [(0,curO g code _ _)] ?_ rfl ⟨rfl,trivial⟩
   exact⟨_,_,by assumption,⟨_,by assumption,rfl⟩,rfl⟩

section
variable {P:Program}{o:Oper}{N:Nat}{τ:Nat→AV}{H:Nat→AO}
theorem St.trunc(id:Nat){t e e':TypeId}{pn:Option Value}{x:Operand}{hi:Option Operand}{sz h d:Nat}{rows:List (List PV)}(ho:o.op=.slice t x none hi none)(hd:o.dst=some d)(hN:d<N)(ht:elA P t=some (e,sz))(hx:ev τ x=.own id)(hH:H id=.arr ⟨e',pn⟩ sz rows)(hhi:bnd τ rows.length hi h)(hn:h≤rows.length) :
 St P o N τ H [] (updo (fun s=>kil (one? id) (τ s)) o.dst (.own id)) (upd (fun j=>(H j).kil (one? id)) id (.arr ⟨e',none⟩ sz (rows.take h))):=by
 refine St.turn id (one? id) (.own id) (.arr ⟨e',none⟩ sz (rows.take h)) [] (fun s hs=>by rw[hd]at hs;cases hs;exact hN) (fun{L O w0 ρ fp a w} hr=>?_)
 have hv:=hr.ev x
 rw[hx,RV]at hv
 have h0:=hv.2 (by rw[hH];rfl)
 have hO:=hr.ob id
 rw[hH]at hO
 obtain⟨xs,fr,r1,r2,hown,hfp,_⟩:=hO
 have hlen:(rows.take h).length=h:=by rw[List.length_take];omega
 obtain⟨g1,t1,t2⟩:=r1.take h
 have hgrow:w.grownBy w none:=⟨rfl,rfl,rfl,Nat.le_refl _,fun _ _ _=>rfl⟩
 rcases hown.2 with⟨q,q'⟩|⟨g,cap,cur,q,hb0,hg,c1,c2,c3,c4⟩
 ·have hrun:=slc_run (o:=o) (a:=a) (l:=0) (fun z=>hr.ev z) ho ht (by show (0:Nat)=0;rfl) hhi (Nat.zero_le _) hn (Nat.le_of_eq q') (by rw[h0,q,q']) w
  have hz:h=0:=by omega
  subst hz
  refine⟨w,.slice none 0 0,none,_,_,hrun,.inl rfl,hgrow,by simp,(fun b off hb hlt=>?_),(fun hk=>by simp[one?]at hk),(fun b hb=>by cases hb),(fun E=>⟨⟨[],g1,?_,?_,?_,rfl,(fun u hu=>by cases hu)⟩,?_⟩)⟩
  ·rcases hb with hb|hb
   ·cases hb
   ·omega
  ·have:xs.take (0*sz)=[]:=by simp
   rw[this]at t1;exact t1
  ·intro b hb hl
   have hlt:=RWR.lt _ r1 b (t2 hb)
   exact(E.block b hlt (r2 b (t2 hb))).2 hl
  ·have:(rows.take 0).length=0:=by simp
   rw[this]
   exact World.ownsRow_nil _ _ _ _
  ·rw[RV,upd_same]
   exact⟨by rfl,fun _=>by rw[upd_same];(try rfl);(try simp)⟩
 ·have hrun:=slc_run (o:=o) (a:=a) (l:=0) (fun z=>hr.ev z) ho ht (by show (0:Nat)=0;rfl) hhi (Nat.zero_le _) hn c1 (h0.trans q) w
  have ead:(if cap=0 then (some ⟨g,0,none⟩:Option Addr)else (some ⟨g,0,none⟩:Option Addr).map (·.add (0*sz)))=some ⟨g,0,none⟩:=by
   split
   ·rfl
   ·show some ((⟨g,0,none⟩:Addr).add (0*sz))=_
    unfold Addr.add;split<;>simp_all
  rw[ead,Nat.sub_zero,Nat.sub_zero]at hrun
  refine⟨w,.slice (some ⟨g,0,none⟩) h cap,none,_,_,hrun,.inl rfl,hgrow,by simp,(fun b off hb hlt=>?_),(fun hk=>by simp[one?]at hk),(fun b hb=>.inr ⟨by rw[hH];rfl,by rw[q];exact hb⟩),(fun E=>⟨⟨xs.take (h*sz),g1,t1,?_,?_,rfl,(fun u hu=>by cases hu)⟩,?_⟩)⟩
  ·rcases hb with hb|hb
   ·cases hb
   ·omega
  ·intro b hb hl
   have hlt:=RWR.lt _ r1 b (t2 hb)
   exact(E.block b hlt (r2 b (t2 hb))).2 hl
  ·rw[hlen]
   refine⟨?_,.inr ⟨g,cap,cur,rfl,hb0,hg,by omega,c2,c3,?_⟩⟩
   ·rw[List.length_take,hown.1]
    have:=Nat.mul_le_mul_right sz hn
    omega
   ·rw[←c4,List.take_take]
    have:=Nat.mul_le_mul_right sz hn
    congr 1
    omega
  ·rw[RV,upd_same]
   exact⟨by rfl,fun _=>by rw[upd_same];(try rfl);(try simp)⟩
end

def DrX(g:Value)(code:List Int)(R:AV→List (Nat×AO)→Prop):AV→List (Nat×AO)→Prop:=fun x ob=>∃i h ob2,CurOk code i∧R x ob2∧ob=(0,curO g code i h)::ob2
theorem pins_curX{g:Value}{code:List Int}{i:Nat}{h:Int}{R:AV→List (Nat×AO)→Prop}:∀x ob1,DrX g code R x ob1→pins [(0,curO g code i h)] ob1 [0]:=fun x ob1 ⟨_,_,_,_,_,e⟩=>by
 subst e
 exact⟨stays.box (Eq.refl 3),trivial⟩
theorem tmod3(x:Int):-2≤x.tmod 3∧x.tmod 3≤2:=by cases x<;>simp[Int.tmod]<;>omega
def EvsOk(m:Int)(es:List Event):Prop:=(∀e∈es,wfEvent e)∧(es.length:Int)≤m
theorem EvsOk.take{m:Int}{es:List Event}(h:EvsOk m es)(k:Nat):EvsOk m (es.take k):=⟨fun e he=>h.1 e (List.mem_of_mem_take he),by have:=h.2;rw[List.length_take];omega⟩
theorem EvsOk.add{m:Int}{es:List Event}(h:EvsOk m es){e:Event}(he:wfEvent e):EvsOk (m+1) (es++[e]):=⟨fun x hx=>by
 rcases List.mem_append.1 hx with q|q
 ·exact h.1 x q
 ·rw[List.mem_singleton.1 q];exact he,by have:=h.2;simp;omega⟩
theorem EvsOk.mono{m n:Int}{es:List Event}(h:EvsOk m es)(hmn:m≤n):EvsOk n es:=⟨h.1,Int.le_trans h.2 hmn⟩
theorem l07Events_e(g:Value)(code:List Int)(i:Nat)(h m:Int)(hc:CurOk code i)(hm:0≤m∧m≤100):GX Try.prog 58 [.ptr 0 0 0,int m] [(0,curO g code i h)] (DrX g code fun x ob2=>∃es,EvsOk (5+m) es∧x=.own 50∧ob2=[(50,.arr 111 7 (rowsOf encEvent es))]):=by
 refine GX.intro (rs:=[.tmp 4]) Try.func58 rfl Try.ntmps58 (Nat.le_of_ble_eq_true rfl) ⟨rfl,trivial⟩ ?_
 intro L O w0
 refine sL<|laV Z<|nA<|lq (rd (x:=.agg [vI _ _,vI _ _,vI _ _,vI _ _,vI _ _,vI _ _,vB false]) (rd_build Z ty.sa111 Z Z Z) Z)<|lq (rd (x:=.agg [vI _ _,vI _ _,vI _ _,vI _ _,vI _ _,vI _ _,vB false]) (rd_build Z ty.sa111 Z Z Z) Z)<|lq (rd (x:=.agg [vI _ _,vI _ _,vI _ _,vI _ _,vI _ _,vI _ _,vB false]) (rd_build Z ty.sa111 Z Z Z) Z)<|lq (rd (x:=.agg [vI _ _,vI _ _,vI _ _,vI _ _,vI _ _,vI _ _,vB false]) (rd_build Z ty.sa111 Z Z Z) Z)<|lmP Z ?_
 refine lX [(0,0)] [] [0] Try.func20 (l01Below_e g code _ _ _ hc) (⟨⟨0,rfl,rfl⟩,trivial⟩) (pins_cur) Z ?_
 intro xz1 oz1 hz1
 obtain⟨i1,q1,hc1,⟨n1,⟨na1,nb1⟩,rfl⟩,rfl⟩:=hz1
 refine lgI Z<|lmP Z ?_
 refine lX [(0,0)] [] [0] Try.func20 (l01Below_e g code _ _ _ hc1) (⟨⟨0,rfl,rfl⟩,trivial⟩) (pins_cur) Z ?_
 intro xz2 oz2 hz2
 obtain⟨i2,q2,hc2,⟨n2,⟨na2,nb2⟩,rfl⟩,rfl⟩:=hz2
 refine lmP rfl ?_
 refine lX [(0,0)] [] [0] Try.func20 (l01Below_e g code _ _ _ hc2) (⟨⟨0,rfl,rfl⟩,trivial⟩) (pins_cur) Z ?_
 intro xz3 oz3 hz3
 obtain⟨i3,q3,hc3,⟨n3,⟨na3,nb3⟩,rfl⟩,rfl⟩:=hz3
 refine lq (rd (x:=.agg [vI _ _,vI _ _,vI _ _,vI _ _,vI _ _,vI _ _,vB false]) (rd_build rfl ty.sa111 rfl rfl rfl) rfl) ?_
 refine lst (zS 50 (rowsOf encEvent [⟨1,0,0,0,100000,0,false⟩,⟨2,0,1,0,20000,10000,false⟩,⟨2,0,2,0,10000,20000,false⟩,⟨2,0,3,0,15000,15000,false⟩,⟨4,0,1+n1,0,n2,n3,false⟩]) ty.el98 ty.ze111 rfl (by intro r hr;simp[rowsOf]at hr;rcases hr with h|h|h|h|h<;>(subst h;rfl))) Z<|lT [0,1,4,20] [0,50] ?_
 refine laO Z<|nG ?_
 refine aJ [0,1,4] [] (D:=Nat×Int×List Event) (fun d=>[(5,.own 50)]) (fun d=>[(0,curO g code d.1 d.2.1),(50,.arr 111 7 (rowsOf encEvent d.2.2))]) (fun d=>CurOk code d.1∧EvsOk 5 d.2.2) ?_ ?_
 ·refine sL<|lmP Z ?_
  refine lX [(0,0)] [] [0] Try.func20 (l01Below_e g code _ _ _ hc3) (⟨⟨0,rfl,rfl⟩,trivial⟩) (pins_cur) Z ?_
  intro xz4 oz4 hz4
  obtain⟨i4,q4,hc4,⟨n4,⟨na4,nb4⟩,rfl⟩,rfl⟩:=hz4
  refine lbB Z<|nG ?_
  refine AW.cond rfl ?_ ?_
  ·intro h1
   refine aL<|lmO Z<|lmP Z ?_
   refine lX [(0,0)] [] [0] Try.func20 (l01Below_e g code _ _ _ hc4) (⟨⟨0,rfl,rfl⟩,trivial⟩) (pins_cur) Z ?_
   intro xz5 oz5 hz5
   obtain⟨i5,q5,hc5,⟨n5,⟨na5,nb5⟩,rfl⟩,rfl⟩:=hz5
   obtain⟨m5,rfl⟩:=Int.eq_ofNat_of_zero_le na5
   refine lst (St.trunc 50 rfl rfl (by decide) ty.el98 rfl rfl ⟨_,rfl⟩ (by simp[rowsOf];omega)) Z<|laO Z<|nG ?_
   refine⟨(_,_,List.take m5 [⟨1,0,0,0,100000,0,false⟩,⟨2,0,1,0,20000,10000,false⟩,⟨2,0,2,0,10000,20000,false⟩,⟨2,0,3,0,15000,15000,false⟩,⟨4,0,1+n1,0,n2,n3,false⟩]),⟨by assumption,EvsOk.take (m:=5) ⟨by intro e he;simp at he;rcases he with h|h|h|h|h<;>(subst h;unfold wfEvent i64;dsimp only;omega),by simp⟩ _⟩,⟨rfl,trivial⟩,⟨rfl,(congrArg (AO.arr 111 7) (List.map_take).symm),trivial⟩,rfl,rfl⟩
  ·intro h1
   refine aK<|gT ?_
   refine⟨(_,_,[⟨1,0,0,0,100000,0,false⟩,⟨2,0,1,0,20000,10000,false⟩,⟨2,0,2,0,10000,20000,false⟩,⟨2,0,3,0,15000,15000,false⟩,⟨4,0,1+n1,0,n2,n3,false⟩]),⟨by assumption,⟨by intro e he;simp at he;rcases he with h|h|h|h|h<;>(subst h;unfold wfEvent i64;dsimp only;omega),by simp⟩⟩,⟨rfl,trivial⟩,⟨rfl,rfl,trivial⟩,rfl,rfl⟩
 ·intro ⟨iJ4,qJ4,esJ⟩ hJ4
  dsimp only
  obtain⟨hcJ4,hwJ4⟩:=hJ4
  simp only at hcJ4 hwJ4
  refine aS<|sL<|lmP Z<|lmI Z<|lgI Z ?_
  refine lX [(0,0)] [] [0] Try.func20 (l01Below_e g code _ _ _ hcJ4) (⟨⟨0,rfl,rfl⟩,trivial⟩) (pins_cur) Z ?_
  intro xz6 oz6 hz6
  obtain⟨i6,q6,hc6,⟨n6,⟨na6,nb6⟩,rfl⟩,rfl⟩:=hz6
  refine laI Z<|nG<|aB ?_
  obtain⟨kk,hkk⟩:=Int.eq_ofNat_of_zero_le na6
  refine aW [0,4] [] (D:=Nat×Int×Nat×List Event) (fun d=>[(6,int (d.2.2.1:Int)),(5,.own 50)]) (fun d=>[(0,curO g code d.1 d.2.1),(50,.arr 111 7 (rowsOf encEvent d.2.2.2))]) (fun d=>CurOk code d.1∧EvsOk (5+m-d.2.2.1) d.2.2.2∧(d.2.2.1:Int)≤m) (fun d=>d.2.2.1) ((_,_,kk,esJ)) (⟨by assumption,hwJ4.mono (by dsimp only;omega),by dsimp only;omega⟩) ⟨(congrArg int hkk),rfl,trivial⟩ ⟨rfl,rfl,trivial⟩ ?_
  intro ⟨iL,qL,kL,esL⟩ hI
  obtain⟨hcL,hwL,hkL⟩:=hI
  simp only at hcL hwL hkL
  dsimp only
  refine aS<|sL<|lmI Z<|lbB Z<|nG ?_
  refine AW.cond rfl ?_ ?_
  ·intro h2
   refine aK<|gT<|aS<|aB<|aS ?_
   have hk1:1≤kL:=by have h:=h2;simp only[decide_eq_true_eq]at h;omega
   refine aL<|lmP Z ?_
   refine lX [(0,0)] [] [0] Try.func71 (l04Draw_e g code _ _ hcL) (⟨⟨0,rfl,rfl⟩,trivial⟩) (pins_cur) Z ?_
   intro xz7 oz7 hz7
   obtain⟨i7,q7,hc7,⟨⟨va7,vb7,vc7,vd7,ve7,vf7,vg7⟩,hw7,rfl⟩,rfl⟩:=hz7
   refine lst (zA 2007 ty.ze111 Z) Z<|lst (zB 2007 ty.co111 ty.inf111 Z) Z<|nG ?_
   refine aJ [0,4,5,6,7] [50] (D:=Nat×Int×Ev7) (fun d=>[]) (fun d=>[(0,curO g code d.1 d.2.1),(2007,evC none d.2.2.1 d.2.2.2.1 d.2.2.2.2.1 d.2.2.2.2.2.1 d.2.2.2.2.2.2.1 d.2.2.2.2.2.2.2.1 d.2.2.2.2.2.2.2.2)]) (fun d=>CurOk code d.1∧wfEvent (ev7 d.2.2)) ?_ ?_
   ·refine sL<|lmP Z ?_
    refine lX [(0,0)] [] [0] Try.func20 (l01Below_e g code _ _ _ hc7) (⟨⟨0,rfl,rfl⟩,trivial⟩) (pins_cur) Z ?_
    intro xz8 oz8 hz8
    obtain⟨i8,q8,hc8,⟨n8,⟨na8,nb8⟩,rfl⟩,rfl⟩:=hz8
    refine lbB Z<|nG ?_
    refine AW.cond rfl ?_ ?_
    ·intro h3
     refine sL<|lmP Z ?_
     refine lX [(0,0)] [] [0] Try.func20 (l01Below_e g code _ _ _ hc8) (⟨⟨0,rfl,rfl⟩,trivial⟩) (pins_cur) Z ?_
     intro xz9 oz9 hz9
     obtain⟨i9,q9,hc9,⟨n9,⟨na9,nb9⟩,rfl⟩,rfl⟩:=hz9
     refine lT [0,4,5,6,7,42] [0,50,2007] ?_
     refine lgI Z<|lmP Z ?_
     refine lX [(0,0)] [] [0] Try.func20 (l01Below_e g code _ _ _ hc9) (⟨⟨0,rfl,rfl⟩,trivial⟩) (pins_cur) Z ?_
     intro xz10 oz10 hz10
     obtain⟨i10,q10,hc10,⟨n10,⟨na10,nb10⟩,rfl⟩,rfl⟩:=hz10
     refine lgI Z<|lmP Z ?_
     refine lX [(0,0)] [] [0] Try.func20 (l01Below_e g code _ _ _ hc10) (⟨⟨0,rfl,rfl⟩,trivial⟩) (pins_cur) Z ?_
     intro xz11 oz11 hz11
     obtain⟨i11,q11,hc11,⟨n11,⟨na11,nb11⟩,rfl⟩,rfl⟩:=hz11
     refine lgI Z<|lmP Z ?_
     refine lX [(0,0)] [] [0] Try.func20 (l01Below_e g code _ _ _ hc11) (⟨⟨0,rfl,rfl⟩,trivial⟩) (pins_cur) Z ?_
     intro xz12 oz12 hz12
     obtain⟨i12,q12,hc12,⟨n12,⟨na12,nb12⟩,rfl⟩,rfl⟩:=hz12
     refine lbB Z<|lq (rd (x:=.agg [vI _ _,vI _ _,vI _ _,vI _ _,vI _ _,vI _ _,vB _]) (rd_build Z ty.sa111 Z Z Z) Z)<|lst (zB 2007 ty.co111 ty.inf111 Z) Z<|nG<|aL<|lf 2 ty.F111_2 Z<|loI ty.kd3 Z ?_
     refine lhI rfl ⟨rfl,by decide⟩ ?_
     have ht3:=tmod3 (1+n10)
     refine lgI Z<|lf 3 ty.F111_3 Z<|lst (zB 2007 ty.co3 ty.inf3 Z) Z<|lT [0,4,5,6,7] [0,50,2007] ?_
     refine nG ?_
     refine⟨(_,_,_,_,_,_,_,_,_),(by refine⟨by assumption,?_⟩;simp only[wfEvent,i64,ev7]at *;omega),trivial,⟨rfl,rfl,trivial⟩,rfl,rfl⟩
    ·intro h3
     refine aK<|gT ?_
     refine⟨(_,_,_,_,_,_,_,_,_),(by refine⟨by assumption,?_⟩;simp only[wfEvent,i64,ev7]at *;omega),trivial,⟨rfl,rfl,trivial⟩,rfl,rfl⟩
   ·intro ⟨iJ11,qJ11,ea11,eb11,ec11,ed11,ee11,ef11,eg11⟩ hJ11
    dsimp only
    obtain⟨hcJ11,hwJ11⟩:=hJ11
    replace hcJ11:CurOk code iJ11:=hcJ11
    unfold wfEvent i64 at hwJ11
    simp only[ev7]at hwJ11
    refine aL<|lmO Z<|loX (.agg [vI _ _,vI _ _,vI _ _,vI _ _,vI _ _,vI _ _,vB _]) ty.kd111 Z ?_
    refine lst (zS 2061 (rowsOf encEvent [⟨ea11,eb11,ec11,ed11,ee11,ef11,eg11⟩]) ty.el98 ty.ze111 rfl) Z<|lst (zP 50 ty.el98 ty.ze111 ty.by111 rfl (Src.own rfl rfl) (by have:=hwL.2;simp[rowsOf];omega)) Z<|laO Z<|lN<|gB<|gT<|aL<|lmI Z<|lgI Z<|laI Z<|nG ?_
    refine⟨(_,_,kL-1,esL++[⟨ea11,eb11,ec11,ed11,ee11,ef11,eg11⟩]),⟨by assumption,(hwL.add (by unfold wfEvent i64;dsimp only;omega)).mono (by dsimp only;omega),by dsimp only;omega⟩,by dsimp only;omega,⟨(Eq.trans (b:=int _) rfl (congrArg int (by dsimp only;omega))),rfl,trivial⟩,⟨rfl,(congrArg (AO.arr 111 7) (rowsOf_app encEvent _ [_]).symm),trivial⟩,rfl,rfl⟩
  ·intro h2
   refine aE<|eT<|eT<|eB<|gA<|lmO Z<|laO Z<|nG<|aR ?_
   refine end_xret (.own 50) [(0,curO g code _ _),(50,.arr 111 7 (rowsOf encEvent esL))] ?_ rfl ⟨rfl,rfl,trivial⟩
   exact⟨_,_,_,hcL,⟨esL,hwL.mono (by omega),rfl,rfl⟩,rfl⟩

def overB(x:Book)(e:Event):Bool:=
 if x.next=1125899906842624 then true
 else if e.kind=1 then decide (1125899906842624<x.wallet+e.amt)
 else if e.kind=2 then decide (1125899906842624<e.amt+e.fee)
 else if e.kind=3∧0≤chanAt x.chans e.ch then decide (1125899906842624<x.wallet+(chanOr x.chans e.ch).loc-e.fee)
 else if e.kind=8 then decide (x.tick=1125899906842624)
 else false
def A50(n:Int):Prop:=-1125899906842624≤n∧n≤1125899906842624
structure BookSm(x:Book):Prop where
 tick:A50 x.tick
 next:A50 x.next
 wallet:A50 x.wallet
 chans:∀c∈x.chans,A50 c.loc∧A50 c.remote∧A50 c.score∧A50 c.base∧A50 c.ppm
 htlcs:∀h∈x.htlcs,A50 h.amtIn∧A50 h.amtOut∧0≤h.age∧h.age≤1125899906842624∧0≤h.amtOut
 circles:∀c∈x.circles,A50 c.amt∧A50 c.fee
 lc:x.chans.length≤20
 lh:x.htlcs.length≤60
 li:x.circles.length≤20
structure EvSm(e:Event):Prop where
 amt:A50 e.amt
 fee:A50 e.fee
theorem mem_of_get{α:Type}{l:List α}{i:Nat}{c:α}(h:l[i]? = some c):c∈l:=List.mem_of_getElem? h
theorem BookSm.hs{x:Book}(h:BookSm x):SmallH x.htlcs:=⟨h.lh,fun y hy=>⟨(h.htlcs y hy).2.2.2.2,(h.htlcs y hy).2.1.2⟩⟩
def mapTo{α:Type}(f:α→α)(k:Nat)(l:List α):List α:=(l.take k).map f++l.drop k
theorem mapTo_zero{α:Type}(f:α→α)(l:List α):mapTo f 0 l=l:=by simp[mapTo]
theorem mapTo_all{α:Type}(f:α→α)(l:List α):mapTo f l.length l=l.map f:=by simp[mapTo]
theorem mapTo_len{α:Type}(f:α→α)(k:Nat)(l:List α)(h:k≤l.length):(mapTo f k l).length=l.length:=by simp[mapTo];omega
theorem mapTo_get{α:Type}(f:α→α){k:Nat}{l:List α}(h:k<l.length):(mapTo f k l)[k]? = some l[k]:=by
 unfold mapTo
 rw[List.getElem?_append_right (by simp;omega)]
 simp only[List.length_map,List.length_take,Nat.min_eq_left (Nat.le_of_lt h),Nat.sub_self,List.getElem?_drop,Nat.add_zero]
 exact List.getElem?_eq_getElem h
theorem mapTo_set{α:Type}(f:α→α){k:Nat}{l:List α}(h:k<l.length):(mapTo f k l).set k (f l[k])=mapTo f (k+1) l:=by
 unfold mapTo
 rw[List.set_append_right _ _ (by simp;omega)]
 simp only[List.length_map,List.length_take,Nat.min_eq_left (Nat.le_of_lt h),Nat.sub_self]
 rw[List.drop_eq_getElem_cons h,List.set_cons_zero,List.take_succ_eq_append_getElem h,List.map_append,List.append_assoc]
 rfl
theorem mapTo_skip{α:Type}(f:α→α){k:Nat}{l:List α}(h:k<l.length)(hf:f l[k]=l[k]):mapTo f k l=mapTo f (k+1) l:=by
 rw[←mapTo_set f h,hf]
 obtain⟨h',e⟩:=List.getElem?_eq_some_iff.1 (mapTo_get f h)
 conv=>rhs;rw[←e]
 exact(List.set_getElem_self h').symm
def ageH(h:Htlc):Htlc:={ h with age:=min (h.age+1) 1125899906842624 }
def fadeC(t:Int)(c:Chan):Chan:=if (t+1).tmod 5=0 then { c with score:=fade c.score } else c
def tickR(x:Book):WR:=⟨{ x with tick:=x.tick+1,htlcs:=x.htlcs.map ageH,chans:=x.chans.map (fadeC x.tick) },[],0⟩
def posC(l:List Chan)(ch:Int):Nat:=l.findIdx fun d=>!decide (d.id<ch)
def insC(l:List Chan)(c:Chan):List Chan:=l.take (posC l c.id)++[c]++l.drop (posC l c.id)
def openC(x:Book)(e:Event):Int:=failC (decide (x.wallet<e.amt)) (failC (decide (0≤chanAt x.chans e.ch)||decide ((20:Int)≤(x.chans.length:Int))) 0 3) 4
def openR(x:Book)(e:Event):WR:=if openC x e=0 then ⟨{ x with chans:=insC x.chans ⟨e.ch,e.amt+e.fee,e.amt,e.fee,0,0,0⟩,wallet:=x.wallet-e.amt },addL (addL [] 6 e.ch e.amt) 1 0 (-e.amt),0⟩else ⟨x,[],openC x e⟩
theorem openR_no{x:Book}{e:Event}(h:openC x e≠0):openR x e=⟨x,[],openC x e⟩:=if_neg h
theorem openR_yes{x:Book}{e:Event}(h:openC x e=0):openR x e=⟨{ x with chans:=insC x.chans ⟨e.ch,e.amt+e.fee,e.amt,e.fee,0,0,0⟩,wallet:=x.wallet-e.amt },addL (addL [] 6 e.ch e.amt) 1 0 (-e.amt),0⟩:=if_pos h
theorem rangeA_of{n:Int}(h:A50 n):rangeA n=true:=inB_true.2 h
theorem rangeA_neg{n:Int}(h:A50 n):rangeA (-n)=true:=inB_true.2 (by unfold A50 at h;omega)

structure BookFi(x:Book):Prop where
 sm:BookSm x
 ids:x.chans.Pairwise fun a b=>a.id≠b.id
 hks:x.htlcs.Pairwise fun a b=>a.key≠b.key
 iks:x.circles.Pairwise fun a b=>a.key≠b.key
 hch:∀h∈x.htlcs,0≤chanAt x.chans h.inn∧0≤chanAt x.chans h.out∧h.inn≠h.out
 ich:∀h∈x.circles,0≤chanAt x.chans h.frm∧0≤chanAt x.chans h.to∧h.frm≠h.to
def updC(l:List Chan)(ch:Int)(f:Chan→Chan):List Chan:=l.map fun c=>if c.id=ch then f c else c
def delC(l:List Chan)(ch:Int):List Chan:=l.filter fun c=>!(c.id==ch)
def delH(l:List Htlc)(key:Int):List Htlc:=l.filter fun c=>!(c.key==key)
def delI(l:List Circle)(key:Int):List Circle:=l.filter fun c=>!(c.key==key)
theorem pair_at{α:Type}{g:α→Int}{l:List α}(hnd:l.Pairwise fun a b=>g a≠g b){i j:Nat}{c d:α}(hc:l[i]? = some c)(hd:l[j]? = some d)(h:g c=g d):i=j:=by
 obtain⟨h1,rfl⟩:=List.getElem?_eq_some_iff.1 hc
 obtain⟨h2,rfl⟩:=List.getElem?_eq_some_iff.1 hd
 rcases Nat.lt_trichotomy i j with q|q|q
 ·exact absurd h (List.pairwise_iff_getElem.1 hnd i j h1 h2 q)
 ·exact q
 ·exact absurd h.symm (List.pairwise_iff_getElem.1 hnd j i h2 h1 q)
theorem set_upd{l:List Chan}(hnd:l.Pairwise fun a b=>a.id≠b.id){i:Nat}{c:Chan}(hc:l[i]? = some c)(f:Chan→Chan):l.set i (f c)=updC l c.id f:=by
 apply List.ext_getElem?
 intro j
 unfold updC
 rw[List.getElem?_map,List.getElem?_set]
 have hi:=(List.getElem?_eq_some_iff.1 hc).1
 by_cases e:i=j
 ·subst e
  rw[if_pos rfl,if_pos hi,hc]
  simp
 ·rw[if_neg e]
  cases hj:l[j]? with
  |none=>rfl
  |some d=>
   have:d.id≠c.id:=fun q=>e (pair_at (g:=fun c=>c.id) hnd hc hj q.symm)
   simp[this]
theorem upd_ids{l:List Chan}(hnd:l.Pairwise fun a b=>a.id≠b.id){ch:Int}{f:Chan→Chan}(hf:∀c,(f c).id=c.id):(updC l ch f).Pairwise fun a b=>a.id≠b.id:=by
 unfold updC
 rw[List.pairwise_map]
 refine hnd.imp fun{a b} h=>?_
 have e:∀c:Chan,(if c.id=ch then f c else c).id=c.id:=fun c=>by split<;>simp[hf]
 rw[e,e];exact h
theorem upd_get{l:List Chan}{ch:Int}{f:Chan→Chan}{j:Nat}{d:Chan}(hd:l[j]? = some d)(hne:d.id≠ch):(updC l ch f)[j]? = some d:=by
 unfold updC
 rw[List.getElem?_map,hd]
 simp[hne]
theorem set_two{l:List Chan}(hnd:l.Pairwise fun a b=>a.id≠b.id){i j:Nat}{c d:Chan}(hc:l[i]? = some c)(hd:l[j]? = some d)(hne:c.id≠d.id)(f g:Chan→Chan)(hf:∀c,(f c).id=c.id):(l.set i (f c)).set j (g d)=updC (updC l c.id f) d.id g:=by
 rw[set_upd hnd hc f]
 exact set_upd (upd_ids hnd hf) (upd_get hd (Ne.symm hne)) g
theorem set_get{α:Type}{l:List α}{i j:Nat}{d:α}(hd:l[j]? = some d)(hne:i≠j)(x:α):(l.set i x)[j]? = some d:=by rw[List.getElem?_set_ne hne];exact hd
theorem set_get_eq{α:Type}{l:List α}{i:Nat}{d:α}(hd:l[i]? = some d)(x:α):(l.set i x)[i]? = some x:=List.getElem?_set_self (List.getElem?_eq_some_iff.1 hd).1
theorem set_two'{l:List Chan}(hnd:l.Pairwise fun a b=>a.id≠b.id){i j:Nat}{c d:Chan}{a b:Int}(hc:l[i]? = some c)(hd:l[j]? = some d)(hid:c.id=a)(hjd:d.id=b)(hne:a≠b)(f g:Chan→Chan)(hf:∀c,(f c).id=c.id):(l.set i (f c)).set j (g d)=updC (updC l a f) b g:=by
 subst hid hjd
 exact set_two hnd hc hd hne f g hf
theorem idx_ne{l:List Chan}{i j:Nat}{c d:Chan}(hc:l[i]? = some c)(hd:l[j]? = some d)(hne:c.id≠d.id):i≠j:=fun e=>by
 subst e
 rw[hc]at hd
 injection hd with hd
 exact hne (by rw[hd])
def missC(l:List Chan)(ch:Int)(c:Int):Int:=if chanAt l ch=-1 then failC true c 6 else c
theorem missC_none{l:List Chan}{ch c:Int}(h:chanAt l ch=-1):missC l ch c=failC true c 6:=if_pos h
theorem missC_some{l:List Chan}{ch c:Int}{i:Nat}(h:chanAt l ch=(i:Int)):missC l ch c=c:=if_neg (by omega)
def shutC(x:Book)(e:Event):Int:=failC (decide ((chanOr x.chans e.ch).loc<e.fee)) (failC (usedB x e.ch) (missC x.chans e.ch 0) 7) 8
def shutY(x:Book)(e:Event):WR:=⟨{ x with chans:=delC x.chans e.ch,wallet:=x.wallet+((chanOr x.chans e.ch).loc-e.fee) },addL (addL (addL [] 1 0 ((chanOr x.chans e.ch).loc-e.fee)) 5 0 e.fee) 6 e.ch (-(chanOr x.chans e.ch).loc),0⟩
def shutR(x:Book)(e:Event):WR:=if shutC x e=0 then shutY x e else ⟨x,[],shutC x e⟩
theorem shutR_no{x:Book}{e:Event}(h:shutC x e≠0):shutR x e=⟨x,[],shutC x e⟩:=if_neg h
theorem shutR_yes{x:Book}{e:Event}(h:shutC x e=0):shutR x e=shutY x e:=if_pos h
def admSum(x:Book)(e:Event):Int:=addV e.amt (feeV (chanOr x.chans e.to).base (chanOr x.chans e.to).ppm e.amt)
def admBad(x:Book)(e:Event):Bool:=!feeOk (chanOr x.chans e.to).base (chanOr x.chans e.to).ppm e.amt||!addOk e.amt (feeV (chanOr x.chans e.to).base (chanOr x.chans e.to).ppm e.amt)
def admC0(x:Book)(e:Event):Int:=failC (decide ((60:Int)≤(x.htlcs.length:Int))) (missC x.chans e.to (missC x.chans e.ch (failC (knownB x e.key) 0 9))) 14
def admC1(x:Book)(e:Event):Int:=failC (decide ((chanOr x.chans e.to).loc<e.amt)) (failC (decide ((chanOr x.chans e.ch).remote<admSum x e)) (failC (admBad x e) (admC0 x e) 10) 11) 12
def admRoom(x:Book)(e:Event):Int:=roomV x.htlcs (chanOr x.chans e.ch) (chanOr x.chans e.to) e.to e.amt e.yes
def admC(x:Book)(e:Event):Int:=if admC1 x e=0 then failC (decide (admRoom x e=0)) (admC1 x e) 13 else admC1 x e
def admY(x:Book)(e:Event):WR:=⟨{ x with htlcs:=x.htlcs++[⟨e.key,e.ch,e.to,admSum x e,e.amt,decide (admRoom x e=2),0⟩],chans:=updC (updC x.chans e.ch fun c=>{ c with remote:=c.remote-admSum x e }) e.to fun c=>{ c with loc:=c.loc-e.amt } },addL (addL [] 6 e.to (-e.amt)) 8 e.to e.amt,0⟩
def admR(x:Book)(e:Event):WR:=if admC x e=0 then admY x e else ⟨x,[],admC x e⟩
theorem admR_no{x:Book}{e:Event}(h:admC x e≠0):admR x e=⟨x,[],admC x e⟩:=if_neg h
theorem admR_yes{x:Book}{e:Event}(h:admC x e=0):admR x e=admY x e:=if_pos h
theorem addV_A50(a b:Int):A50 (addV a b):=by
 rcases h:addOk a b with _|_
 ·rw[addV_no h];unfold A50;omega
 ·rw[addV_yes h]
  unfold addOk at h
  rw[Bool.and_eq_true,amtOk_true]at h
  unfold A50;omega

theorem at_find{α:Type}(p:α→Bool)(l:List α):(atI p l=-1∧l.find? p=none)∨∃(i:Nat) (c:α),atI p l=(i:Int)∧l[i]? = some c∧l.find? p=some c∧p c=true:=by
 unfold atI
 cases h:l.findIdx? p with
 |none=>
  refine .inl ⟨rfl,?_⟩
  rw[List.find?_eq_none]
  intro x hx
  have:=List.findIdx?_eq_none_iff.1 h x hx
  simpa using this
 |some i=>
  obtain⟨h1,h2,h3⟩:=List.findIdx?_eq_some_iff_getElem.1 h
  refine .inr ⟨i,l[i],rfl,List.getElem?_eq_getElem h1,?_,h2⟩
  rw[List.find?_eq_some_iff_getElem]
  exact⟨h2,i,h1,rfl,fun j hj=>by simpa using h3 j hj⟩
theorem chan_there{l:List Chan}{ch:Int}(h:0≤chanAt l ch):∃(i:Nat) (c:Chan),chanAt l ch=(i:Int)∧l[i]? = some c∧chanOr l ch=c∧c.id=ch:=by
 rcases chan_find l ch with q|q
 ·omega
 ·exact q
def setY(x:Book)(good:Bool)(h:Htlc):WR:=
 if good then ⟨{ x with htlcs:=delH x.htlcs h.key,chans:=updC (updC x.chans h.inn fun c=>{ c with loc:=c.loc+h.amtIn,score:=scoreUp c.score }) h.out fun c=>{ c with remote:=c.remote+h.amtOut } },
  addL (addL (addL [] 3 0 (h.amtOut-h.amtIn)) 6 h.inn h.amtIn) 8 h.out (-h.amtOut),0⟩
 else ⟨{ x with htlcs:=delH x.htlcs h.key,chans:=updC (updC x.chans h.inn fun c=>{ c with remote:=c.remote+h.amtIn,score:=scoreDown c.score }) h.out fun c=>{ c with loc:=c.loc+h.amtOut } },
  addL (addL [] 6 h.out h.amtOut) 8 h.out (-h.amtOut),0⟩
def setR(x:Book)(e:Event):WR:=match x.htlcs.find? (fun c=>c.key==e.key)with
 |some h=>setY x (decide (e.kind=6)) h
 |none=>⟨x,[],15⟩
def landY(x:Book)(good:Bool)(h:Circle):WR:=
 if good then ⟨{ x with circles:=delI x.circles h.key,chans:=updC (updC x.chans h.frm fun c=>{ c with remote:=c.remote+(h.amt+h.fee) }) h.to fun c=>{ c with loc:=c.loc+h.amt } },
  addL (addL (addL [] 4 0 h.fee) 6 h.to h.amt) 8 h.frm (-h.amt-h.fee),0⟩
 else ⟨{ x with circles:=delI x.circles h.key,chans:=updC (updC x.chans h.frm fun c=>{ c with loc:=c.loc+(h.amt+h.fee) }) h.to fun c=>{ c with remote:=c.remote+h.amt } },
  addL (addL [] 6 h.frm (h.amt+h.fee)) 8 h.frm (-h.amt-h.fee),0⟩
def landR(x:Book)(e:Event):WR:=match x.circles.find? (fun c=>c.key==e.key)with
 |some h=>landY x (decide (e.kind=10)) h
 |none=>⟨x,[],15⟩
theorem set_three{α:Type}{l:List α}{a b:Nat}{c1 c2 d1:α}(hne:a≠b):((l.set a c1).set b d1).set a c2=(l.set a c2).set b d1:=by
 rw[List.set_comm _ _ (Ne.symm hne),List.set_set]
def lauC0(x:Book)(e:Event):Int:=failC (decide ((20:Int)≤(x.circles.length:Int))) (missC x.chans e.to (missC x.chans e.ch (failC (knownB x e.key) 0 9))) 14
def lauC(x:Book)(e:Event):Int:=failC (decide ((chanOr x.chans e.to).remote<e.amt)) (failC (decide ((chanOr x.chans e.ch).loc<addV e.amt e.fee)) (failC (!addOk e.amt e.fee) (lauC0 x e) 10) 12) 11
def lauY(x:Book)(e:Event):WR:=⟨{ x with circles:=x.circles++[⟨e.key,e.ch,e.to,e.amt,e.fee⟩],chans:=updC (updC x.chans e.ch fun c=>{ c with loc:=c.loc-addV e.amt e.fee }) e.to fun c=>{ c with remote:=c.remote-e.amt } },addL (addL [] 6 e.ch (-addV e.amt e.fee)) 8 e.ch (addV e.amt e.fee),0⟩
def lauR(x:Book)(e:Event):WR:=if lauC x e=0 then lauY x e else ⟨x,[],lauC x e⟩
theorem lauR_no{x:Book}{e:Event}(h:lauC x e≠0):lauR x e=⟨x,[],lauC x e⟩:=if_neg h
theorem lauR_yes{x:Book}{e:Event}(h:lauC x e=0):lauR x e=lauY x e:=if_pos h

theorem chansOk_at{x:Book}(h:chansOk x=true){k:Nat}(hk:k<x.chans.length):chanOk1 x.chans[k]=true∧ascAt x.chans k=true∧chanSum x x.chans[k]=true:=by
 unfold chansOk at h
 have:=List.all_eq_true.1 h k (by simpa using hk)
 unfold chanAtOk at this
 rw[List.getElem?_eq_getElem hk]at this
 simp only[Bool.and_eq_true]at this
 exact⟨this.1.1,this.1.2,this.2⟩
theorem asc_lt{l:List Chan}(h:∀k,k<l.length→ascAt l k=true):∀(j i:Nat) (hj:j<l.length) (hi:i<j),(l[i]'(by omega)).id<l[j].id
 |0,i,hj,hi=>by omega
 |j+1,i,hj,hi=>by
  have h1:=h (j+1) hj
  unfold ascAt at h1
  dsimp only at h1
  rw[List.getElem?_eq_getElem (by omega:j<l.length),List.getElem?_eq_getElem hj]at h1
  have h2:(l[j]'(by omega)).id<l[j+1].id:=by simpa using h1
  rcases Nat.lt_or_ge i j with q|q
  ·have:=asc_lt h j i (by omega) q;omega
  ·have:i=j:=by omega
   subst this;exact h2
theorem keys_pair{ks:List Int}(h:keysOk ks=true):ks.Pairwise (·≠·):=by
 rw[List.pairwise_iff_getElem]
 intro i j hi hj hij e
 unfold keysOk at h
 have h1:=List.all_eq_true.1 h j (by simpa using hj)
 unfold keyAt at h1
 simp only[Bool.and_eq_true,Bool.not_eq_true']at h1
 have e1:ks.getD j 0=ks[j]:=by simp[List.getD_eq_getElem?_getD,List.getElem?_eq_getElem hj]
 rw[e1]at h1
 have h2:hasI (ks.take j) ks[j]=true:=hasI_yes (k:=i) (by simp;omega) (by rw[List.getElem_take];exact e)
 rw[h2]at h1
 cases h1.2
theorem bookOk_parts{x:Book}(h:bookOk x=true):amtOk x.tick=true∧amtOk x.wallet=true∧inB x.next 1 1125899906842624=true∧x.chans.length≤20∧partsOk x=true∧chansOk x=true:=by
 unfold bookOk at h
 simp only[Bool.and_eq_true,decide_eq_true_eq]at h
 obtain⟨⟨⟨⟨⟨h1,h2⟩,h3⟩,h4⟩,h5⟩,h6⟩:=h
 exact⟨h1,h2,h3,h4,h5,h6⟩
theorem parts_all{x:Book}(h:partsOk x=true):x.htlcs.length≤60∧x.circles.length≤20∧(∀h∈x.htlcs,hOk x.chans h=true)∧(∀h∈x.circles,cOk x.chans h=true)∧keysOk (keysOf x)=true:=by
 unfold partsOk at h
 simp only[Bool.and_eq_true,decide_eq_true_eq,List.all_eq_true]at h
 obtain⟨⟨⟨⟨h1,h2⟩,h3⟩,h4⟩,h5⟩:=h
 exact⟨h1,h2,h3,h4,h5⟩
theorem chan_all{x:Book}(h:chansOk x=true){c:Chan}(hc:c∈x.chans):chanOk1 c=true∧chanSum x c=true:=by
 obtain⟨k,hk,rfl⟩:=List.getElem_of_mem hc
 have:=chansOk_at h hk
 exact⟨this.1,this.2.2⟩
theorem two_parts{l:List Chan}{a b:Int}(h:two l a b=true):a≠b∧0≤chanAt l a∧0≤chanAt l b:=by
 unfold two at h
 simp only[Bool.and_eq_true,Bool.not_eq_true',beq_eq_false_iff_ne,decide_eq_true_eq]at h
 exact⟨h.1.1,h.1.2,h.2⟩
theorem chanOk1_parts{c:Chan}(h:chanOk1 c=true):(1≤c.id∧c.id≤99)∧(0≤c.loc∧c.loc≤1125899906842624)∧(0≤c.remote∧c.remote≤1125899906842624)∧(0≤c.base∧c.base≤1125899906842624)∧(0≤c.ppm∧c.ppm≤1000000)∧(-100≤c.score∧c.score≤100)∧(0≤c.size∧c.size≤1125899906842624):=by
 unfold chanOk1 chOk scOk at h
 simp only[Bool.and_eq_true,amtOk_true,inB_true]at h
 obtain⟨⟨⟨⟨⟨⟨h1,h2⟩,h3⟩,h4⟩,h5⟩,h6⟩,h7⟩:=h
 exact⟨h1,h2,h3,h4,h5,h6,h7⟩
theorem bookOk_fi{x:Book}(h:bookOk x=true):BookFi x:=by
 obtain⟨h1,h2,h3,h4,h5,h6⟩:=bookOk_parts h
 obtain⟨p1,p2,p3,p4,p5⟩:=parts_all h5
 have h1':=amtOk_true.1 h1
 have h2':=amtOk_true.1 h2
 have h3':=inB_true.1 h3
 have hp:=keys_pair p5
 unfold keysOf at hp
 rw[List.pairwise_append]at hp
 refine⟨⟨by unfold A50;omega,by unfold A50;omega,by unfold A50;omega,fun c hc=>?_,fun y hy=>?_,fun y hy=>?_,h4,p1,p2⟩,?_,?_,?_,fun y hy=>?_,fun y hy=>?_⟩
 ·have:=chanOk1_parts (chan_all h6 hc).1
  unfold A50;omega
 ·have:=hOk_iff.1 (p3 y hy)
  rw[amtOk_true,amtOk_true]at this
  unfold A50;omega
 ·have:=cOk_iff.1 (p4 y hy)
  rw[amtOk_true,amtOk_true]at this
  unfold A50;omega
 ·rw[List.pairwise_iff_getElem]
  intro i j hi hj hij
  have:=asc_lt (fun k hk=>(chansOk_at h6 hk).2.1) j i hj hij
  omega
 ·exact List.pairwise_map.1 hp.1
 ·exact List.pairwise_map.1 hp.2.1
 ·have:=two_parts (hOk_iff.1 (p3 y hy)).2.2.2.2
  exact⟨this.2.1,this.2.2,this.1⟩
 ·have:=two_parts (cOk_iff.1 (p4 y hy)).2.2.2
  exact⟨this.2.1,this.2.2,this.1⟩
theorem evSm_of{e:Event}(h:eventOk e=true):EvSm e∧0≤e.amt∧0≤e.fee:=by
 have:=evAmt h
 rw[amtOk_true,amtOk_true]at this
 exact⟨⟨by unfold A50;omega,by unfold A50;omega⟩,by omega,by omega⟩
theorem ev_ne{e:Event}(h:eventOk e=true)(hk:e.kind=5∨e.kind=9):e.ch≠e.to:=by
 unfold eventOk at h
 simp only[Bool.and_eq_true]at h
 have h1:=h.1.1.1.2
 intro q
 rw[q]at h1
 rcases hk with hk|hk<;>simp[hk,hT]at h1
theorem ev_kind{e:Event}(h:eventOk e=true):1≤e.kind∧e.kind≤11:=by
 rcases Classical.em (1≤e.kind∧e.kind≤11)with q|q
 ·exact q
 ·rw[evNone q]at h;cases h
theorem amts_of{x:Book}(h:bookOk x=true):(∀h∈x.htlcs,h.amtOut≤h.amtIn)∧∀h∈x.circles,0≤h.amt∧0≤h.fee:=by
 obtain⟨_,_,_,_,h5,_⟩:=bookOk_parts h
 obtain⟨_,_,p3,p4,_⟩:=parts_all h5
 refine⟨fun y hy=>(hOk_iff.1 (p3 y hy)).2.2.1,fun y hy=>?_⟩
 have:=cOk_iff.1 (p4 y hy)
 rw[amtOk_true,amtOk_true]at this
 omega
theorem circle_fits{x:Book}(h:bookOk x=true):∀y∈x.circles,0≤y.amt∧0≤y.fee∧y.amt+y.fee≤1125899906842624:=fun y hy=>by
 obtain⟨h1,h2,h3,h4,h5,h6⟩:=bookOk_parts h
 obtain⟨p1,p2,p3,p4,p5⟩:=parts_all h5
 have ha:=(amts_of h).2 y hy
 refine⟨ha.1,ha.2,?_⟩
 obtain⟨i,c,q1,q2,q3,q4⟩:=chan_there (two_parts (cOk_iff.1 (p4 y hy)).2.2.2).2.1
 obtain⟨c1,c2⟩:=chan_all h6 (mem_of_get q2)
 have c1:=chanOk1_parts c1
 unfold chanSum at c2
 rw[beq_iff_eq]at c2
 have sm:=Small.of_parts h5
 have s1:=sums_le sm c.id
 have t1:cOut c.id y≤tot (cOut c.id) x.circles:=by
  obtain⟨k,hk,rfl⟩:=List.getElem_of_mem hy
  have e1:tot (cOut c.id) x.circles=tot (cOut c.id) (x.circles.take (k+1))+tot (cOut c.id) (x.circles.drop (k+1)):=by
   unfold tot
   rw[←List.sum_append,←List.map_append,List.take_append_drop]
  have e2:=tot_succ (cOut c.id) x.circles hk
  have e3:=tot_take_le (cOut c.id) 2251799813685248 (by decide) x.circles (sm.cOut c.id) k
  have e4:=tot_le (cOut c.id) 2251799813685248 (by decide) (x.circles.drop (k+1)) (fun z hz=>sm.cOut c.id z (List.mem_of_mem_drop hz))
  omega
 have t2:0≤tot (hOut c.id) x.htlcs:=(tot_le (hOut c.id) 1125899906842624 (by decide) x.htlcs (sm.hOut c.id)).1
 have t3:cOut c.id y=y.amt+y.fee:=by unfold cOut;rw[if_pos q4.symm]
 unfold outOf at c2 s1
 omega
def depR(x:Book)(e:Event):WR:=⟨{ x with wallet:=x.wallet+e.amt },addL (addL [] 1 0 e.amt) 2 0 (-e.amt),0⟩
def priR(x:Book)(e:Event):WR:=if chanAt x.chans e.ch=-1 then ⟨x,[],6⟩else ⟨{ x with chans:=updC x.chans e.ch fun c=>{ c with base:=e.amt,ppm:=e.fee } },[],0⟩
def workR(x:Book)(e:Event):WR:=
 if e.kind=1 then depR x e else if e.kind=2 then openR x e else if e.kind=3 then shutR x e else if e.kind=4 then priR x e else if e.kind=5 then admR x e
 else if e.kind=6∨e.kind=7 then setR x e else if e.kind=8 then tickR x else if e.kind=9 then lauR x e else landR x e
def applyC(x:Book)(e:Event):Int:=if (bookOk x&&eventOk e)=true then (if overB x e=true then 2 else (workR x e).c)else 1
theorem applyC_bad{x:Book}{e:Event}(h:(bookOk x&&eventOk e)=false):applyC x e=1:=if_neg (by simp[h])
theorem workR_next(x:Book)(e:Event):(workR x e).b.next=x.next:=by
 unfold workR
 repeat' split
 ·rfl
 ·unfold openR;split<;>rfl
 ·unfold shutR;split<;>rfl
 ·unfold priR;split<;>rfl
 ·unfold admR;split<;>rfl
 ·unfold setR;split<;>(try unfold setY;split)<;>rfl
 ·rfl
 ·unfold lauR;split<;>rfl
 ·unfold landR;split<;>(try unfold landY;split)<;>rfl
abbrev zBookV:AV:=.agg [int 0,int 0,int 0,.p (.v (.slice none 0 0)),.p (.v (.slice none 0 0)),.p (.v (.slice none 0 0))]
abbrev zPostV:AV:=.agg [int 0,.p (.v (.slice none 0 0))]
abbrev ownB(t n w:Int):AV:=.agg [int t,int n,int w,.own 1,.own 2,.own 3]
abbrev ob3(b:Book):List (Nat×AO):=[(1,.arr 57 7 (rowsOf encChan b.chans)),(2,hAr b.htlcs),(3,iAr b.circles)]
abbrev ob4(b:Book)(l:List Line):List (Nat×AO):=[(1,.arr 57 7 (rowsOf encChan b.chans)),(2,hAr b.htlcs),(3,iAr b.circles),(4,lAr l)]
def appR(x:Book)(e:Event):AV→List (Nat×AO)→Prop:=fun y ob1=>
 (applyC x e≠0∧y=.tup [zBookV,zPostV,int (applyC x e)]∧ob1=[])∨
 (applyC x e=0∧(workR x e).l=[]∧y=.tup [ownB (workR x e).b.tick (workR x e).b.next (workR x e).b.wallet,zPostV,int 0]∧ob1=ob3 (workR x e).b)∨
 (applyC x e=0∧(workR x e).l≠[]∧y=.tup [ownB (workR x e).b.tick ((workR x e).b.next+1) (workR x e).b.wallet,.agg [int x.next,.own 4],int 0]∧ob1=ob4 (workR x e).b (workR x e).l)
theorem wk1{x:Book}{e:Event}(h:e.kind=1):depR x e=workR x e:=by unfold workR;simp[h]
theorem wk2{x:Book}{e:Event}(h:e.kind=2):openR x e=workR x e:=by unfold workR;simp[h]
theorem wk3{x:Book}{e:Event}(h:e.kind=3):shutR x e=workR x e:=by unfold workR;simp[h]
theorem wk4{x:Book}{e:Event}(h:e.kind=4):priR x e=workR x e:=by unfold workR;simp[h]
theorem wk5{x:Book}{e:Event}(h:e.kind=5):admR x e=workR x e:=by unfold workR;simp[h]
theorem wk6{x:Book}{e:Event}(h:e.kind=6∨e.kind=7):setR x e=workR x e:=by unfold workR;rcases h with h|h<;>simp[h]
theorem wk8{x:Book}{e:Event}(h:e.kind=8):tickR x=workR x e:=by unfold workR;simp[h]
theorem wk9{x:Book}{e:Event}(h:e.kind=9):lauR x e=workR x e:=by unfold workR;simp[h]
theorem wk10{x:Book}{e:Event}(h:10≤e.kind):landR x e=workR x e:=by
 unfold workR
 rw[if_neg (by omega),if_neg (by omega),if_neg (by omega),if_neg (by omega),if_neg (by omega),if_neg (by omega),if_neg (by omega),if_neg (by omega)]
theorem priR_no{x:Book}{e:Event}(h:chanAt x.chans e.ch=-1):priR x e=⟨x,[],6⟩:=if_pos h
theorem priR_yes{x:Book}{e:Event}{i:Nat}(h:chanAt x.chans e.ch=(i:Int)):priR x e=⟨{ x with chans:=updC x.chans e.ch fun c=>{ c with base:=e.amt,ppm:=e.fee } },[],0⟩:=if_neg (by omega)

def notLess(x y:Line):Bool:=!lessA y.acc x.acc
theorem insL_no{x:Line}:∀ {l:List Line},l.any (notLess x)=false→insL l x=l++[x]
 |[],_=>rfl
 |y::l,h=>by
  rw[List.any_cons,Bool.or_eq_false_iff]at h
  unfold insL
  have:lessA y.acc x.acc=true:=by have:=h.1;unfold notLess at this;simpa using this
  rw[if_pos this,insL_no h.2];rfl
theorem insL_snoc{x y:Line}:∀ {l:List Line},l.any (notLess x)=true→insL (l++[y]) x=insL l x++[y]
 |[],h=>by simp at h
 |z::l,h=>by
  rw[List.any_cons,Bool.or_eq_true]at h
  rw[List.cons_append]
  unfold insL
  by_cases q:lessA z.acc x.acc=true
  ·rw[if_pos q,if_pos q]
   have:l.any (notLess x)=true:=by
    rcases h with h|h
    ·unfold notLess at h;simp[q]at h
    ·exact h
   rw[insL_snoc this];rfl
  ·rw[if_neg q,if_neg q];rfl
theorem insL_here{x y:Line}:∀ {l:List Line},l.any (notLess x)=false→notLess x y=true→insL (l++[y]) x=l++[x,y]
 |[],_,h=>by
  unfold notLess at h
  simp only[Bool.not_eq_true']at h
  simp[insL,h]
 |z::l,h,h2=>by
  rw[List.any_cons,Bool.or_eq_false_iff]at h
  rw[List.cons_append]
  unfold insL
  have:lessA z.acc x.acc=true:=by have:=h.1;unfold notLess at this;simpa using this
  rw[if_pos this,insL_here h.2 h2];rfl
def putL(x:Line)(l:List Line):List Line:=if l.any (notLess x)then insL l x else l
theorem any_take{α:Type}{p:α→Bool}{l:List α}{k:Nat}(hk:k<l.length):(l.take (k+1)).any p=((l.take k).any p||p l[k]):=by rw[List.take_succ_eq_append_getElem hk,List.any_append];simp
theorem putL_old{x:Line}{l:List Line}{k:Nat}(hk:k<l.length)(h:(l.take k).any (notLess x)=true):putL x (l.take (k+1))=putL x (l.take k)++[l[k]]:=by
 unfold putL
 rw[any_take hk,h,Bool.true_or,if_pos rfl,if_pos rfl,List.take_succ_eq_append_getElem hk,insL_snoc h]
theorem putL_new{x:Line}{l:List Line}{k:Nat}(hk:k<l.length)(h:(l.take k).any (notLess x)=false)(h2:notLess x l[k]=true):putL x (l.take (k+1))=(putL x (l.take k)++[x])++[l[k]]:=by
 unfold putL
 rw[any_take hk,h,h2,Bool.false_or,if_pos rfl,if_neg (by simp),List.take_succ_eq_append_getElem hk,insL_here h h2]
 simp
theorem putL_not{x:Line}{l:List Line}{k:Nat}(hk:k<l.length)(h:(l.take k).any (notLess x)=false)(h2:notLess x l[k]=false):putL x (l.take (k+1))=putL x (l.take k)++[l[k]]:=by
 unfold putL
 rw[any_take hk,h,h2,Bool.false_or,if_neg (by simp),if_neg (by simp),List.take_succ_eq_append_getElem hk]
theorem putL_all{x:Line}{l:List Line}(h:l.any (notLess x)=true):putL x l=insL l x:=if_pos h
theorem putL_none{x:Line}{l:List Line}(h:l.any (notLess x)=false):putL x l++[x]=insL l x:=by unfold putL;rw[insL_no h,if_neg (by simp[h])]
theorem putL_len{x:Line}(l:List Line):(putL x l).length≤l.length+1:=by unfold putL;split<;>simp[insL_length]
abbrev sBox(g:Value)(t n w c:Int):AO:=.box 125 (some g) [int t,int n,int w,.own 1,.own 2,.own 3,.own 4,int c]
abbrev sIn(g:Value)(x:Book)(l:List Line)(c:Int):List (Nat×AO):=[(0,sBox g x.tick x.next x.wallet c),(1,.arr 57 7 (rowsOf encChan x.chans)),(2,hAr x.htlcs),(3,iAr x.circles),(4,lAr l)]
abbrev sOut(g:Value)(r:WR):List (Nat×AO):=sIn g r.b r.l r.c
def keyL(x:Book):List Int:=x.htlcs.map (fun h=>h.key)++x.circles.map (fun h=>h.key)
def encKey(n:Int):List Value:=[.int .i64 n]
theorem atI_any{α:Type}{p:α→Bool}{l:List α}:decide (0≤atI p l)=l.any p:=by
 rcases atI_cases p l with h|⟨k,hk,h,h2⟩
 ·have e:l.any p=false:=by
   rcases q:l.any p with _|_
   ·rfl
   ·obtain⟨c,hc,hp⟩:=List.any_eq_true.1 q
    unfold atI at h
    cases hf:l.findIdx? p with
    |none=>exact absurd (List.findIdx?_eq_none_iff.1 hf c hc) (by simp[hp])
    |some i=>rw[hf]at h;simp at h
  rw[h,e];rfl
 ·rw[h,any_yes hk h2];simp
theorem any_keys(x:Book)(key:Int):(keyL x).any (fun k=>k==key)=knownB x key:=by
 unfold keyL knownB htlcAt circleAt
 rw[List.any_append,atI_any,atI_any,List.any_map,List.any_map]
 rfl
theorem sless_e(a b:Acc):GC Try.prog 97 [.agg [int a.kind,int a.ch],.agg [int b.kind,int b.ch]] [] (boo (lessA a b)) []:=by
 refine gi 4 Try.func97 rfl Try.ntmps97 rfl ?_
 intro L O w0
 refine sL<|lst (zX 2002 Z) Z<|lst (zX 2003 Z) Z<|laZ Z<|nA<|lf 0 ty.F137_0 Z<|loI ty.kd3 Z<|lf 0 ty.F137_0 Z<|loI ty.kd3 Z<|lbB Z<|lmB Z ?_
 refine AL.bool (t:=10) rfl ?_ ?_
 ·intro h1
  refine lno Z<|lno Z<|lno Z<|lno Z<|lno Z<|lno Z<|lno Z<|lno Z<|lno Z<|lno Z<|lno Z<|lno Z<|lkT Z<|laT Z<|nG<|aR ?_
  refine eBo trivial ?_
  unfold lessA
  first|(simp_all;done)|(simp_all;intros;omega)
 ·intro h1
  refine lf 0 ty.F137_0 Z<|loI ty.kd3 Z<|lf 0 ty.F137_0 Z<|loI ty.kd3 Z<|lbB Z<|lmB Z ?_
  refine AL.bool (t:=16) rfl ?_ ?_
  ·intro h2
   refine lf 1 ty.F137_1 Z<|loI ty.kd3 Z<|lf 1 ty.F137_1 Z<|loI ty.kd3 Z<|lbB Z<|lkB Z<|lkB Z<|laB Z<|nG<|aR ?_
   refine eBo trivial ?_
   unfold lessA
   first|(simp_all;done)|(simp_all;intros;omega)
  ·intro h2
   refine lno Z<|lno Z<|lno Z<|lno Z<|lno Z<|lkZ Z<|lkZ Z<|laZ Z<|nG<|aR ?_
   refine eBo trivial ?_
   unfold lessA
   first|(simp_all;done)|(simp_all;intros;omega)
theorem sadd_e(l:List Line)(x:Line)(m:Nat)(hl:LG l m)(hm:m≤1000)(hf:Fresh l x.acc.kind x.acc.ch):GC Try.prog 89 [.p (.lst 139 3 (rowsOf encLine l)),.agg [int x.acc.kind,int x.acc.ch,int x.amt]] [] (.own 2009) [(2009,lAr (insL l x))]:=by
 have hlen:=hl.len
 refine gi 4 Try.func89 rfl Try.ntmps89 rfl ?_
 intro L O w0
 refine sL<|lst (zX 2003 rfl) Z<|laV Z<|nA<|lst (zS 2009 [] ty.el112 ty.ze139 rfl (by simp)) Z<|laO Z<|nA<|laZ Z<|nG<|aS<|sL<|lmL Z<|lnI ty.sl112 Z<|lmI Z<|nG<|aB ?_
 refine aW [3,4,5,10,11] [2003] (D:=Nat) (fun k=>[(6,boo ((l.take k).any (notLess x))),(12,int (k:Int))]) (fun k=>[(2009,lAr (putL x (l.take k)))]) (fun k=>k≤l.length) (fun k=>l.length-k) (0) (Nat.zero_le _) ⟨rfl,rfl,trivial⟩ ⟨rfl,trivial⟩ ?_
 intro k hI
 refine sL<|lbB Z<|nG<|aS ?_
 refine AW.cond rfl ?_ ?_
 ·intro h1
  refine aK<|gT<|aS<|aB<|sL ?_
  have hk:k<l.length:=by simpa[length_rowsOf]using h1
  refine li k ty.el112 Z (row_map hk)<|lrX (.agg [vI _ _,vI _ _,vI _ _]) ty.kd139 Z<|lst (zA 2008 ty.ze139 Z) Z<|lst (zB 2008 ty.co139 ty.inf139 Z) Z<|nG<|aS<|sL<|lmB Z<|luB Z<|lmB Z ?_
  refine AL.bool (t:=18) rfl ?_ ?_
  ·intro h2
   refine lf 0 ty.F139_0 Z<|loX (.agg [vI _ _,vI _ _]) ty.kd137 Z<|lf 0 ty.F139_0 Z<|loX (.agg [vI _ _,vI _ _]) ty.kd137 Z<|lst (zL Try.func97 (sless_e _ _) Z) Z<|lT [3,4,5,6,8,10,11,12,18,23] [2003,2008,2009] ?_
   refine luB Z<|lkB Z<|nG ?_
   refine AW.cond rfl ?_ ?_
   ·intro h3
    refine aS<|sL<|lf 0 ty.F139_0 Z<|loX (.agg [vI _ _,vI _ _]) ty.kd137 Z<|lf 0 ty.F139_0 Z<|loX (.agg [vI _ _,vI _ _]) ty.kd137 Z<|lq (rd (x:=vB _) (rd_eqS rfl (.inr rfl) rfl rfl ty.sf137 ty.su137 ty.sh137 ty.sg137 ?hn1) rfl) ?_
    case hn1=>exact⟨rfl,by decide,rfl,⟨_,Try.underlying3⟩,rfl,by decide,rfl,⟨_,Try.underlying3⟩,trivial⟩
    refine lsB 30 true rfl (by show (!eqVals _ _)=true;have:=hf l[k] (List.getElem_mem hk);simp[eqVals];first|(intro q1 q2;exact this ⟨q1,q2⟩)|omega)<|nG<|aY Z<|aL<|lmO Z<|loX (.agg [vI _ _,vI _ _,vI _ _]) ty.kd139 Z<|lst (zS 2033 (rowsOf encLine [x]) ty.el112 ty.ze139 rfl) Z<|lst (zP 2009 ty.el112 ty.ze139 ty.by139 rfl (Src.own rfl rfl) (by have:=putL_len (x:=x) (l.take k);have:=hl.len;simp[rowsOf]at *;omega)) Z<|laO Z<|nA<|laT Z<|nA<|lf 0 ty.F139_0 Z<|loX (.agg [vI _ _,vI _ _]) ty.kd137 Z<|lf 0 ty.F139_0 Z<|loX (.agg [vI _ _,vI _ _]) ty.kd137 Z<|lq (rd (x:=vB _) (rd_eqS rfl (.inl rfl) rfl rfl ty.sf137 ty.su137 ty.sh137 ty.sg137 ?hn2) rfl) ?_
    case hn2=>exact⟨rfl,by decide,rfl,⟨_,Try.underlying3⟩,rfl,by decide,rfl,⟨_,Try.underlying3⟩,trivial⟩
    refine lsB 56 false rfl (by show eqVals _ _=false;have:=hf l[k] (List.getElem_mem hk);simp[eqVals];first|(intro q1 q2;exact this ⟨q1,q2⟩)|omega)<|nG<|aN Z<|aK<|gT<|aL<|lmO Z<|loX (.agg [vI _ _,vI _ _,vI _ _]) ty.kd139 Z<|lst (zS 2059 (rowsOf encLine [l[k]]) ty.el112 ty.ze139 rfl) Z<|lT [3,4,5,6,10,11,12,57,59] [2003,2008,2009,2033,2059] ?_
    refine lst (zP 2009 ty.el112 ty.ze139 ty.by139 rfl (Src.own rfl rfl) (by have:=putL_len (x:=x) (l.take k);have:=hl.len;simp[rowsOf]at *;omega)) Z<|laO Z<|lN<|gB<|gT<|aL<|lgI Z<|lmI Z<|nG ?_
    have ha:(l.take k).any (notLess x)=false:=by simpa using h2
    have hb:notLess x l[k]=true:=by unfold notLess;simpa using h3
    refine⟨k+1,hk,by omega,⟨(Eq.trans (b:=boo true) rfl (congrArg boo (by rw[any_take hk,hb,Bool.or_true]))),(iq rfl),trivial⟩,⟨(Eq.trans (b:=lAr ((putL x (l.take k)++[x])++[l[k]])) (congrArg (AO.arr 139 3) (by rw[rowsOf_app,rowsOf_app]<;>rfl)) (congrArg lAr (putL_new hk ha hb).symm)),trivial⟩,rfl,rfl⟩
   ·intro h3
    refine aK<|gT<|aL<|lmO Z<|loX (.agg [vI _ _,vI _ _,vI _ _]) ty.kd139 Z<|lst (zS 2059 (rowsOf encLine [l[k]]) ty.el112 ty.ze139 rfl) Z<|lst (zP 2009 ty.el112 ty.ze139 ty.by139 rfl (Src.own rfl rfl) (by have:=putL_len (x:=x) (l.take k);have:=hl.len;simp[rowsOf]at *;omega)) Z<|laO Z<|lN<|gB<|gT<|aL<|lgI Z<|lmI Z<|nG ?_
    have ha:(l.take k).any (notLess x)=false:=by simpa using h2
    have hb:notLess x l[k]=false:=by unfold notLess;simpa using h3
    refine⟨k+1,hk,by omega,⟨(Eq.trans (b:=boo ((l.take k).any (notLess x))) rfl (congrArg boo (by rw[any_take hk,hb,Bool.or_false]))),(iq rfl),trivial⟩,⟨(Eq.trans (b:=lAr (putL x (l.take k)++[l[k]])) (congrArg (AO.arr 139 3) (rowsOf_app encLine _ [_]).symm) (congrArg lAr (putL_not hk ha hb).symm)),trivial⟩,rfl,rfl⟩
  ·intro h2
   refine lno Z<|lno Z<|lno Z<|lno Z<|lno Z<|lno Z<|lkZ Z<|nG<|aN Z<|aK<|gT<|aL<|lmO Z<|loX (.agg [vI _ _,vI _ _,vI _ _]) ty.kd139 Z<|lst (zS 2059 (rowsOf encLine [l[k]]) ty.el112 ty.ze139 Z) Z<|lT [3,4,5,6,10,11,12,57,59] [2003,2008,2009,2059] ?_
   refine lst (zP 2009 ty.el112 ty.ze139 ty.by139 rfl (Src.own rfl rfl) (by have:=putL_len (x:=x) (l.take k);have:=hl.len;simp[rowsOf]at *;omega)) Z<|laO Z<|lN<|gB<|gT<|aL<|lgI Z<|lmI Z<|nG ?_
   have ha:(l.take k).any (notLess x)=true:=by simpa using h2
   refine⟨k+1,hk,by omega,⟨(Eq.trans (b:=boo ((l.take k).any (notLess x))) rfl (congrArg boo (by rw[any_take hk,ha,Bool.true_or]))),(iq rfl),trivial⟩,⟨(Eq.trans (b:=lAr (putL x (l.take k)++[l[k]])) (congrArg (AO.arr 139 3) (rowsOf_app encLine _ [_]).symm) (congrArg lAr (putL_old hk ha).symm)),trivial⟩,rfl,rfl⟩
 ·intro h1
  refine aE<|eT<|eT<|eB<|gT<|aS<|sL<|lmB Z<|luB Z<|nG ?_
  refine AW.cond rfl ?_ ?_
  ·intro h4
   refine aL<|lmO Z<|loX (.agg [vI _ _,vI _ _,vI _ _]) ty.kd139 Z<|lst (zS 2066 (rowsOf encLine [x]) ty.el112 ty.ze139 rfl) Z<|lst (zP 2009 ty.el112 ty.ze139 ty.by139 rfl (Src.own rfl rfl) (by have:=putL_len (x:=x) (l.take k);have:=hl.len;simp[rowsOf]at *;omega)) Z<|laO Z<|nA<|lmO Z<|laO Z<|nG<|aR ?_
   have hke:k=l.length:=by have h:=h1;simp only[length_rowsOf,decide_eq_false_iff_not]at h;omega
   subst hke
   refine end_ret ?_ ⟨(Eq.trans (b:=lAr (putL x (l.take l.length)++[x])) (congrArg (AO.arr 139 3) (rowsOf_app encLine _ [_]).symm) (congrArg lAr (by rw[List.take_length];exact putL_none (by have h:=h4;rw[List.take_length]at h;simpa using h)))),trivial⟩
   rfl
  ·intro h4
   refine aK<|gA<|lmO Z<|laO Z<|nG<|aR ?_
   have hke:k=l.length:=by have h:=h1;simp only[length_rowsOf,decide_eq_false_iff_not]at h;omega
   subst hke
   refine end_ret ?_ ⟨(congrArg lAr (by rw[List.take_length];exact putL_all (by have h:=h4;rw[List.take_length]at h;simpa using h))),trivial⟩
   rfl
theorem scode_e(g:Value)(t n w c:Int)(p1:Pin)(s1:Nat)(r1:List (List PV))(p2:Pin)(s2:Nat)(r2:List (List PV))(p3:Pin)(s3:Nat)(r3:List (List PV))(p4:Pin)(s4:Nat)(r4:List (List PV))(is:Bool)(k:Int):GC Try.prog 76 [.ptr 0 0 0,boo is,int k] [(0,sBox g t n w c),(1,.arr p1 s1 r1),(2,.arr p2 s2 r2),(3,.arr p3 s3 r3),(4,.arr p4 s4 r4)] (boo (!decide (failC is c k=0))) [(0,sBox g t n w (failC is c k)),(1,.arr p1 s1 r1),(2,.arr p2 s2 r2),(3,.arr p3 s3 r3),(4,.arr p4 s4 r4)]:=by
 refine gi 6 Try.func76 rfl Try.ntmps76 rfl ?_
 intro L O w0
 refine sL<|laZ Z<|nG<|aS<|sL<|lmB Z<|lmB Z ?_
 refine AL.bool (t:=8) rfl ?_ ?_
 ·intro h1
  refine lmP Z<|lc Z<|lf 7 ty.F125_2 Z<|loI ty.kd3 Z<|lbB Z<|lkB Z<|nG ?_
  refine AW.cond rfl ?_ ?_
  ·intro h2
   refine aL<|lmP Z<|lmI Z<|lc Z<|lf 7 ty.F125_2 Z<|lst (zB 0 ty.co3 ty.inf3 Z) Z<|lT [0,6] [0,1,2,3,4] ?_
   refine nA<|lmP Z<|lc Z<|lf 7 ty.F125_2 Z<|loI ty.kd3 Z<|lbB Z<|laB Z<|nG<|aR ?_
   refine eBo ⟨Eq.trans (b:=sBox g t n w _) rfl (congrArg (sBox g t n w) (by unfold failC;simp_all)),rfl,rfl,rfl,rfl,trivial⟩ ?_
   refine congrArg (fun n:Int=>!decide (n=0)) ?_
   unfold failC
   simp_all
  ·intro h2
   refine aK<|gA<|lmP Z<|lc Z<|lf 7 ty.F125_2 Z<|loI ty.kd3 Z<|lbB Z<|laB Z<|nG<|aR ?_
   refine eBo ⟨Eq.trans (b:=sBox g t n w _) rfl (congrArg (sBox g t n w) (by unfold failC;simp_all)),rfl,rfl,rfl,rfl,trivial⟩ ?_
   refine congrArg (fun n:Int=>!decide (n=0)) ?_
   unfold failC
   simp_all
 ·intro h1
  refine lno Z<|lno Z<|lno Z<|lno Z<|lno Z<|lkZ Z<|nG<|aN Z<|aK<|gA<|lmP Z<|lc Z<|lf 7 ty.F125_2 Z<|loI ty.kd3 Z<|lbB Z<|laB Z<|nG<|aR ?_
  refine eBo ⟨Eq.trans (b:=sBox g t n w _) rfl (congrArg (sBox g t n w) (by unfold failC;simp_all)),rfl,rfl,rfl,rfl,trivial⟩ ?_
  refine congrArg (fun n:Int=>!decide (n=0)) ?_
  unfold failC
  simp_all
theorem sline_e(g:Value)(t n w c:Int)(p1:Pin)(s1:Nat)(r1:List (List PV))(p2:Pin)(s2:Nat)(r2:List (List PV))(p3:Pin)(s3:Nat)(r3:List (List PV))(l:List Line)(m:Nat)(hl:LG l m)(hm:m≤1000)(k cc nn:Int)(hf:Fresh l k cc)(hn:rangeA nn=true):GC Try.prog 78 [.ptr 0 0 0,int k,int cc,int nn] [(0,sBox g t n w c),(1,.arr p1 s1 r1),(2,.arr p2 s2 r2),(3,.arr p3 s3 r3),(4,lAr l)] (.tup []) [(0,sBox g t n w c),(1,.arr p1 s1 r1),(2,.arr p2 s2 r2),(3,.arr p3 s3 r3),(4,lAr (addL l k cc nn))]:=by
 refine GC.intro (rs:=[]) Try.func78 rfl Try.ntmps78 (Nat.le_of_ble_eq_true rfl) trivial ?_
 intro L O w0
 refine sL<|lmI Z<|lbB Z<|nG ?_
 refine AW.cond rfl ?_ ?_
 ·intro h1
  refine aL<|lmP Z<|lmP Z<|lc Z<|lf 6 ty.F125_1 Z<|loO ty.kd112 Z<|lmI Z<|lmI Z<|lq (rd (x:=.agg [vI _ _,vI _ _]) (rd_build Z ty.sa137 Z Z Z) Z)<|lmI Z<|lq (rd (x:=.agg [vI _ _,vI _ _,vI _ _]) (rd_build Z ty.sa139 Z Z Z) Z) ?_
  refine AL.freeze 4 rfl ?_
  refine lst (zC [(2009,4)] [4] [] Try.func89 (sadd_e l ⟨⟨k,cc⟩,nn⟩ m hl hm hf) (trivial) rfl rfl) Z<|lc Z<|lf 6 ty.F125_1 Z<|lst (zB 0 ty.co112 ty.inf112 rfl) Z<|lT [] [0,1,2,3,4] ?_
  refine lN ?_
  refine end_go ?_ ⟨rfl,rfl,rfl,rfl,(congrArg lAr (addL_pos (by simpa using h1)).symm),trivial⟩
  rfl
 ·intro h1
  refine aK ?_
  refine end_go ?_ ⟨rfl,rfl,rfl,rfl,(congrArg lAr (addL_zero (by simpa using h1)).symm),trivial⟩
  rfl
theorem scopy_e(x:Book)(hx:x.chans.length≤1000000∧x.htlcs.length≤1000000∧x.circles.length≤1000000):GC Try.prog 69 [bookV x] [] (.agg [int x.tick,int x.next,int x.wallet,.own 2003,.own 2008,.own 2013]) [(2003,.arr 57 7 (rowsOf encChan x.chans)),(2008,hAr x.htlcs),(2013,iAr x.circles)]:=by
 refine GC.intro (rs:=[.cell 2 27 (some 6)]) Try.func69 rfl Try.ntmps69 (Nat.le_of_ble_eq_true rfl) ⟨rfl,rfl,ty.kd27,trivial⟩ ?_
 intro L O w0
 refine sL<|lst (zX 2001 rfl) Z<|lst (zA 2002 ty.ze27 rfl) Z<|nA<|lst (zS 2003 [] ty.el23 ty.ze57 rfl (by simp)) Z<|lf 3 ty.F27_3 Z<|loL ty.kd23 Z<|lst (zP 2003 ty.el23 ty.ze57 ty.by57 rfl (Src.p rfl)) Z<|lf 3 ty.F27_3 Z<|lst (zB 2001 ty.co23 ty.inf23 rfl) Z<|nA<|lst (zS 2008 [] ty.el24 ty.ze101 rfl (by simp)) Z<|lf 4 ty.F27_4 Z<|loL ty.kd24 Z<|lst (zP 2008 ty.el24 ty.ze101 ty.by101 rfl (Src.p rfl)) Z<|lf 4 ty.F27_4 Z<|lst (zB 2001 ty.co24 ty.inf24 rfl) Z<|lT [1,2] [2001,2002,2003,2008] ?_
 refine nA<|lst (zS 2013 [] ty.el25 ty.ze103 rfl (by simp)) Z<|lf 5 ty.F27_5 Z<|loL ty.kd25 Z<|lst (zP 2013 ty.el25 ty.ze103 ty.by103 rfl (Src.p rfl)) Z<|lf 5 ty.F27_5 Z<|lst (zB 2001 ty.co25 ty.inf25 rfl) Z<|nA<|loX (.agg [vI _ _,vI _ _,vI _ _,.own _,.own _,.own _]) ty.kd27 Z<|lst (zB 2002 ty.co27 ty.inf27 rfl) Z<|nG<|aR ?_
 refine end_ret ?_ ⟨rfl,rfl,rfl,trivial⟩
 rfl
theorem smove_e(g:Value)(x:Book)(l:List Line)(cd ch a b:Int)(hm:x.chans.length≤1000000000)(i:Nat)(c:Chan)(hi:chanAt x.chans ch=(i:Int))(hc:x.chans[i]? = some c)(hfa:i64 (c.loc+a))(hfb:i64 (c.remote+b)):GC Try.prog 93 [.ptr 0 0 0,int ch,int a,int b] (sIn g x l cd) (.tup []) (sIn g { x with chans:=x.chans.set i { c with loc:=c.loc+a,remote:=c.remote+b } } l cd):=by
 refine GC.intro (rs:=[]) Try.func93 rfl Try.ntmps93 (Nat.le_of_ble_eq_true rfl) trivial ?_
 intro L O w0
 refine sL<|lmP Z<|lc Z<|lf 0 ty.F125_0 Z<|loX (.agg [vI _ _,vI _ _,vI _ _,.own _,.own _,.own _]) ty.kd27 Z<|lmI Z<|lst (zL Try.func29 (sAt_e x _ hm) rfl) Z<|laI Z<|nA<|lmP Z<|lc Z<|lf 0 ty.F125_0 Z<|lf 3 ty.F27_3 Z<|loO ty.kd23 Z<|lmI Z<|lq (rd (x:=.ptr 1 _ 0) (rd_iaddr_own (i:=i) rfl ty.el23 rfl rfl rfl ?hn1 (by rw[length_rowsOf];exact(List.getElem?_eq_some_iff.1 hc).1)) rfl) ?_
 case hn1=>rw[←chanAt_atI];exact hi
 refine lq (rd (x:=.agg [vI _ _,vI _ _,vI _ _,vI _ _,vI _ _,vI _ _,vI _ _]) (rd_load_arr Z ty.kd57 Z Z Z (rows_some hc) Z) Z)<|lst (zA 2009 ty.ze57 Z) Z<|lT [0,2,3,8,9,23] [0,1,2,3,4,2009] ?_
 refine lst (zB 2009 ty.co57 ty.inf57 Z) Z<|nA<|lf 2 ty.F57_2 Z<|loI ty.kd3 Z<|lmI Z ?_
 refine lhI rfl ⟨rfl,fits_i64 hfa⟩<|lf 2 ty.F57_2 Z<|lst (zB 2009 ty.co3 ty.inf3 rfl) Z<|nA<|lf 3 ty.F57_3 Z<|loI ty.kd3 Z<|lmI rfl ?_
 refine lhI rfl ⟨rfl,fits_i64 hfb⟩<|lf 3 ty.F57_3 Z<|lst (zB 2009 ty.co3 ty.inf3 rfl) Z<|nG<|aG 8 []<|tq 0 (rmP rfl)<|tq 1 (rc rfl)<|tq 2 (rf 0 ty.F125_0 rfl)<|tq 3 (rf 3 ty.F27_3 rfl)<|tq 4 (roO ty.kd23 rfl)<|tq 5 (rmI rfl)<|yq 6 (roX (.agg [vI _ _,vI _ _,vI _ _,vI _ _,vI _ _,vI _ _,vI _ _]) ty.kd57 rfl)<|yq 7 (rd (x:=.ptr 1 _ 0) (rd_iaddr_own (i:=i) rfl ty.el23 rfl rfl rfl ?hn2 (by rw[length_rowsOf];exact(List.getElem?_eq_some_iff.1 hc).1)) rfl) ?_
 case hn2=>rw[←chanAt_atI];exact hi
 refine yl rfl (zQ 1 ((encChan { c with loc:=c.loc+a,remote:=c.remote+b }).map PV.v) ty.co57 ty.inf57 rfl (rows_some hc)) ?_
 refine end_go ?_ ⟨rfl,Eq.trans (b:=AO.arr 57 7 ((rowsOf encChan x.chans).set i ((encChan { c with loc:=c.loc+a,remote:=c.remote+b }).map PV.v))) rfl (congrArg (AO.arr 57 7) rows_set),rfl,rfl,rfl,trivial⟩
 rfl
theorem skeys_e(x:Book)(hmh:x.htlcs.length≤1000)(hmc:x.circles.length≤1000):GC Try.prog 72 [bookV x] [] (.own 2008) [(2008,.arr 3 1 (rowsOf encKey (keyL x)))]:=by
 refine gi 2 Try.func72 rfl Try.ntmps72 rfl ?_
 intro L O w0
 refine sL<|lst (zX 2001 rfl) Z<|laV Z<|nA<|lst (zS 2008 [] ty.el46 ty.ze3 rfl (by simp)) Z<|laO Z<|nG<|aS<|sL<|lf 4 ty.F27_4 Z<|loL ty.kd24 Z<|lnI ty.sl24 Z<|lmI Z<|nG<|aB ?_
 refine aW [1,2,3,10,11] [2001] (D:=Nat) (fun k=>[(12,int (k:Int))]) (fun k=>[(2008,AO.arr 3 1 (rowsOf encKey ((x.htlcs.take k).map fun h=>h.key)))]) (fun k=>k≤x.htlcs.length) (fun k=>x.htlcs.length-k) (0) (Nat.zero_le _) ⟨rfl,trivial⟩ ⟨rfl,trivial⟩ ?_
 intro k hI
 refine sL<|lbB Z<|nG<|aS ?_
 refine AW.cond rfl ?_ ?_
 ·intro h1
  refine aK<|gT<|aS<|aB<|sL ?_
  have hk:k<x.htlcs.length:=by simpa[length_rowsOf]using h1
  refine li k ty.el24 Z (row_map hk)<|lrX (.agg [vI _ _,vI _ _,vI _ _,vI _ _,vI _ _,vB _,vI _ _]) ty.kd101 Z<|lst (zA 2005 ty.ze101 Z) Z<|lst (zB 2005 ty.co101 ty.inf101 Z) Z<|nG<|aL<|lmO Z<|lf 0 ty.F101_0 Z<|loI ty.kd3 Z<|lst (zS 2019 (rowsOf encKey [x.htlcs[k].key]) ty.el46 ty.ze3 Z) Z<|lT [1,2,3,10,11,12,16,19] [2001,2005,2008,2019] ?_
  refine lst (zP 2008 ty.el46 ty.ze3 ty.by3 rfl (Src.own rfl rfl) (by simp[rowsOf,List.length_take]at *;omega)) Z<|laO Z<|lN<|gB<|gT<|aL<|lgI Z<|lmI Z<|nG ?_
  refine⟨k+1,hk,by omega,⟨(iq rfl),trivial⟩,⟨(congrArg (AO.arr 3 1) ((rowsOf_app encKey _ [x.htlcs[k].key]).symm.trans (congrArg (rowsOf encKey) (by rw[List.take_succ_eq_append_getElem hk,List.map_append];simp)))),trivial⟩,rfl,rfl⟩
 ·intro h1
  refine aE<|eT<|eT<|eB<|gT<|aS<|sL<|lf 5 ty.F27_5 Z<|loL ty.kd25 Z<|lnI ty.sl25 Z<|lmI Z<|nG<|aB ?_
  have hke:k=x.htlcs.length:=by have h:=h1;simp only[length_rowsOf,decide_eq_false_iff_not]at h;omega
  refine aW [2,3,23,24] [2001] (D:=Nat) (fun j=>[(25,int (j:Int))]) (fun j=>[(2008,AO.arr 3 1 (rowsOf encKey (x.htlcs.map (fun h=>h.key)++(x.circles.take j).map fun h=>h.key)))]) (fun j=>j≤x.circles.length) (fun j=>x.circles.length-j) (0) (Nat.zero_le _) ⟨rfl,trivial⟩ ⟨(congrArg (fun l=>AO.arr 3 1 (rowsOf encKey l)) (by rw[hke,List.take_length];simp)),trivial⟩ ?_
  intro j hI
  refine sL<|lbB Z<|nG<|aS ?_
  refine AW.cond rfl ?_ ?_
  ·intro h2
   refine aK<|gT<|aS<|aB<|sL ?_
   have hj:j<x.circles.length:=by simpa[length_rowsOf]using h2
   refine li j ty.el25 Z (row_map hj)<|lrX (.agg [vI _ _,vI _ _,vI _ _,vI _ _,vI _ _]) ty.kd103 Z<|lst (zA 2007 ty.ze103 Z) Z<|lst (zB 2007 ty.co103 ty.inf103 Z) Z<|nG<|aL<|lmO Z<|lf 0 ty.F103_0 Z<|loI ty.kd3 Z<|lst (zS 2032 (rowsOf encKey [x.circles[j].key]) ty.el46 ty.ze3 Z) Z<|lT [2,3,23,24,25,29,32] [2001,2007,2008,2032] ?_
   refine lst (zP 2008 ty.el46 ty.ze3 ty.by3 rfl (Src.own rfl rfl) (by simp[rowsOf,List.length_take]at *;omega)) Z<|laO Z<|lN<|gB<|gT<|aL<|lgI Z<|lmI Z<|nG ?_
   refine⟨j+1,hj,by omega,⟨(iq rfl),trivial⟩,⟨(congrArg (AO.arr 3 1) ((rowsOf_app encKey _ [x.circles[j].key]).symm.trans (congrArg (rowsOf encKey) (by rw[List.take_succ_eq_append_getElem hj,List.map_append];simp)))),trivial⟩,rfl,rfl⟩
  ·intro h2
   refine aE<|eT<|eT<|eB<|gA<|lmO Z<|laO Z<|nG<|aR ?_
   refine end_ret ?_ ⟨(congrArg (fun l=>AO.arr 3 1 (rowsOf encKey l)) (by have h:=h2;simp only[length_rowsOf,decide_eq_false_iff_not]at h;rw[show j=x.circles.length by omega,List.take_length];rfl)),trivial⟩
   rfl
theorem shasInt_e(l:List Int)(n:Int)(hm:l.length≤1000000000):GC Try.prog 73 [.p (.lst 3 1 (rowsOf encKey l)),int n] [] (boo (l.any fun k=>k==n)) []:=by
 refine gi 4 Try.func73 rfl Try.ntmps73 rfl ?_
 intro L O w0
 refine sL<|laZ Z<|nG<|aS<|sL<|lmL Z<|lnI ty.sl46 Z<|lmI Z<|nG<|aB ?_
 refine aW [1,4,7,8] [] (D:=Nat) (fun k=>[(9,int (k:Int))]) (fun k=>[]) (fun k=>k≤l.length∧∀j (h:j<l.length),j<k→(l[j]==n)=false) (fun k=>l.length-k) (0) (⟨Nat.zero_le _,fun j _ h=>absurd h (by omega)⟩) ⟨rfl,trivial⟩ trivial ?_
 intro k hI
 obtain⟨hkl,hall⟩:=hI
 refine sL<|lbB Z<|nG<|aS ?_
 refine AW.cond rfl ?_ ?_
 ·intro h1
  refine aK<|gT<|aS<|aB<|sL ?_
  have hk:k<l.length:=by simpa[length_rowsOf]using h1
  refine li k ty.el46 Z (row_map hk)<|lrI ty.kd3 Z<|laI Z<|nA<|lmI Z<|lmI Z<|lbB Z<|nG ?_
  refine AW.cond rfl ?_ ?_
  ·intro h2
   refine sL<|laT Z<|nG<|aR<|rB<|rT<|rT<|rB<|rT ?_
   refine eBo trivial ?_
   exact(any_yes (p:=fun k=>k==n) hk (by simpa using h2)).symm
  ·intro h2
   refine aK<|gB<|gT<|aL<|lgI Z<|lmI Z<|nG ?_
   refine⟨k+1,⟨hk,all_succ (p:=fun k=>k==n) hk hall (by simpa using h2)⟩,by omega,⟨(iq rfl),trivial⟩,trivial,rfl,rfl⟩
 ·intro h1
  refine aE<|eT<|eT<|eB<|gA<|laZ Z<|nG<|aR ?_
  refine eBo trivial ?_
  exact(any_no (p:=fun k=>k==n) fun j hj=>hall j hj (by have h:=h1;simp only[length_rowsOf,decide_eq_false_iff_not]at h;omega)).symm
end Go.Proofs.Ytnlpbgljaecdmaa

