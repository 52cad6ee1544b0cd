/- Texts of the proof of FnForward, joined: ED2, ED3, ED4, FwdU, FwdV, EH1, EG2, E27. -/
import Derived.Test.YtogkbcmfoalpiaaGreatJForward12
import Derived.Test.YtogkbcmfoalpiaaGreatJForward7
import Derived.Test.YtogkbcmfoalpiaaGreatJForward11
namespace Go.Proofs.YtogkbcmfoalpiaaGreat
open Go.RowKit
set_option maxHeartbeats 16000000
set_option maxRecDepth 100000
set_option linter.unusedSimpArgs false
set_option linter.unusedVariables false
def DrE:AV→Prop:=fun x=>∃e,wfEvent e∧x=evV e
abbrev evC(T:Option Value)(a b c d e f:Int)(g:Bool):AO:=.box 29 T [int a,int b,int c,int d,int e,int f,boo g]
abbrev Ev7:=Int×Int×Int×Int×Int×Int×Bool
abbrev ev7(z:Ev7):Event:=⟨z.1,z.2.1,z.2.2.1,z.2.2.2.1,z.2.2.2.2.1,z.2.2.2.2.2.1,z.2.2.2.2.2.2⟩
theorem tmod4(x:Int):-3≤x.tmod 4∧x.tmod 4≤3:=by cases x<;>simp[Int.tmod]<;>omega
theorem l04Draw_e(g:Value)(code:List Int)(i:Nat)(h:Int)(hc:CurOk code i):GX Tryz.prog 34 [.ptr 0 0 0] [(0,curO g code i h)] (DrR g code DrE):=by
 refine GX.intro (rs:=[.cell 2 29 (some 7)]) Tryz.func34 rfl Tryz.ntmps34 (Nat.le_of_ble_eq_true rfl) ⟨rfl,rfl,ty.kd29,trivial⟩ ?_
 intro L O w0
 refine sL<|lst (zA 2002 ty.ze29 Z) Z<|nA<|lmP Z ?_
 refine lX [(0,0)] [] [0] Tryz.func35 (l01Below_e g code _ _ _ hc) (⟨⟨0,rfl,rfl⟩,trivial⟩) (pins_cur) Z ?_
 intro xz1 oz1 hz1
 obtain⟨i1,q1,hc1,⟨n1,⟨na1,nb1⟩,rfl⟩,rfl⟩:=hz1
 refine lgI Z<|laI Z<|nA<|lmI Z<|lq (rd (x:=.agg [vI _ _,vI _ _,vI _ _,vI _ _,vI _ _,vI _ _,vB false]) (rd_build Z ty.sa29 Z Z Z) Z)<|lst (zA 2004 ty.ze29 Z) Z<|lst (zB 2004 ty.co29 ty.inf29 Z) Z<|nA<|lmI Z<|lst (zC [(60,60)] [60] [] Tryz.func92 (shas_e _) (trivial) Z Z) Z<|laO Z<|nG ?_
 refine aJ [0,2,4,5] [60,2002] (D:=Nat×Int×Ev7) (fun d=>[]) (fun d=>[(0,curO g code d.1 d.2.1),(2004,evC none d.2.2.1 d.2.2.2.1 d.2.2.2.2.1 d.2.2.2.2.2.1 d.2.2.2.2.2.2.1 d.2.2.2.2.2.2.2.1 d.2.2.2.2.2.2.2.2)]) (fun d=>CurOk code d.1∧wfEvent (ev7 d.2.2)) ?_ ?_
 ·refine sL<|lmO Z<|lq (rj 0 ty.el124 rfl (by show 0<6;decide))<|lq (rd (x:=vB _) (rd_load_arr rfl ty.kd4 rfl rfl rfl (rfl) rfl) rfl)<|nG ?_
  refine AW.cond rfl ?_ ?_
  ·intro h1
   refine aL<|lmP Z ?_
   refine lX [(0,0)] [] [0] Tryz.func35 (l01Below_e g code _ _ _ hc1) (⟨⟨0,rfl,rfl⟩,trivial⟩) (pins_cur) Z ?_
   intro xz2 oz2 hz2
   obtain⟨i2,q2,hc2,⟨n2,⟨na2,nb2⟩,rfl⟩,rfl⟩:=hz2
   refine lT [0,2,4,5,17] [0,60,2002,2004] ?_
   refine lgI Z<|lf 1 ty.F29_1 Z<|lst (zB 2004 ty.co3 ty.inf3 Z) Z<|nG ?_
   refine⟨(_,_,_,_,_,_,_,_,_),(by refine⟨by assumption,?_⟩;simp only[wfEvent,i64,ev7]at *;omega),trivial,⟨rfl,rfl,trivial⟩,rfl,rfl⟩
  ·intro h1
   refine aK<|gT ?_
   refine⟨(_,_,_,_,_,_,_,_,_),(by refine⟨by assumption,?_⟩;simp only[wfEvent,i64,ev7]at *;omega),trivial,⟨rfl,rfl,trivial⟩,rfl,rfl⟩
 ·intro ⟨iJ6,qJ6,ea6,eb6,ec6,ed6,ee6,ef6,eg6⟩ hJ6
  dsimp only
  obtain⟨hcJ6,hwJ6⟩:=hJ6
  replace hcJ6:CurOk code iJ6:=hcJ6
  unfold wfEvent i64 at hwJ6
  simp only[ev7]at hwJ6
  refine aJ [0,2,4,5] [60,2002] (D:=Nat×Int×Ev7) (fun d=>[]) (fun d=>[(0,curO g code d.1 d.2.1),(2004,evC none d.2.2.1 d.2.2.2.1 d.2.2.2.2.1 d.2.2.2.2.2.1 d.2.2.2.2.2.2.1 d.2.2.2.2.2.2.2.1 d.2.2.2.2.2.2.2.2)]) (fun d=>CurOk code d.1∧wfEvent (ev7 d.2.2)) ?_ ?_
  ·refine sL<|lmO Z<|lq (rj 1 ty.el124 rfl (by show 1<6;decide))<|lq (rd (x:=vB _) (rd_load_arr rfl ty.kd4 rfl rfl rfl (rfl) rfl) rfl)<|nG ?_
   refine AW.cond rfl ?_ ?_
   ·intro h2
    refine aL<|lmP Z ?_
    refine lX [(0,0)] [] [0] Tryz.func35 (l01Below_e g code _ _ _ hcJ6) (⟨⟨0,rfl,rfl⟩,trivial⟩) (pins_cur) Z ?_
    intro xz3 oz3 hz3
    obtain⟨i3,q3,hc3,⟨n3,⟨na3,nb3⟩,rfl⟩,rfl⟩:=hz3
    refine lgI Z<|lf 2 ty.F29_2 Z<|lst (zB 2004 ty.co3 ty.inf3 Z) Z<|nG ?_
    refine⟨(_,_,_,_,_,_,_,_,_),(by refine⟨by assumption,?_⟩;simp only[wfEvent,i64,ev7]at *;omega),trivial,⟨rfl,rfl,trivial⟩,rfl,rfl⟩
   ·intro h2
    refine aK<|gT ?_
    refine⟨(_,_,_,_,_,_,_,_,_),(by refine⟨by assumption,?_⟩;simp only[wfEvent,i64,ev7]at *;omega),trivial,⟨rfl,rfl,trivial⟩,rfl,rfl⟩
  ·intro ⟨iJ8,qJ8,ea8,eb8,ec8,ed8,ee8,ef8,eg8⟩ hJ8
   dsimp only
   obtain⟨hcJ8,hwJ8⟩:=hJ8
   replace hcJ8:CurOk code iJ8:=hcJ8
   unfold wfEvent i64 at hwJ8
   simp only[ev7]at hwJ8
   refine aJ [0,2,4,5] [60,2002] (D:=Nat×Int×Ev7) (fun d=>[]) (fun d=>[(0,curO g code d.1 d.2.1),(2004,evC none d.2.2.1 d.2.2.2.1 d.2.2.2.2.1 d.2.2.2.2.2.1 d.2.2.2.2.2.2.1 d.2.2.2.2.2.2.2.1 d.2.2.2.2.2.2.2.2)]) (fun d=>CurOk code d.1∧wfEvent (ev7 d.2.2)) ?_ ?_
   ·refine sL<|lmO Z<|lq (rj 2 ty.el124 rfl (by show 2<6;decide))<|lq (rd (x:=vB _) (rd_load_arr rfl ty.kd4 rfl rfl rfl (rfl) rfl) rfl)<|nG ?_
    refine AW.cond rfl ?_ ?_
    ·intro h3
     refine aG 8 [0]<|tq 0 (rf 2 ty.F29_2 Z)<|tq 1 (roI ty.kd3 Z)<|yq 2 (rmP Z) ?_
     refine AG.stx (i:=3) rfl (by kernel_rfl) (St.callX [(0,0)] [] [0] rfl (by intro s hs;cases hs;decide) rfl Tryz.func35 rfl rfl (l01Below_e g code _ _ _ hcJ8) ⟨rfl,rfl,rfl⟩ (⟨⟨0,rfl,rfl⟩,trivial⟩) (pins_cur) rfl) (exK (l:=[0]) rfl rfl) rfl ?_
     rintro _ _ ⟨xz5,oz5,hz5,rfl,rfl⟩
     obtain⟨i5,q5,hc5,⟨n5,⟨na5,nb5⟩,rfl⟩,rfl⟩:=hz5
     refine yq 4 (rd (x:=vI _ _) (rd_val rfl rfl rfl (run_addw rfl) rfl) rfl) ?_
     refine yq 5 (rhI rfl ⟨rfl,by decide⟩) ?_
     have ht4:=tmod4 (IntKind.i64.wrap (ec8+n5))
     refine yq 6 (rgI rfl (by unfold i64;omega))<|yq 7 (rf 3 ty.F29_3 rfl)<|yl rfl (zB 2004 ty.co3 ty.inf3 rfl)<|gT ?_
     refine⟨(_,_,_,_,_,_,_,_,_),(by refine⟨by assumption,?_⟩;simp only[wfEvent,i64,ev7]at *;omega),trivial,⟨rfl,rfl,trivial⟩,rfl,rfl⟩
    ·intro h3
     refine aK<|gT ?_
     refine⟨(_,_,_,_,_,_,_,_,_),(by refine⟨by assumption,?_⟩;simp only[wfEvent,i64,ev7]at *;omega),trivial,⟨rfl,rfl,trivial⟩,rfl,rfl⟩
   ·intro ⟨iJ10,qJ10,ea10,eb10,ec10,ed10,ee10,ef10,eg10⟩ hJ10
    dsimp only
    obtain⟨hcJ10,hwJ10⟩:=hJ10
    replace hcJ10:CurOk code iJ10:=hcJ10
    unfold wfEvent i64 at hwJ10
    simp only[ev7]at hwJ10
    refine aJ [0,2,4,5] [60,2002] (D:=Nat×Int×Ev7) (fun d=>[]) (fun d=>[(0,curO g code d.1 d.2.1),(2004,evC none d.2.2.1 d.2.2.2.1 d.2.2.2.2.1 d.2.2.2.2.2.1 d.2.2.2.2.2.2.1 d.2.2.2.2.2.2.2.1 d.2.2.2.2.2.2.2.2)]) (fun d=>CurOk code d.1∧wfEvent (ev7 d.2.2)) ?_ ?_
    ·refine sL<|lmO Z<|lq (rj 3 ty.el124 rfl (by show 3<6;decide))<|lq (rd (x:=vB _) (rd_load_arr rfl ty.kd4 rfl rfl rfl (rfl) rfl) rfl)<|nG ?_
     refine AW.cond rfl ?_ ?_
     ·intro h4
      refine aL<|lmP Z ?_
      refine lX [(0,0)] [] [0] Tryz.func35 (l01Below_e g code _ _ _ hcJ10) (⟨⟨0,rfl,rfl⟩,trivial⟩) (pins_cur) Z ?_
      intro xz6 oz6 hz6
      obtain⟨i6,q6,hc6,⟨n6,⟨na6,nb6⟩,rfl⟩,rfl⟩:=hz6
      refine lgI Z<|lgI Z<|lf 4 ty.F29_4 Z<|lst (zB 2004 ty.co3 ty.inf3 Z) Z<|nG ?_
      refine⟨(_,_,_,_,_,_,_,_,_),(by refine⟨by assumption,?_⟩;simp only[wfEvent,i64,ev7]at *;omega),trivial,⟨rfl,rfl,trivial⟩,rfl,rfl⟩
     ·intro h4
      refine aK<|gT ?_
      refine⟨(_,_,_,_,_,_,_,_,_),(by refine⟨by assumption,?_⟩;simp only[wfEvent,i64,ev7]at *;omega),trivial,⟨rfl,rfl,trivial⟩,rfl,rfl⟩
    ·intro ⟨iJ12,qJ12,ea12,eb12,ec12,ed12,ee12,ef12,eg12⟩ hJ12
     dsimp only
     obtain⟨hcJ12,hwJ12⟩:=hJ12
     replace hcJ12:CurOk code iJ12:=hcJ12
     unfold wfEvent i64 at hwJ12
     simp only[ev7]at hwJ12
     refine aJ [0,2,4,5] [60,2002] (D:=Nat×Int×Ev7) (fun d=>[]) (fun d=>[(0,curO g code d.1 d.2.1),(2004,evC none d.2.2.1 d.2.2.2.1 d.2.2.2.2.1 d.2.2.2.2.2.1 d.2.2.2.2.2.2.1 d.2.2.2.2.2.2.2.1 d.2.2.2.2.2.2.2.2)]) (fun d=>CurOk code d.1∧wfEvent (ev7 d.2.2)) ?_ ?_
     ·refine sL<|lmO Z<|lq (rj 4 ty.el124 rfl (by show 4<6;decide))<|lq (rd (x:=vB _) (rd_load_arr rfl ty.kd4 rfl rfl rfl (rfl) rfl) rfl)<|nG ?_
      refine AW.cond rfl ?_ ?_
      ·intro h5
       refine aL<|lmP Z ?_
       refine lX [(0,0)] [] [0] Tryz.func35 (l01Below_e g code _ _ _ hcJ12) (⟨⟨0,rfl,rfl⟩,trivial⟩) (pins_cur) Z ?_
       intro xz7 oz7 hz7
       obtain⟨i7,q7,hc7,⟨n7,⟨na7,nb7⟩,rfl⟩,rfl⟩:=hz7
       refine lgI Z<|lf 5 ty.F29_5 Z<|lst (zB 2004 ty.co3 ty.inf3 Z) Z<|nG ?_
       refine⟨(_,_,_,_,_,_,_,_,_),(by refine⟨by assumption,?_⟩;simp only[wfEvent,i64,ev7]at *;omega),trivial,⟨rfl,rfl,trivial⟩,rfl,rfl⟩
      ·intro h5
       refine aK<|gT ?_
       refine⟨(_,_,_,_,_,_,_,_,_),(by refine⟨by assumption,?_⟩;simp only[wfEvent,i64,ev7]at *;omega),trivial,⟨rfl,rfl,trivial⟩,rfl,rfl⟩
     ·intro ⟨iJ14,qJ14,ea14,eb14,ec14,ed14,ee14,ef14,eg14⟩ hJ14
      dsimp only
      obtain⟨hcJ14,hwJ14⟩:=hJ14
      replace hcJ14:CurOk code iJ14:=hcJ14
      unfold wfEvent i64 at hwJ14
      simp only[ev7]at hwJ14
      refine aJ [0,2,4,5] [60,2002] (D:=Nat×Int×Ev7) (fun d=>[]) (fun d=>[(0,curO g code d.1 d.2.1),(2004,evC none d.2.2.1 d.2.2.2.1 d.2.2.2.2.1 d.2.2.2.2.2.1 d.2.2.2.2.2.2.1 d.2.2.2.2.2.2.2.1 d.2.2.2.2.2.2.2.2)]) (fun d=>CurOk code d.1∧wfEvent (ev7 d.2.2)) ?_ ?_
      ·refine aL<|lmO Z<|lq (rj 5 ty.el124 rfl (by show 5<6;decide))<|lq (rd (x:=vB _) (rd_load_arr rfl ty.kd4 rfl rfl rfl (rfl) rfl) rfl)<|lmB rfl ?_
       refine AL.bool (t:=56) rfl ?_ ?_
       ·intro h6
        refine lmP rfl ?_
        refine lX [(0,0)] [] [0] Tryz.func35 (l01Below_e g code _ _ _ hcJ14) (⟨⟨0,rfl,rfl⟩,trivial⟩) (pins_cur) Z ?_
        intro xz8 oz8 hz8
        obtain⟨i8,q8,hc8,⟨n8,⟨na8,nb8⟩,rfl⟩,rfl⟩:=hz8
        refine lbB Z<|lkB Z<|lf 6 ty.F29_6 Z<|lst (zB 2004 ty.co4 ty.inf4 Z) Z<|nG ?_
        refine⟨(_,_,_,_,_,_,_,_,_),(by refine⟨by assumption,?_⟩;simp only[wfEvent,i64,ev7]at *;omega),trivial,⟨rfl,rfl,trivial⟩,rfl,rfl⟩
       ·intro h6
        refine lno Z<|lno Z<|lno Z<|lkZ Z<|lf 6 ty.F29_6 Z<|lst (zB 2004 ty.co4 ty.inf4 Z) Z<|nG ?_
        refine⟨(_,_,_,_,_,_,_,_,_),(by refine⟨by assumption,?_⟩;simp only[wfEvent,i64,ev7]at *;omega),trivial,⟨rfl,rfl,trivial⟩,rfl,rfl⟩
      ·intro ⟨iJ15,qJ15,ea15,eb15,ec15,ed15,ee15,ef15,eg15⟩ hJ15
       dsimp only
       obtain⟨hcJ15,hwJ15⟩:=hJ15
       replace hcJ15:CurOk code iJ15:=hcJ15
       unfold wfEvent i64 at hwJ15
       simp only[ev7]at hwJ15
       refine aJ [2,4] [60,2002] (D:=Nat×Int×Ev7) (fun d=>[]) (fun d=>[(0,curO g code d.1 d.2.1),(2004,evC none d.2.2.1 d.2.2.2.1 d.2.2.2.2.1 d.2.2.2.2.2.1 d.2.2.2.2.2.2.1 d.2.2.2.2.2.2.2.1 d.2.2.2.2.2.2.2.2)]) (fun d=>CurOk code d.1∧wfEvent (ev7 d.2.2)) ?_ ?_
       ·refine sL<|lmP Z ?_
        refine lX [(0,0)] [] [0] Tryz.func35 (l01Below_e g code _ _ _ hcJ15) (⟨⟨0,rfl,rfl⟩,trivial⟩) (pins_cur) Z ?_
        intro xz9 oz9 hz9
        obtain⟨i9,q9,hc9,⟨n9,⟨na9,nb9⟩,rfl⟩,rfl⟩:=hz9
        refine lbB Z<|lmB Z ?_
        refine AL.bool (t:=65) rfl ?_ ?_
        ·intro h7
         refine lmO Z<|lq (rj 3 ty.el124 rfl (by show 3<6;decide))<|lq (rd (x:=vB _) (rd_load_arr rfl ty.kd4 rfl rfl rfl (rfl) rfl) rfl)<|lkB Z<|nG ?_
         refine AW.cond rfl ?_ ?_
         ·intro h8
          refine aL<|lmP Z ?_
          refine lX [(0,0)] [] [0] Tryz.func35 (l01Below_e g code _ _ _ hc9) (⟨⟨0,rfl,rfl⟩,trivial⟩) (pins_cur) Z ?_
          intro xz10 oz10 hz10
          obtain⟨i10,q10,hc10,⟨n10,⟨na10,nb10⟩,rfl⟩,rfl⟩:=hz10
          refine lgI Z<|lf 4 ty.F29_4 Z<|lst (zB 2004 ty.co3 ty.inf3 Z) Z<|nG ?_
          refine⟨(_,_,_,_,_,_,_,_,_),(by refine⟨by assumption,?_⟩;simp only[wfEvent,i64,ev7]at *;omega),trivial,⟨rfl,rfl,trivial⟩,rfl,rfl⟩
         ·intro h8
          refine aK<|gT ?_
          refine⟨(_,_,_,_,_,_,_,_,_),(by refine⟨by assumption,?_⟩;simp only[wfEvent,i64,ev7]at *;omega),trivial,⟨rfl,rfl,trivial⟩,rfl,rfl⟩
        ·intro h7
         refine lno Z<|lno Z<|lno Z<|lkZ Z<|nG<|aN Z<|aK<|gT ?_
         refine⟨(_,_,_,_,_,_,_,_,_),(by refine⟨by assumption,?_⟩;simp only[wfEvent,i64,ev7]at *;omega),trivial,⟨rfl,rfl,trivial⟩,rfl,rfl⟩
       ·intro ⟨iJ17,qJ17,ea17,eb17,ec17,ed17,ee17,ef17,eg17⟩ hJ17
        dsimp only
        obtain⟨hcJ17,hwJ17⟩:=hJ17
        replace hcJ17:CurOk code iJ17:=hcJ17
        unfold wfEvent i64 at hwJ17
        simp only[ev7]at hwJ17
        refine sL<|loX (.agg [vI _ _,vI _ _,vI _ _,vI _ _,vI _ _,vI _ _,vB _]) ty.kd29 Z<|lst (zB 2002 ty.co29 ty.inf29 Z) Z<|nG<|aR ?_
        refine end_xret (evV ⟨_,_,_,_,_,_,_⟩) [(0,curO g code _ _)] ?_ rfl ⟨rfl,trivial⟩
        exact⟨_,_,by assumption,⟨_,by simp only[wfEvent,i64]at *;omega,rfl⟩,rfl⟩

def DrX(g:Value)(code:List Int)(R:AV→List (Nat×AO)→Prop):AV→List (Nat×AO)→Prop:=fun x ob=>∃i h ob2,CurOk code i∧R x ob2∧ob=(0,curO g code i h)::ob2
theorem pins_curX{g:Value}{code:List Int}{i:Nat}{h:Int}{R:AV→List (Nat×AO)→Prop}:∀x ob1,DrX g code R x ob1→pins [(0,curO g code i h)] ob1 [0]:=fun x ob1 ⟨_,_,_,_,_,e⟩=>by
 subst e
 exact⟨stays.box (Eq.refl 3),trivial⟩
theorem tmod3(x:Int):-2≤x.tmod 3∧x.tmod 3≤2:=by cases x<;>simp[Int.tmod]<;>omega
def EvsOk(m:Int)(es:List Event):Prop:=(∀e∈es,wfEvent e)∧(es.length:Int)≤m
theorem EvsOk.take{m:Int}{es:List Event}(h:EvsOk m es)(k:Nat):EvsOk m (es.take k):=⟨fun e he=>h.1 e (List.mem_of_mem_take he),by have:=h.2;rw[List.length_take];omega⟩
theorem EvsOk.add{m:Int}{es:List Event}(h:EvsOk m es){e:Event}(he:wfEvent e):EvsOk (m+1) (es++[e]):=⟨fun x hx=>by
 rcases List.mem_append.1 hx with q|q
 ·exact h.1 x q
 ·rw[List.mem_singleton.1 q];exact he,by have:=h.2;simp;omega⟩
theorem EvsOk.mono{m n:Int}{es:List Event}(h:EvsOk m es)(hmn:m≤n):EvsOk n es:=⟨h.1,Int.le_trans h.2 hmn⟩
theorem l07Events_e(g:Value)(code:List Int)(i:Nat)(h m:Int)(hc:CurOk code i)(hm:0≤m∧m≤100):GX Tryz.prog 70 [.ptr 0 0 0,int m] [(0,curO g code i h)] (DrX g code fun x ob2=>∃es,EvsOk (5+m) es∧x=.own 50∧ob2=[(50,.arr 29 7 (rowsOf encEvent es))]):=by
 refine GX.intro (rs:=[.tmp 4]) Tryz.func70 rfl Tryz.ntmps70 (Nat.le_of_ble_eq_true rfl) ⟨rfl,trivial⟩ ?_
 intro L O w0
 refine sL<|laV Z<|nA<|lq (rd (x:=.agg [vI _ _,vI _ _,vI _ _,vI _ _,vI _ _,vI _ _,vB false]) (rd_build Z ty.sa29 Z Z Z) Z)<|lq (rd (x:=.agg [vI _ _,vI _ _,vI _ _,vI _ _,vI _ _,vI _ _,vB false]) (rd_build Z ty.sa29 Z Z Z) Z)<|lq (rd (x:=.agg [vI _ _,vI _ _,vI _ _,vI _ _,vI _ _,vI _ _,vB false]) (rd_build Z ty.sa29 Z Z Z) Z)<|lq (rd (x:=.agg [vI _ _,vI _ _,vI _ _,vI _ _,vI _ _,vI _ _,vB false]) (rd_build Z ty.sa29 Z Z Z) Z)<|lmP Z ?_
 refine lX [(0,0)] [] [0] Tryz.func35 (l01Below_e g code _ _ _ hc) (⟨⟨0,rfl,rfl⟩,trivial⟩) (pins_cur) Z ?_
 intro xz1 oz1 hz1
 obtain⟨i1,q1,hc1,⟨n1,⟨na1,nb1⟩,rfl⟩,rfl⟩:=hz1
 refine lgI Z<|lmP Z ?_
 refine lX [(0,0)] [] [0] Tryz.func35 (l01Below_e g code _ _ _ hc1) (⟨⟨0,rfl,rfl⟩,trivial⟩) (pins_cur) Z ?_
 intro xz2 oz2 hz2
 obtain⟨i2,q2,hc2,⟨n2,⟨na2,nb2⟩,rfl⟩,rfl⟩:=hz2
 refine lmP rfl ?_
 refine lX [(0,0)] [] [0] Tryz.func35 (l01Below_e g code _ _ _ hc2) (⟨⟨0,rfl,rfl⟩,trivial⟩) (pins_cur) Z ?_
 intro xz3 oz3 hz3
 obtain⟨i3,q3,hc3,⟨n3,⟨na3,nb3⟩,rfl⟩,rfl⟩:=hz3
 refine lq (rd (x:=.agg [vI _ _,vI _ _,vI _ _,vI _ _,vI _ _,vI _ _,vB false]) (rd_build rfl ty.sa29 rfl rfl rfl) rfl) ?_
 refine lst (zS 50 (rowsOf encEvent [⟨1,0,0,0,100000,0,false⟩,⟨2,0,1,0,20000,10000,false⟩,⟨2,0,2,0,10000,20000,false⟩,⟨2,0,3,0,15000,15000,false⟩,⟨4,0,1+n1,0,n2,n3,false⟩]) ty.el44 ty.ze29 rfl (by intro r hr;simp[rowsOf]at hr;rcases hr with h|h|h|h|h<;>(subst h;rfl))) Z<|lT [0,1,4,20] [0,50] ?_
 refine laO Z<|nG ?_
 refine aJ [0,1,4] [] (D:=Nat×Int×List Event) (fun d=>[(5,.own 50)]) (fun d=>[(0,curO g code d.1 d.2.1),(50,.arr 29 7 (rowsOf encEvent d.2.2))]) (fun d=>CurOk code d.1∧EvsOk 5 d.2.2) ?_ ?_
 ·refine sL<|lmP Z ?_
  refine lX [(0,0)] [] [0] Tryz.func35 (l01Below_e g code _ _ _ hc3) (⟨⟨0,rfl,rfl⟩,trivial⟩) (pins_cur) Z ?_
  intro xz4 oz4 hz4
  obtain⟨i4,q4,hc4,⟨n4,⟨na4,nb4⟩,rfl⟩,rfl⟩:=hz4
  refine lbB Z<|nG ?_
  refine AW.cond rfl ?_ ?_
  ·intro h1
   refine aL<|lmO Z<|lmP Z ?_
   refine lX [(0,0)] [] [0] Tryz.func35 (l01Below_e g code _ _ _ hc4) (⟨⟨0,rfl,rfl⟩,trivial⟩) (pins_cur) Z ?_
   intro xz5 oz5 hz5
   obtain⟨i5,q5,hc5,⟨n5,⟨na5,nb5⟩,rfl⟩,rfl⟩:=hz5
   obtain⟨m5,rfl⟩:=Int.eq_ofNat_of_zero_le na5
   refine lst (St.trunc 50 rfl rfl (by decide) ty.el44 rfl rfl ⟨_,rfl⟩ (by simp[rowsOf];omega)) Z<|laO Z<|nG ?_
   refine⟨(_,_,List.take m5 [⟨1,0,0,0,100000,0,false⟩,⟨2,0,1,0,20000,10000,false⟩,⟨2,0,2,0,10000,20000,false⟩,⟨2,0,3,0,15000,15000,false⟩,⟨4,0,1+n1,0,n2,n3,false⟩]),⟨by assumption,EvsOk.take (m:=5) ⟨by intro e he;simp at he;rcases he with h|h|h|h|h<;>(subst h;unfold wfEvent i64;dsimp only;omega),by simp⟩ _⟩,⟨rfl,trivial⟩,⟨rfl,(congrArg (AO.arr 29 7) (List.map_take).symm),trivial⟩,rfl,rfl⟩
  ·intro h1
   refine aK<|gT ?_
   refine⟨(_,_,[⟨1,0,0,0,100000,0,false⟩,⟨2,0,1,0,20000,10000,false⟩,⟨2,0,2,0,10000,20000,false⟩,⟨2,0,3,0,15000,15000,false⟩,⟨4,0,1+n1,0,n2,n3,false⟩]),⟨by assumption,⟨by intro e he;simp at he;rcases he with h|h|h|h|h<;>(subst h;unfold wfEvent i64;dsimp only;omega),by simp⟩⟩,⟨rfl,trivial⟩,⟨rfl,rfl,trivial⟩,rfl,rfl⟩
 ·intro ⟨iJ4,qJ4,esJ⟩ hJ4
  dsimp only
  obtain⟨hcJ4,hwJ4⟩:=hJ4
  simp only at hcJ4 hwJ4
  refine aS<|sL<|lmP Z<|lmI Z<|lgI Z ?_
  refine lX [(0,0)] [] [0] Tryz.func35 (l01Below_e g code _ _ _ hcJ4) (⟨⟨0,rfl,rfl⟩,trivial⟩) (pins_cur) Z ?_
  intro xz6 oz6 hz6
  obtain⟨i6,q6,hc6,⟨n6,⟨na6,nb6⟩,rfl⟩,rfl⟩:=hz6
  refine laI Z<|nG<|aB ?_
  obtain⟨kk,hkk⟩:=Int.eq_ofNat_of_zero_le na6
  refine aW [0,4] [] (D:=Nat×Int×Nat×List Event) (fun d=>[(6,int (d.2.2.1:Int)),(5,.own 50)]) (fun d=>[(0,curO g code d.1 d.2.1),(50,.arr 29 7 (rowsOf encEvent d.2.2.2))]) (fun d=>CurOk code d.1∧EvsOk (5+m-d.2.2.1) d.2.2.2∧(d.2.2.1:Int)≤m) (fun d=>d.2.2.1) ((_,_,kk,esJ)) (⟨by assumption,hwJ4.mono (by dsimp only;omega),by dsimp only;omega⟩) ⟨(congrArg int hkk),rfl,trivial⟩ ⟨rfl,rfl,trivial⟩ ?_
  intro ⟨iL,qL,kL,esL⟩ hI
  obtain⟨hcL,hwL,hkL⟩:=hI
  simp only at hcL hwL hkL
  dsimp only
  refine aS<|sL<|lmI Z<|lbB Z<|nG ?_
  refine AW.cond rfl ?_ ?_
  ·intro h2
   refine aK<|gT<|aS<|aB<|aS ?_
   have hk1:1≤kL:=by have h:=h2;simp only[decide_eq_true_eq]at h;omega
   refine aL<|lmP Z ?_
   refine lX [(0,0)] [] [0] Tryz.func34 (l04Draw_e g code _ _ hcL) (⟨⟨0,rfl,rfl⟩,trivial⟩) (pins_cur) Z ?_
   intro xz7 oz7 hz7
   obtain⟨i7,q7,hc7,⟨⟨va7,vb7,vc7,vd7,ve7,vf7,vg7⟩,hw7,rfl⟩,rfl⟩:=hz7
   refine lst (zA 2007 ty.ze29 Z) Z<|lst (zB 2007 ty.co29 ty.inf29 Z) Z<|nG ?_
   refine aJ [0,4,5,6,7] [50] (D:=Nat×Int×Ev7) (fun d=>[]) (fun d=>[(0,curO g code d.1 d.2.1),(2007,evC none d.2.2.1 d.2.2.2.1 d.2.2.2.2.1 d.2.2.2.2.2.1 d.2.2.2.2.2.2.1 d.2.2.2.2.2.2.2.1 d.2.2.2.2.2.2.2.2)]) (fun d=>CurOk code d.1∧wfEvent (ev7 d.2.2)) ?_ ?_
   ·refine sL<|lmP Z ?_
    refine lX [(0,0)] [] [0] Tryz.func35 (l01Below_e g code _ _ _ hc7) (⟨⟨0,rfl,rfl⟩,trivial⟩) (pins_cur) Z ?_
    intro xz8 oz8 hz8
    obtain⟨i8,q8,hc8,⟨n8,⟨na8,nb8⟩,rfl⟩,rfl⟩:=hz8
    refine lbB Z<|nG ?_
    refine AW.cond rfl ?_ ?_
    ·intro h3
     refine sL<|lmP Z ?_
     refine lX [(0,0)] [] [0] Tryz.func35 (l01Below_e g code _ _ _ hc8) (⟨⟨0,rfl,rfl⟩,trivial⟩) (pins_cur) Z ?_
     intro xz9 oz9 hz9
     obtain⟨i9,q9,hc9,⟨n9,⟨na9,nb9⟩,rfl⟩,rfl⟩:=hz9
     refine lT [0,4,5,6,7,42] [0,50,2007] ?_
     refine lgI Z<|lmP Z ?_
     refine lX [(0,0)] [] [0] Tryz.func35 (l01Below_e g code _ _ _ hc9) (⟨⟨0,rfl,rfl⟩,trivial⟩) (pins_cur) Z ?_
     intro xz10 oz10 hz10
     obtain⟨i10,q10,hc10,⟨n10,⟨na10,nb10⟩,rfl⟩,rfl⟩:=hz10
     refine lgI Z<|lmP Z ?_
     refine lX [(0,0)] [] [0] Tryz.func35 (l01Below_e g code _ _ _ hc10) (⟨⟨0,rfl,rfl⟩,trivial⟩) (pins_cur) Z ?_
     intro xz11 oz11 hz11
     obtain⟨i11,q11,hc11,⟨n11,⟨na11,nb11⟩,rfl⟩,rfl⟩:=hz11
     refine lgI Z<|lmP Z ?_
     refine lX [(0,0)] [] [0] Tryz.func35 (l01Below_e g code _ _ _ hc11) (⟨⟨0,rfl,rfl⟩,trivial⟩) (pins_cur) Z ?_
     intro xz12 oz12 hz12
     obtain⟨i12,q12,hc12,⟨n12,⟨na12,nb12⟩,rfl⟩,rfl⟩:=hz12
     refine lbB Z<|lq (rd (x:=.agg [vI _ _,vI _ _,vI _ _,vI _ _,vI _ _,vI _ _,vB _]) (rd_build Z ty.sa29 Z Z Z) Z)<|lst (zB 2007 ty.co29 ty.inf29 Z) Z<|nG<|aL<|lf 2 ty.F29_2 Z<|loI ty.kd3 Z ?_
     refine lhI rfl ⟨rfl,by decide⟩ ?_
     have ht3:=tmod3 (1+n10)
     refine lgI Z<|lf 3 ty.F29_3 Z<|lst (zB 2007 ty.co3 ty.inf3 Z) Z<|lT [0,4,5,6,7] [0,50,2007] ?_
     refine nG ?_
     refine⟨(_,_,_,_,_,_,_,_,_),(by refine⟨by assumption,?_⟩;simp only[wfEvent,i64,ev7]at *;omega),trivial,⟨rfl,rfl,trivial⟩,rfl,rfl⟩
    ·intro h3
     refine aK<|gT ?_
     refine⟨(_,_,_,_,_,_,_,_,_),(by refine⟨by assumption,?_⟩;simp only[wfEvent,i64,ev7]at *;omega),trivial,⟨rfl,rfl,trivial⟩,rfl,rfl⟩
   ·intro ⟨iJ11,qJ11,ea11,eb11,ec11,ed11,ee11,ef11,eg11⟩ hJ11
    dsimp only
    obtain⟨hcJ11,hwJ11⟩:=hJ11
    replace hcJ11:CurOk code iJ11:=hcJ11
    unfold wfEvent i64 at hwJ11
    simp only[ev7]at hwJ11
    refine aL<|lmO Z<|loX (.agg [vI _ _,vI _ _,vI _ _,vI _ _,vI _ _,vI _ _,vB _]) ty.kd29 Z ?_
    refine lst (zS 2061 (rowsOf encEvent [⟨ea11,eb11,ec11,ed11,ee11,ef11,eg11⟩]) ty.el44 ty.ze29 rfl) Z<|lst (zP 50 ty.el44 ty.ze29 ty.by29 rfl (Src.own rfl rfl) (by have:=hwL.2;simp[rowsOf];omega)) Z<|laO Z<|lN<|gB<|gT<|aL<|lmI Z<|lgI Z<|laI Z<|nG ?_
    refine⟨(_,_,kL-1,esL++[⟨ea11,eb11,ec11,ed11,ee11,ef11,eg11⟩]),⟨by assumption,(hwL.add (by unfold wfEvent i64;dsimp only;omega)).mono (by dsimp only;omega),by dsimp only;omega⟩,by dsimp only;omega,⟨(Eq.trans (b:=int _) rfl (congrArg int (by dsimp only;omega))),rfl,trivial⟩,⟨rfl,(congrArg (AO.arr 29 7) (rowsOf_app encEvent _ [_]).symm),trivial⟩,rfl,rfl⟩
  ·intro h2
   refine aE<|eT<|eT<|eB<|gA<|lmO Z<|laO Z<|nG<|aR ?_
   refine end_xret (.own 50) [(0,curO g code _ _),(50,.arr 29 7 (rowsOf encEvent esL))] ?_ rfl ⟨rfl,rfl,trivial⟩
   exact⟨_,_,_,hcL,⟨esL,hwL.mono (by omega),rfl,rfl⟩,rfl⟩

abbrev newBook:Book:=⟨0,1,0,[],[],[]⟩
theorem newBook_wf:BookWf newBook:=⟨by simp,by simp,by simp,by simp⟩
theorem allA_wf{x:Book}{es:List Event}(hw:BookWf x)(we:∀e∈es,wfEvent e):BookWf (allA x es).now:=by
 unfold allA
 split
 ·have:=allS_wf hw we es.length (Nat.le_refl _)
  rwa [List.take_length]at this
 ·exact⟨by simp[zeroBook],by simp[zeroBook],by simp[zeroBook],by simp[zeroBook]⟩
section
variable {a b c:Int}{l:List Chan}{h:List Htlc}{i:List Circle}
theorem mem_set{α:Type}{l:List α}{k:Nat}{x:α}{p:α→Prop}(h:∀y∈l,p y)(hx:p x):∀y∈l.set k x,p y:=fun y hy=>by
 rcases List.mem_or_eq_of_mem_set hy with q|rfl
 ·exact h y q
 ·exact hx
theorem BookWf.setC(w:BookWf ⟨a,b,c,l,h,i⟩){k:Nat}{x:Chan}(hx:wfChan x):BookWf ⟨a,b,c,l.set k x,h,i⟩:=⟨mem_set w.chans hx,w.htlcs,w.circles,by show (l.set k x).length≤_;rw[List.length_set];exact w.len⟩
theorem BookWf.setH(w:BookWf ⟨a,b,c,l,h,i⟩){k:Nat}{x:Htlc}(hx:wfHtlc x):BookWf ⟨a,b,c,l,h.set k x,i⟩:=⟨w.chans,mem_set w.htlcs hx,w.circles,w.len⟩
theorem BookWf.setI(w:BookWf ⟨a,b,c,l,h,i⟩){k:Nat}{x:Circle}(hx:wfCircle x):BookWf ⟨a,b,c,l,h,i.set k x⟩:=⟨w.chans,w.htlcs,mem_set w.circles hx,w.len⟩
theorem BookWf.loc(w:BookWf ⟨a,b,c,l,h,i⟩){k:Nat}(hk:k<l.length){n:Int}(hn:i64 n):BookWf ⟨a,b,c,l.set k { l[k]with loc:=n },h,i⟩:=w.setC (by have:=w.chans _ (List.getElem_mem hk);unfold wfChan at *;dsimp only at *;simp_all)
theorem BookWf.score(w:BookWf ⟨a,b,c,l,h,i⟩){k:Nat}(hk:k<l.length){n:Int}(hn:i64 n):BookWf ⟨a,b,c,l.set k { l[k]with score:=n },h,i⟩:=w.setC (by have:=w.chans _ (List.getElem_mem hk);unfold wfChan at *;dsimp only at *;simp_all)
theorem BookWf.key(w:BookWf ⟨a,b,c,l,h,i⟩){k:Nat}(hk:k<h.length){n:Int}(hn:i64 n):BookWf ⟨a,b,c,l,h.set k { h[k]with key:=n },i⟩:=w.setH (by have:=w.htlcs _ (List.getElem_mem hk);unfold wfHtlc at *;dsimp only at *;simp_all)
theorem BookWf.to(w:BookWf ⟨a,b,c,l,h,i⟩){k:Nat}(hk:k<i.length):BookWf ⟨a,b,c,l,h,i.set k { i[k]with to:=i[k].frm }⟩:=w.setI (by have:=w.circles _ (List.getElem_mem hk);unfold wfCircle at *;dsimp only at *;simp_all)
theorem BookWf.swap(w:BookWf ⟨a,b,c,l,h,i⟩)(hk:1<l.length):BookWf ⟨a,b,c,(l.set 0 l[1]).set 1 (l[0]'(by omega)),h,i⟩:=(w.setC (w.chans _ (List.getElem_mem hk))).setC (w.chans _ (List.getElem_mem _))
end
theorem bookNew_0:GC Tryz.prog 16 [] [] (.agg [int 0,int 1,int 0,.p (.v (.slice none 0 0)),.p (.v (.slice none 0 0)),.p (.v (.slice none 0 0))]) []:=by
 refine GC.intro (rs:=[.cell 0 27 (some 6)]) Tryz.func16 rfl Tryz.ntmps16 (Nat.le_of_ble_eq_true rfl) ⟨rfl,rfl,ty.kd27,trivial⟩ ?_
 intro L O w0
 refine sL<|lst (zA 2000 ty.ze27 Z) Z<|nA<|lq (rd (x:=.agg [vI _ _,vI _ _,vI _ _,vV _,vV _,vV _]) (rd_build Z ty.sa27 Z Z Z) Z)<|lst (zB 2000 ty.co27 ty.inf27 Z) Z<|nG<|aR ?_
 refine end_ret ?_ trivial
 rfl
theorem bookNew_e:GC Tryz.prog 16 [] [] (bookV newBook) []:=GX.imp bookNew_0 (fun x ob1 ⟨e1,e2⟩=>by
 subst e1 e2
 exact⟨bookV newBook,Imp.agg (ImpL.cons (Imp.refl _) (ImpL.cons (Imp.refl _) (ImpL.cons (Imp.refl _) (ImpL.cons (Imp.nil _ _) (ImpL.cons (Imp.nil _ _) (ImpL.cons (Imp.nil _ _) ImpL.nil)))))),rfl,rfl⟩)

-- ---------- the reference's postings
def addS:List Line→Line→List Line
 |[],x=>[x]
 |y::l,x=>if lessA y.acc x.acc then y::addS l x else if y.acc.kind=x.acc.kind∧y.acc.ch=x.acc.ch then (if y.amt+x.amt=0 then l else ⟨y.acc,y.amt+x.amt⟩::l)else x::y::l
theorem sumA_addS{x:Line}{k c:Int}:∀(l:List Line),sumA (addS l x) k c=sumA l k c+accT k c x
 |[]=>by unfold addS;rw[sumA_cons,sumA_nil];omega
 |y::l=>by
  unfold addS
  split
  ·rw[sumA_cons,sumA_cons,sumA_addS l];omega
  ·split
   ·rename_i q
    have e:accT k c y+accT k c x=if y.acc.kind=k∧y.acc.ch=c then y.amt+x.amt else 0:=by
     unfold accT
     rw[←q.1,←q.2]
     split<;>omega
    split
    ·rename_i r
     rw[r]at e
     rw[sumA_cons]
     split at e<;>omega
    ·rw[sumA_cons,sumA_cons]
     have e2:accT k c ⟨y.acc,y.amt+x.amt⟩=if y.acc.kind=k∧y.acc.ch=c then y.amt+x.amt else 0:=rfl
     rw[e2];omega
   ·rw[sumA_cons,sumA_cons];omega
def sPostM(l:List Line)(p:List Line):List Line:=p.foldl addS l
theorem sumA_sPostM{k c:Int}:∀(p l:List Line),sumA (sPostM l p) k c=sumA l k c+sumA p k c
 |[],l=>by rw[sumA_nil];show sumA l k c=_;omega
 |x::p,l=>by
  show sumA (sPostM (addS l x) p) k c=_
  rw[sumA_sPostM p,sumA_addS,sumA_cons];omega
def sPostC(l:Ledger)(p:Posting):Int:=if (ledgerOk l&&postOk p.id p.lines)=true then (if p.id≤l.last then 2 else if ledgerOk ⟨p.id,sPostM l.lines p.lines⟩=true then 0 else 3)else 1
def sPostL(l:Ledger)(p:Posting):Ledger:=if sPostC l p=0 then ⟨p.id,sPostM l.lines p.lines⟩else ⟨0,[]⟩
theorem sPostC_zero{l:Ledger}{p:Posting}(h:sPostC l p=0):ledgerOk l=true∧postOk p.id p.lines=true∧l.last<p.id∧ledgerOk ⟨p.id,sPostM l.lines p.lines⟩=true:=by
 unfold sPostC at h
 split at h
 ·rename_i q
  rw[Bool.and_eq_true]at q
  split at h
  ·cases h
  ·rename_i r
   split at h
   ·rename_i s;exact⟨q.1,q.2,by omega,s⟩
   ·cases h
 ·cases h
theorem agr_sum{x:Book}{e:Event}{l l':Ledger}(h:Agr x l)(hc:applyC x e=0)(hp:(workR x e).l≠[])(hl:LnS l'.lines 0 320)(hi:l'.last=x.next)(hs:∀k c,sumA l'.lines k c=sumA l.lines k c+sumA (workR x e).l k c):Agr (appB x e) l':=by
 have g:=bal_work hc
 obtain⟨e1,e2⟩:=appB_yes hc hp
 refine⟨bookOk_appB hc,hl,?_,?_,fun ch hh=>?_,fun ch hh=>?_,fun ch hh=>?_⟩
 ·rw[e1,hi]
  show x.next=(workR x e).b.next+1-1
  rw[workR_next];omega
 ·rw[e1,hs,h.wal];exact g.wal.symm
 ·rw[e1,hs,h.loc ch hh];exact(g.loc ch).symm
 ·rw[e1,hs,h.out ch hh];exact(g.out ch).symm
 ·rw[hs,h.inn ch hh,g.inn ch];rfl
theorem Wl.mono{K:Int}{x:Book}{l:Ledger}{n m:Nat}(h:Wl K x l n)(hm:n≤m):Wl K x l m:=by
 have e1:=h.eq;have e2:=h.inc;have e5:=h.next
 exact⟨h.agr,by omega,by omega,h.reb,h.chn,h.base,h.htl,by omega,h.keys⟩
theorem appP_lines{x:Book}{e:Event}(h:applyC x e=0):(appP x e).lines=(workR x e).l:=by
 by_cases r:(workR x e).l=[]
 ·rw[(appB_nil h r).2,r]
 ·rw[(appB_yes h r).2]
def pC(l:Ledger)(p:Posting):Int:=if 0<p.id then sPostC l p else 0
def pL(l:Ledger)(p:Posting):Ledger:=if 0<p.id then sPostL l p else l
def l25F(s:Book×Ledger)(e:Event):Book×Ledger:=
 if e.kind=3∨1000000<e.amt∨50<e.key then s
 else if applyC s.1 e=0∧pC s.2 (appP s.1 e)=0 then (appB s.1 e,pL s.2 (appP s.1 e))else s
theorem l25_step{s:Book×Ledger}{n:Nat}{e:Event}(h:Wl 50 s.1 s.2 n):Wl 50 (l25F s e).1 (l25F s e).2 (n+1):=by
 unfold l25F
 split
 ·exact h.mono (by omega)
 rename_i q
 split
 ·rename_i r
  obtain⟨r1,r2⟩:=r
  have hk:e.kind≠3:=fun z=>q (.inl z)
  have hn:=(bOk_of h.agr.book).next
  by_cases z:(workR s.1 e).l=[]
  ·have e2:=(appB_nil r1 z).2
   have hid:¬0<(appP s.1 e).id:=by rw[e2];exact Int.lt_irrefl 0
   have eL:pL s.2 (appP s.1 e)=s.2:=if_neg hid
   rw[eL]
   exact h.step (l':=s.2) r1 hk (by omega) (by omega) (agr_nil h.agr r1 z) (fun k c=>by rw[z,sumA_nil,Int.add_zero])
  ·have e2:=(appB_yes r1 z).2
   have hid:0<(appP s.1 e).id:=by rw[e2];show 0<s.1.next;omega
   have r2:sPostC s.2 (appP s.1 e)=0:=by unfold pC at r2;rwa [if_pos hid]at r2
   obtain⟨p1,p2,p3,p4⟩:=sPostC_zero r2
   have eL:pL s.2 (appP s.1 e)=⟨(appP s.1 e).id,sPostM s.2.lines (appP s.1 e).lines⟩:=by unfold pL;rw[if_pos hid];exact if_pos r2
   rw[eL]
   have hs:∀k c,sumA (sPostM s.2.lines (appP s.1 e).lines) k c=sumA s.2.lines k c+sumA (workR s.1 e).l k c:=fun k c=>by rw[sumA_sPostM,appP_lines r1]
   unfold ledgerOk at p4
   simp only[Bool.and_eq_true,decide_eq_true_eq]at p4
   have ln:=LnS.of p4.2
   exact h.step r1 hk (by omega) (by omega) (agr_sum h.agr r1 z ⟨ln.asc,ln.acc,ln.amt,ln.sum,p4.1.2⟩ (by rw[e2]) hs) hs
 ·exact h.mono (by omega)
theorem l25_all{s:Book×Ledger}{n:Nat}(h:Wl 50 s.1 s.2 n){es:List Event}:∀k,k≤es.length→Wl 50 ((es.take k).foldl l25F s).1 ((es.take k).foldl l25F s).2 (n+k)
 |0,_=>by rw[List.take_zero];exact h
 |k+1,hk=>by
  rw[List.take_succ_eq_append_getElem (by omega),List.foldl_append]
  exact l25_step (l25_all h (es:=es) k (by omega))
def sPostF(s:Ledger×Int)(p:Posting):Ledger×Int:=if sPostC s.1 p=0 then (sPostL s.1 p,s.2+1)else s
def sPostS(l:Ledger)(ps:List Posting):Ledger×Int:=ps.foldl sPostF (l,0)
-- ---------- books to begin with
def base25:List Event:=[⟨1,0,0,0,100000,0,false⟩,⟨2,0,1,0,20000,10000,false⟩,⟨2,0,2,0,10000,20000,false⟩,⟨2,0,3,0,15000,15000,false⟩]
def book25:Book:=⟨0,5,55000,[⟨1,30000,20000,10000,0,0,0⟩,⟨2,30000,10000,20000,0,0,0⟩,⟨3,30000,15000,15000,0,0,0⟩],[],[]⟩
def ledg25:Ledger:=⟨4,[⟨⟨1,0⟩,55000⟩,⟨⟨2,0⟩,-100000⟩,⟨⟨6,1⟩,20000⟩,⟨⟨6,2⟩,10000⟩,⟨⟨6,3⟩,15000⟩]⟩
theorem base_now:(allA newBook base25).now=book25:=by kernel_rfl
theorem base_led:(sPostS ⟨0,[]⟩ (allA newBook base25).ps).1=ledg25:=by kernel_rfl
theorem base_agr:agrees book25 ledg25=true:=by kernel_rfl
theorem base_wl:Wl 50 book25 ledg25 0:=⟨Agr.of base_agr,by decide +kernel,by decide +kernel,by decide +kernel,by decide +kernel,by decide +kernel,(by intro h hh;cases hh),by decide,(by intro k hk;cases hk)⟩
def evs3(ch to:Int):List Event:=[⟨1,0,0,0,50000,0,false⟩,⟨2,0,ch,0,9000,9000,false⟩,⟨2,0,to,0,9000,9000,false⟩]
def bk3(a b:Int):Book:=⟨0,4,32000,[⟨a,18000,9000,9000,0,0,0⟩,⟨b,18000,9000,9000,0,0,0⟩],[],[]⟩
def ld3(a b:Int):Ledger:=⟨3,[⟨⟨1,0⟩,32000⟩,⟨⟨2,0⟩,-50000⟩,⟨⟨6,a⟩,9000⟩,⟨⟨6,b⟩,9000⟩]⟩
structure F3(ch to:Int)(s:AllS):Prop where
 wl:Wl 50 s.now (sPostS ⟨0,[]⟩ s.ps).1 0
 h:s.now.htlcs=[]
 c:s.now.circles=[]
 n:s.now.next=4
 a:chanOr s.now.chans ch=⟨ch,18000,9000,9000,0,0,0⟩
 b:chanOr s.now.chans to=⟨to,18000,9000,9000,0,0,0⟩
 ta:There s.now.chans ch
 tb:There s.now.chans to
theorem wl3{a b:Int}(h:agrees (bk3 a b) (ld3 a b)=true):Wl 50 (bk3 a b) (ld3 a b) 0:=⟨Agr.of h,by
 have e:sumA (ld3 a b).lines 2 0=-50000:=by unfold ld3;simp[sumA_cons,sumA_nil,accT]
 rw[e];omega,by
 have e:sumA (ld3 a b).lines 3 0=0:=by unfold ld3;simp[sumA_cons,sumA_nil,accT]
 rw[e];omega,by
 have e:sumA (ld3 a b).lines 4 0=0:=by unfold ld3;simp[sumA_cons,sumA_nil,accT]
 rw[e];omega,by unfold ld3;simp[sumA_cons,sumA_nil,accT],by
 intro c hc
 simp[bk3]at hc
 rcases hc with rfl|rfl<;>(show (0:Int)≤1000000;omega),(by intro h hh;cases hh),(by show (4:Int)≤10+0;omega),(by intro k hk;cases hk)⟩
theorem f3_of{ch to a b:Int}{s:AllS}(h1:s.now=bk3 a b)(h2:(sPostS ⟨0,[]⟩ s.ps).1=ld3 a b)(h3:agrees (bk3 a b) (ld3 a b)=true)(h4:chanOr (bk3 a b).chans ch=⟨ch,18000,9000,9000,0,0,0⟩)(h5:chanOr (bk3 a b).chans to=⟨to,18000,9000,9000,0,0,0⟩)(h6:There (bk3 a b).chans ch)(h7:There (bk3 a b).chans to):F3 ch to s:=
 ⟨by rw[h1,h2];exact wl3 h3,by rw[h1];rfl,by rw[h1];rfl,by rw[h1];rfl,by rw[h1];exact h4,by rw[h1];exact h5,by rw[h1];exact h6,by rw[h1];exact h7⟩
theorem fall3{ch to:Int}(hc:1≤ch∧ch≤3)(ht:1≤to∧to≤3)(hne:ch≠to):F3 ch to (allA newBook (evs3 ch to)):=by
 rcases(by omega:(ch=1∧to=2)∨(ch=2∧to=1)∨(ch=1∧to=3)∨(ch=3∧to=1)∨(ch=2∧to=3)∨(ch=3∧to=2))with⟨rfl,rfl⟩|⟨rfl,rfl⟩|⟨rfl,rfl⟩|⟨rfl,rfl⟩|⟨rfl,rfl⟩|⟨rfl,rfl⟩
 ·exact f3_of (a:=1) (b:=2) (by kernel_rfl) (by kernel_rfl) (by kernel_rfl) (by kernel_rfl) (by kernel_rfl) (by decide) (by decide)
 ·exact f3_of (a:=1) (b:=2) (by kernel_rfl) (by kernel_rfl) (by kernel_rfl) (by kernel_rfl) (by kernel_rfl) (by decide) (by decide)
 ·exact f3_of (a:=1) (b:=3) (by kernel_rfl) (by kernel_rfl) (by kernel_rfl) (by kernel_rfl) (by kernel_rfl) (by decide) (by decide)
 ·exact f3_of (a:=1) (b:=3) (by kernel_rfl) (by kernel_rfl) (by kernel_rfl) (by kernel_rfl) (by kernel_rfl) (by decide) (by decide)
 ·exact f3_of (a:=2) (b:=3) (by kernel_rfl) (by kernel_rfl) (by kernel_rfl) (by kernel_rfl) (by kernel_rfl) (by decide) (by decide)
 ·exact f3_of (a:=2) (b:=3) (by kernel_rfl) (by kernel_rfl) (by kernel_rfl) (by kernel_rfl) (by kernel_rfl) (by decide) (by decide)
theorem at_of_there{l:List Chan}{ch:Int}(h:There l ch):∃i:Nat,chanAt l ch=(i:Int):=by
 obtain⟨i,_,q,_⟩:=chan_there (there_at.2 h)
 exact⟨i,q⟩

theorem Wl.wide{K J:Int}{x:Book}{l:Ledger}{n:Nat}(h:Wl K x l n)(hK:K≤J):Wl J x l n:=⟨h.agr,h.eq,h.inc,h.reb,h.chn,h.base,h.htl,h.next,fun k hk=>by have:=h.keys k hk;omega⟩
theorem eLau_ok{ch to amt fee:Int}(hc:1≤ch∧ch≤3)(ht:1≤to∧to≤3)(hne:ch≠to)(ha:1≤amt∧amt≤1000000)(hf:0≤fee∧fee≤1000000):eventOk ⟨9,77,ch,to,amt,fee,false⟩=true:=by
 show (inB 9 1 11&&fieldB (hK 9) 77 1 1000000&&fieldB (hC 9) ch 1 99&&fieldB (hT 9) to 1 99&&!(hT 9&&ch==to)&&fieldB (hA 9) amt 1 1125899906842624&&fieldB (hF 9) fee 0 1125899906842624&&(hY 9||!false))=true
 rw[show hK 9=true from rfl,show hC 9=true from rfl,show hT 9=true from rfl,show hA 9=true from rfl,show hF 9=true from rfl,show hY 9=false from rfl]
 unfold fieldB
 simp[hne,show inB 9 1 11=true from rfl,show inB 77 1 1000000=true from rfl,show inB ch 1 99=true from inB_true.2 (by omega),show inB to 1 99=true from inB_true.2 (by omega),show inB amt 1 1125899906842624=true from inB_true.2 (by omega),show inB fee 0 1125899906842624=true from inB_true.2 (by omega)]
theorem over_no{x:Book}{e:Event}(hn:x.next≠1125899906842624)(h1:e.kind≠1)(h2:e.kind≠2)(h3:e.kind≠3)(h8:e.kind≠8):overB x e=false:=by
 unfold overB
 simp[hn,h1,h2,h3,h8]
theorem known_none{x:Book}{k:Int}(h1:x.htlcs=[])(h2:x.circles=[]):knownB x k=false:=by
 unfold knownB
 rw[h1,h2];rfl
theorem lau_goes{x:Book}{ch to amt fee:Int}(hb:bookOk x=true)(hh:x.htlcs=[])(hi:x.circles=[])(hn:x.next=4)(hc:1≤ch∧ch≤3)(ht:1≤to∧to≤3)(hne:ch≠to)(ha:1≤amt∧amt≤4000)(hf:0≤fee∧fee≤300)
 (h1:chanOr x.chans ch=⟨ch,18000,9000,9000,0,0,0⟩) (h2:chanOr x.chans to=⟨to,18000,9000,9000,0,0,0⟩) (t1:There x.chans ch) (t2:There x.chans to):applyC x ⟨9,77,ch,to,amt,fee,false⟩=0:=by
 have he:=eLau_ok hc ht hne (amt:=amt) (fee:=fee) (by omega) (by omega)
 rw[applyC_work (by rw[hb,he];rfl) (over_no (by rw[hn];decide) (by simp) (by simp) (by simp) (by simp)),←wk9 rfl]
 have hao:addOk amt fee=true:=by
  unfold addOk
  rw[amtOk_true.2 (by omega),amtOk_true.2 (by omega),amtOk_true.2 (by omega)];rfl
 obtain⟨i,hi1⟩:=at_of_there t1
 obtain⟨j,hj1⟩:=at_of_there t2
 have c0:lauC0 x ⟨9,77,ch,to,amt,fee,false⟩=0:=by
  unfold lauC0
  dsimp only
  rw[missC_some hi1,missC_some hj1,known_none hh hi,hi]
  rfl
 have c1:lauC x ⟨9,77,ch,to,amt,fee,false⟩=0:=by
  unfold lauC
  dsimp only
  rw[c0,hao,addV_yes hao,h1,h2]
  dsimp only
  rw[decide_eq_false (by omega),decide_eq_false (by omega)]
  rfl
 rw[lauR_yes c1]
 rfl
theorem fall_lau{ch to amt fee:Int}(hc:1≤ch∧ch≤3)(ht:1≤to∧to≤3)(hne:ch≠to)(ha:1≤amt∧amt≤4000)(hf:0≤fee∧fee≤300) :
 Wl 50 (allA newBook (evs3 ch to)).now (sPostS ⟨0,[]⟩ (allA newBook (evs3 ch to)).ps).1 1∧applyC (allA newBook (evs3 ch to)).now ⟨9,77,ch,to,amt,fee,false⟩=0:=by
 have f:=fall3 hc ht hne
 exact⟨f.wl.mono (by omega),lau_goes f.wl.agr.book f.h f.c f.n hc ht hne ha hf f.a f.b f.ta f.tb⟩
-- ---------- worth
theorem worthT_add(l:List Line)(k c n:Int):worthT (addL l k c n)=worthT l+(if k=1∨6≤k then n else 0):=by
 by_cases q:n=0
 ·rw[addL_zero q,q];split<;>omega
 ·rw[addL_pos q]
  have key:∀(l:List Line) (x:Line),worthT (insL l x)=worthT l+wT x:=fun l x=>by
   induction l with
   |nil=>unfold insL;show wT x+0=0+wT x;omega
   |cons y l ih=>
    unfold insL
    split
    ·show wT y+worthT (insL l x)=wT y+worthT l+wT x;omega
    ·show wT x+(wT y+worthT l)=wT y+worthT l+wT x;omega
  rw[key];rfl
theorem S99_sum{a b r:List Line}(h:∀k c,sumA r k c=sumA a k c+sumA b k c):S99 r=S99 a+S99 b:=by
 unfold S99
 rw[←tot_addf]
 exact tot_congr fun j _=>by rw[h,h,h];omega
theorem worth_sum{a b r:List Line}(ha:∀y∈a,AccV y.acc)(hb:∀y∈b,AccV y.acc)(hr:∀y∈r,AccV y.acc)(h:∀k c,sumA r k c=sumA a k c+sumA b k c):worthT r=worthT a+worthT b:=by
 rw[(tot_all ha).2,(tot_all hb).2,(tot_all hr).2,S99_sum h,h];omega
def worth(l:Ledger):Int:=if ledgerOk l=true then worthT l.lines else 0
theorem worth_ok{l:Ledger}(h:ledgerOk l=true):worth l=worthT l.lines:=if_pos h
structure Took(x:Book)(l:Ledger)(e:Event):Prop where
 code:postC l (appP x e)=0
 agr:Agr (appB x e) (postL l (appP x e))
 sums:∀k c,sumA (postL l (appP x e)).lines k c=sumA l.lines k c+sumA (workR x e).l k c
 worth:worthT (postL l (appP x e)).lines=worthT l.lines+worthT (workR x e).l
theorem took{K:Int}{x:Book}{l:Ledger}{n:Nat}{e:Event}(h:Wl K x l n)(hn:n≤100)(hc:applyC x e=0)(hk:e.kind≠3)(hp:(workR x e).l≠[])(ha:e.amt≤1000000)(hr:sumA (workR x e).l 4 0≤1000000000):Took x l e:=by
 have hp':(appP x e).lines≠[]:=by rw[appP_lines hc];exact hp
 have g:=h.goes hn hc hk hp' ha hr
 obtain⟨s1,s2,s3⟩:=postL_sum g
 have s2':∀k c,sumA (postL l (appP x e)).lines k c=sumA l.lines k c+sumA (workR x e).l k c:=fun k c=>by rw[s2,appP_lines hc]
 exact⟨g,agr_step h.agr hc hp' g,s2',worth_sum h.agr.lns.acc (ln_work hc).acc s1.acc s2'⟩
theorem nonempty_of{l:List Line}{k c:Int}(h:sumA l k c≠0):l≠[]:=fun z=>h (by rw[z];rfl)
theorem key_none{α:Type}{g:α→Int}{l:List α}(h:∀y∈l,g y≤50):l.find? (fun c=>g c==77)=none:=by
 rw[List.find?_eq_none]
 intro y hy
 have:=h y hy
 simp;omega
structure FwdR(b:Book)(l:Ledger)(e:Event):Prop where
 x:Took b l e
 good:applyC (appB b e) ⟨6,77,0,0,0,0,false⟩=0
 bad:applyC (appB b e) ⟨7,77,0,0,0,0,false⟩=0
 y:Took (appB b e) (postL l (appP b e)) ⟨6,77,0,0,0,0,false⟩
 z:Took (appB b e) (postL l (appP b e)) ⟨7,77,0,0,0,0,false⟩
 last:(appB b e).htlcs=b.htlcs++[⟨77,e.ch,e.to,admSum b e,e.amt,decide (admRoom b e=2),0⟩]
 gain:worthT (postL (postL l (appP b e)) (appP (appB b e) ⟨6,77,0,0,0,0,false⟩)).lines=worthT l.lines+admSum b e-e.amt
 back:(postL (postL l (appP b e)) (appP (appB b e) ⟨7,77,0,0,0,0,false⟩)).lines=l.lines
structure LostR(b:Book)(l:Ledger)(e:Event):Prop where
 x:Took b l e
 lost:applyC (appB b e) ⟨11,77,0,0,0,0,false⟩=0
 arr:applyC (appB b e) ⟨10,77,0,0,0,0,false⟩=0
 y:Took (appB b e) (postL l (appP b e)) ⟨11,77,0,0,0,0,false⟩
 z:Took (appB b e) (postL l (appP b e)) ⟨10,77,0,0,0,0,false⟩
 same:worthT (postL l (appP b e)).lines=worthT l.lines
 back:(postL (postL l (appP b e)) (appP (appB b e) ⟨11,77,0,0,0,0,false⟩)).lines=l.lines
 cost:worthT (postL (postL l (appP b e)) (appP (appB b e) ⟨10,77,0,0,0,0,false⟩)).lines=worthT l.lines-e.fee
 len1:(appB (appB b e) ⟨11,77,0,0,0,0,false⟩).circles.length=b.circles.length
 len2:(appB (appB b e) ⟨10,77,0,0,0,0,false⟩).circles.length=b.circles.length
 id:(appP b e).id≠0
theorem lost{b:Book}{l:Ledger}{n:Nat}{ch to amt fee:Int}(h:Wl 50 b l n)(hn:n≤50)(ha:1≤amt∧amt≤4000)(hf:0≤fee∧fee≤300)(hc:applyC b ⟨9,77,ch,to,amt,fee,false⟩=0):LostR b l ⟨9,77,ch,to,amt,fee,false⟩:=by
 generalize he:(⟨9,77,ch,to,amt,fee,false⟩:Event)=e at *
 have k9:e.kind=9:=by rw[←he]
 have eamt:e.amt=amt:=by rw[←he]
 have efee:e.fee=fee:=by rw[←he]
 have ekey:e.key=77:=by rw[←he]
 obtain⟨c1,c2,c3⟩:=applyC_ok hc
 have hw0:(workR b e).c=0:=by rw[←applyC_work (by rw[c1,c2];rfl) c3];exact hc
 have hq:lauC b e=0:=by
  rw[←wk9 k9]at hw0
  by_cases q:lauC b e=0
  ·exact q
  ·rw[lauR_no q]at hw0;exact absurd hw0 q
 have hs:addV e.amt e.fee=e.amt+e.fee:=by
  have hq':=hq
  unfold lauC at hq'
  obtain⟨h2,_⟩:=failC_zero (by decide) hq'
  obtain⟨h3,_⟩:=failC_zero (by decide) h2
  obtain⟨_,g⟩:=failC_zero (by decide) h3
  exact addV_yes (by simpa using g)
 have hw:workR b e=lauY b e:=by rw[←wk9 k9,lauR_yes hq]
 have hl:(workR b e).l=addL (addL [] 6 e.ch (-(e.amt+e.fee))) 8 e.ch (e.amt+e.fee):=by rw[hw];unfold lauY;rw[hs]
 have hne:(workR b e).l≠[]:=nonempty_of (k:=8) (c:=e.ch) (by rw[hl];simp only[sumA_add,sumA_nil];simp;omega)
 have tk:=took h (by omega) hc (by omega) hne (by omega) (by rw[hl];simp only[sumA_add,sumA_nil];simp)
 have w1:=(h.wide (J:=77) (by omega)).step hc (by omega) (by omega) (by omega) tk.agr tk.sums
 obtain⟨p1,p2,p3,p4⟩:=appB_parts hc
 have hlast:(appB b e).circles=b.circles++[⟨77,e.ch,e.to,e.amt,e.fee⟩]:=by rw[p3,hw,←ekey];rfl
 have hkc:∀y∈b.circles,y.key≤50:=fun y hy=>h.keys _ (List.mem_append_right _ (List.mem_map_of_mem hy))
 have hfind:(appB b e).circles.find? (fun c=>c.key==77)=some ⟨77,e.ch,e.to,e.amt,e.fee⟩:=by
  rw[hlast,List.find?_append,key_none (g:=fun c:Circle=>c.key) hkc]
  simp
 have hdel:delI (appB b e).circles 77=b.circles:=by
  rw[hlast]
  unfold delI
  rw[List.filter_append,List.filter_eq_self.2 (fun y hy=>by have:=hkc y hy;simp;omega)]
  simp
 have hb1:=bookOk_appB hc
 have hnx:(appB b e).next≠1125899906842624:=by have:=h.next;omega
 have code:∀k:Int,k=10∨k=11→applyC (appB b e) ⟨k,77,0,0,0,0,false⟩=0∧(workR (appB b e) ⟨k,77,0,0,0,0,false⟩)=landY (appB b e) (decide (k=10)) ⟨77,e.ch,e.to,e.amt,e.fee⟩:=fun k hk=>by
  have hwk:(workR (appB b e) ⟨k,77,0,0,0,0,false⟩)=landY (appB b e) (decide (k=10)) ⟨77,e.ch,e.to,e.amt,e.fee⟩:=by
   rw[←wk10 (e:=⟨k,77,0,0,0,0,false⟩) (by show 10≤k;omega)]
   exact landR_some (e:=⟨k,77,0,0,0,0,false⟩) hfind
  refine⟨?_,hwk⟩
  rw[applyC_work (by rw[hb1];rcases hk with rfl|rfl<;>rfl) (over_no hnx (by rcases hk with rfl|rfl<;>decide) (by rcases hk with rfl|rfl<;>decide) (by rcases hk with rfl|rfl<;>decide) (by rcases hk with rfl|rfl<;>decide)),hwk]
  unfold landY
  split<;>rfl
 obtain⟨g1,g2⟩:=code 10 (.inl rfl)
 obtain⟨b1,b2⟩:=code 11 (.inr rfl)
 have l10:(workR (appB b e) ⟨10,77,0,0,0,0,false⟩).l=addL (addL (addL [] 4 0 e.fee) 6 e.to e.amt) 8 e.ch (-e.amt-e.fee):=by rw[g2];rfl
 have l11:(workR (appB b e) ⟨11,77,0,0,0,0,false⟩).l=addL (addL [] 6 e.ch (e.amt+e.fee)) 8 e.ch (-e.amt-e.fee):=by rw[b2];rfl
 have t10:=took w1 (by omega) g1 (by decide) (nonempty_of (k:=8) (c:=e.ch) (by rw[l10];simp only[sumA_add,sumA_nil];simp;omega)) (by show (0:Int)≤_;omega) (by rw[l10];simp only[sumA_add,sumA_nil];simp;omega)
 have t11:=took w1 (by omega) b1 (by decide) (nonempty_of (k:=8) (c:=e.ch) (by rw[l11];simp only[sumA_add,sumA_nil];simp;omega)) (by show (0:Int)≤_;omega) (by rw[l11];simp only[sumA_add,sumA_nil];simp)
 have w0:worthT []=0:=rfl
 have hcir:∀k:Int,k=10∨k=11→(appB (appB b e) ⟨k,77,0,0,0,0,false⟩).circles.length=b.circles.length:=fun k hk=>by
  obtain⟨q1,q2⟩:=code k hk
  rw[(appB_parts q1).2.2.1,q2]
  have:(landY (appB b e) (decide (k=10)) ⟨77,e.ch,e.to,e.amt,e.fee⟩).b.circles=delI (appB b e).circles 77:=by unfold landY;split<;>rfl
  rw[this,hdel]
 refine⟨tk,b1,g1,t11,t10,?_,?_,?_,hcir 11 (.inr rfl),hcir 10 (.inl rfl),?_⟩
 ·rw[tk.worth,hl]
  simp only[worthT_add]
  rw[w0];simp;omega
 ·refine lines_eq t11.agr.lns.lns h.agr.lns.lns fun k c=>?_
  rw[t11.sums,tk.sums,hl,l11]
  simp only[sumA_add,sumA_nil]
  split<;>split<;>omega
 ·rw[t10.worth,tk.worth,hl,l10]
  simp only[worthT_add]
  rw[w0];simp;omega
 ·rw[(appB_yes hc hne).2]
  have:=(bOk_of c1).next
  show b.next≠0
  omega

def addQ(x:Line)(s:Bool×List Line)(y:Line):Bool×List Line:=
 if s.1=true then (true,s.2++[y])else if lessA y.acc x.acc=true then (false,s.2++[y])else
 if y.acc.kind=x.acc.kind∧y.acc.ch=x.acc.ch then (true,if y.amt+x.amt=0 then s.2 else s.2++[⟨y.acc,y.amt+x.amt⟩])else (true,s.2++[x]++[y])
def addA(x:Line)(l:List Line):Bool×List Line:=l.foldl (addQ x) (false,[])
theorem addA_succ{x:Line}{l:List Line}{k:Nat}(h:k<l.length):addA x (l.take (k+1))=addQ x (addA x (l.take k)) l[k]:=by
 unfold addA
 rw[List.take_succ_eq_append_getElem h,List.foldl_append]
 rfl
theorem addQ_done{x y:Line}{s:Bool×List Line}(h:s.1=true):addQ x s y=(true,s.2++[y]):=if_pos h
theorem addQ_less{x y:Line}{s:Bool×List Line}(h:s.1=false)(h2:lessA y.acc x.acc=true):addQ x s y=(false,s.2++[y]):=by unfold addQ;rw[if_neg (by simp[h]),if_pos h2]
theorem addQ_new{x y:Line}{s:Bool×List Line}(h:s.1=false)(h2:lessA y.acc x.acc=false)(h3:¬(y.acc.kind=x.acc.kind∧y.acc.ch=x.acc.ch)):addQ x s y=(true,s.2++[x]++[y]):=by unfold addQ;rw[if_neg (by simp[h]),if_neg (by simp[h2]),if_neg h3]
theorem addQ_sum{x y:Line}{s:Bool×List Line}(h:s.1=false)(h2:lessA y.acc x.acc=false)(h3:y.acc.kind=x.acc.kind∧y.acc.ch=x.acc.ch)(h4:¬y.amt+x.amt=0):addQ x s y=(true,s.2++[⟨y.acc,y.amt+x.amt⟩]):=by unfold addQ;rw[if_neg (by simp[h]),if_neg (by simp[h2]),if_pos h3,if_neg h4]
theorem addQ_zero{x y:Line}{s:Bool×List Line}(h:s.1=false)(h2:lessA y.acc x.acc=false)(h3:y.acc.kind=x.acc.kind∧y.acc.ch=x.acc.ch)(h4:y.amt+x.amt=0):addQ x s y=(true,s.2):=by unfold addQ;rw[if_neg (by simp[h]),if_neg (by simp[h2]),if_pos h3,if_pos h4]
theorem addA_done{x:Line}:∀(l o:List Line),l.foldl (addQ x) (true,o)=(true,o++l)
 |[],o=>by simp
 |y::l,o=>by rw[List.foldl_cons,addQ_done rfl,addA_done l];simp
theorem addA_eq{x:Line}:∀(l o:List Line),(if (l.foldl (addQ x) (false,o)).1=true then (l.foldl (addQ x) (false,o)).2 else (l.foldl (addQ x) (false,o)).2++[x])=o++addS l x
 |[],o=>by unfold addS;rfl
 |y::l,o=>by
  rw[List.foldl_cons]
  unfold addS
  by_cases h1:lessA y.acc x.acc=true
  ·rw[addQ_less rfl h1,addA_eq l,if_pos h1];simp
  ·have h1':lessA y.acc x.acc=false:=by simpa using h1
   rw[if_neg h1]
   by_cases h2:y.acc.kind=x.acc.kind∧y.acc.ch=x.acc.ch
   ·rw[if_pos h2]
    by_cases h3:y.amt+x.amt=0
    ·rw[addQ_zero rfl h1' h2 h3,addA_done,if_pos h3];simp
    ·rw[addQ_sum rfl h1' h2 h3,addA_done,if_neg h3];simp
   ·rw[if_neg h2,addQ_new rfl h1' h2,addA_done];simp
theorem addA_yes{x:Line}{l:List Line}(h:(addA x l).1=true):(addA x l).2=addS l x:=by
 have:=addA_eq (x:=x) l []
 rw[if_pos (show (l.foldl (addQ x) (false,[])).1=true from h)]at this
 exact this
theorem addA_no{x:Line}{l:List Line}(h:(addA x l).1=false):(addA x l).2++[x]=addS l x:=by
 have:=addA_eq (x:=x) l []
 rw[if_neg (show ¬(l.foldl (addQ x) (false,[])).1=true from by rw[show (l.foldl (addQ x) (false,[])).1=false from h];simp)]at this
 exact this
theorem addQ_len(x:Line)(s:Bool×List Line)(y:Line):(addQ x s y).2.length+(if (addQ x s y).1=true then 0 else 1)≤s.2.length+1+(if s.1=true then 0 else 1):=by
 by_cases h:s.1=true
 ·rw[addQ_done h];simp
 have h':s.1=false:=by simpa using h
 by_cases h1:lessA y.acc x.acc=true
 ·rw[addQ_less h' h1];simp[h']
 have h1':lessA y.acc x.acc=false:=by simpa using h1
 by_cases h2:y.acc.kind=x.acc.kind∧y.acc.ch=x.acc.ch
 ·by_cases h3:y.amt+x.amt=0
  ·rw[addQ_zero h' h1' h2 h3];simp[h'];omega
  ·rw[addQ_sum h' h1' h2 h3];simp[h']
 ·rw[addQ_new h' h1' h2];simp[h']
theorem addA_len{x:Line}(l:List Line):(addA x l).2.length≤l.length+1:=by
 have key:∀(l:List Line) (s:Bool×List Line),(l.foldl (addQ x) s).2.length+(if (l.foldl (addQ x) s).1=true then 0 else 1)≤s.2.length+l.length+(if s.1=true then 0 else 1):=by
  intro l
  induction l with
  |nil=>intro s;exact Nat.le_refl _
  |cons y l ih=>
   intro s
   rw[List.foldl_cons]
   have h1:=ih (addQ x s y)
   have h2:=addQ_len x s y
   simp only[List.length_cons]
   omega
 have:=key l (false,[])
 unfold addA
 simp at this
 omega
def bdL(b:Int)(l:List Line):Prop:=∀z∈l,-b≤z.amt∧z.amt≤b
theorem bdL_addS{b c:Int}{x:Line}(hc:0≤c)(hb:0≤b)(hx:-c≤x.amt∧x.amt≤c):∀ {l:List Line},bdL b l→bdL (b+c) (addS l x)
 |[],_=>fun z hz=>by unfold addS at hz;rw[List.mem_singleton.1 hz];omega
 |y::l,h=>by
  have hy:=h y (by simp)
  have hl:bdL b l:=fun z hz=>h z (by simp[hz])
  have ih:=bdL_addS hc hb hx hl
  intro z hz
  unfold addS at hz
  split at hz
  ·rcases List.mem_cons.1 hz with rfl|hz
   ·omega
   ·exact ih z hz
  ·split at hz
   ·split at hz
    ·have:=hl z hz;omega
    ·rcases List.mem_cons.1 hz with rfl|hz
     ·dsimp only;omega
     ·have:=hl z hz;omega
   ·rcases List.mem_cons.1 hz with rfl|hz
    ·omega
    ·have:=h z hz;omega
theorem addS_len{x:Line}(l:List Line):(addS l x).length≤l.length+1:=by
 have:=addA_len (x:=x) l
 by_cases q:(addA x l).1=true
 ·rw[←addA_yes q];exact this
 ·have e:=addA_no (x:=x) (l:=l) (by simpa using q)
  have key:∀(l:List Line),(addS l x).length≤l.length+1:=by
   intro l
   induction l with
   |nil=>unfold addS;simp
   |cons y l ih=>
    unfold addS
    split
    ·simp;omega
    ·split
     ·split
      ·simp;omega
      ·simp
     ·simp
  exact key l
theorem saccOk_e(a:Acc):GC Tryz.prog 145 [.agg [int a.kind,int a.ch]] [] (boo (accOk a)) []:=by
 refine gi 2 Tryz.func145 rfl Tryz.ntmps145 rfl ?_
 intro L O w0
 refine sL<|lst (zX 2001 Z) Z<|laZ Z<|nG<|aS<|sL<|lf 0 ty.F110_0 Z<|loI ty.kd3 Z<|lbB Z<|lmB Z ?_
 refine AL.bool (t:=6) rfl ?_ ?_
 ·intro h1
  refine lno Z<|lno Z<|lno Z<|lkT Z<|nG<|aY Z<|sL<|laZ Z<|nG<|aR<|rT ?_
  refine eBo trivial ?_
  refine Bool.eq_iff_iff.2 ?_
  rw[accOk_iff]
  simp only[decide_eq_true_eq,decide_eq_false_iff_not,Bool.false_eq_true,false_iff,true_iff]at *
  omega
 ·intro h1
  refine lf 0 ty.F110_0 Z<|loI ty.kd3 Z<|lbB Z<|lkB Z<|nG ?_
  refine AW.cond rfl ?_ ?_
  ·intro h2
   refine sL<|laZ Z<|nG<|aR<|rT ?_
   refine eBo trivial ?_
   refine Bool.eq_iff_iff.2 ?_
   rw[accOk_iff]
   simp only[decide_eq_true_eq,decide_eq_false_iff_not,Bool.false_eq_true,false_iff,true_iff]at *
   omega
  ·intro h2
   refine aK<|gT<|aS<|sL<|lf 0 ty.F110_0 Z<|loI ty.kd3 Z<|lbB Z<|nG ?_
   refine AW.cond rfl ?_ ?_
   ·intro h3
    refine sL<|lf 1 ty.F110_1 Z<|loI ty.kd3 Z<|lbB Z<|laB Z<|nG<|aR<|rT ?_
    refine eBo trivial ?_
    refine Bool.eq_iff_iff.2 ?_
    rw[accOk_iff]
    simp only[decide_eq_true_eq,decide_eq_false_iff_not,Bool.false_eq_true,false_iff,true_iff]at *
    omega
   ·intro h3
    refine aK<|gA<|lf 1 ty.F110_1 Z<|loI ty.kd3 Z<|lbB Z<|lmB Z ?_
    refine AL.bool (t:=20) rfl ?_ ?_
    ·intro h4
     refine lf 1 ty.F110_1 Z<|loI ty.kd3 Z<|lbB Z<|lkB Z<|laB Z<|nG<|aR ?_
     refine eBo trivial ?_
     refine Bool.eq_iff_iff.2 ?_
     rw[accOk_iff]
     simp only[decide_eq_true_eq,decide_eq_false_iff_not,Bool.false_eq_true,false_iff,true_iff]at *
     omega
    ·intro h4
     refine lno Z<|lno Z<|lno Z<|lkZ Z<|lT [2,24] [2001] ?_
     refine laZ Z<|nG<|aR ?_
     refine eBo trivial ?_
     refine Bool.eq_iff_iff.2 ?_
     rw[accOk_iff]
     simp only[decide_eq_true_eq,decide_eq_false_iff_not,Bool.false_eq_true,false_iff,true_iff]at *
     omega
theorem srange_e(n:Int):GC Tryz.prog 146 [int n] [] (boo (rangeA n)) []:=by
 refine gi 2 Tryz.func146 rfl Tryz.ntmps146 rfl ?_
 intro L O w0
 refine sL<|laZ Z<|nA<|lmI Z<|lbB Z<|lmB Z ?_
 refine AL.bool (t:=5) rfl ?_ ?_
 ·intro h1
  refine lmI Z<|lbB Z<|lkB Z<|laB Z<|nG<|aR ?_
  refine eBo trivial ?_
  unfold rangeA;first|rfl|(simp_all[inB];done)|(simp_all[inB];omega)
 ·intro h1
  refine lno Z<|lno Z<|lkZ Z<|laZ Z<|nG<|aR ?_
  refine eBo trivial ?_
  unfold rangeA;first|rfl|(simp_all[inB];done)|(simp_all[inB];omega)
theorem slinesOk_e(l:List Line)(hn:l.length≤320):GC Tryz.prog 142 [.p (.lst 120 3 (rowsOf encLine l))] [] (boo (linesOk l)) []:=by
 refine gi 2 Tryz.func142 rfl Tryz.ntmps142 rfl ?_
 intro L O w0
 refine sL<|laZ Z<|nA<|laI Z<|nG<|aS<|sL<|lmL Z<|lnI ty.sl32 Z<|lmI Z<|nG<|aB ?_
 refine aW [0,2,6,7] [] (D:=Nat) (fun k=>[(3,int (tot amtOf (l.take k))),(8,int (k:Int))]) (fun k=>[]) (fun k=>k≤l.length∧∀j,j<k→lineAt l j=true) (fun k=>l.length-k) (0) (⟨Nat.zero_le _,fun j h=>absurd h (by omega)⟩) ⟨rfl,rfl,trivial⟩ trivial ?_
 intro k hI
 obtain⟨hkl,hall⟩:=hI
 refine sL<|lbB Z<|nG<|aS ?_
 refine AW.cond rfl ?_ ?_
 ·intro h1
  refine aK<|gT<|aS<|aB<|sL<|lmI Z ?_
  have hk:k<l.length:=by simpa[length_rowsOf]using h1
  refine li k ty.el32 Z (row_map hk)<|lrX (.agg [vI _ _,vI _ _,vI _ _]) ty.kd120 Z<|lst (zA 2005 ty.ze120 Z) Z<|laI Z<|lst (zB 2005 ty.co120 ty.inf120 Z) Z<|nG<|aS<|aS<|aG 34 []<|yq 0 (rf 0 ty.F120_0 Z)<|yq 1 (roX (.agg [vI _ _,vI _ _]) ty.kd110 Z)<|yst 2 Z (zC [] [] [] Tryz.func145 (saccOk_e l[k].acc) (trivial) Z Z)<|gX [0,2,3,4,5,6,7,8,15] [2005] ?_
  refine yq 3 (ruB Z)<|yq 4 (rmB Z) ?_
  refine AG.bool (t:=17) rfl ?_ ?_
  ·intro h2
   refine yno 5 Z<|yno 6 Z<|yno 7 Z<|tno 8 Z<|tno 9 Z<|tno 10 Z<|tno 11 Z<|tno 12 Z<|tno 13 Z<|yno 14 Z<|yno 15 Z<|yno 16 Z<|yno 17 Z<|yno 18 Z<|yq 19 (rkT Z)<|yq 20 (rmT Z)<|yno 21 Z<|yno 22 Z<|yno 23 Z<|yno 24 Z<|yq 25 (rkT Z)<|yq 26 (rmT Z)<|yno 27 Z<|yno 28 Z<|yno 29 Z<|yq 30 (rkT Z)<|yq 31 (rmT Z)<|yno 32 Z<|yno 33 Z<|yq 34 (rkT Z) ?_
   refine gD<|gT<|aY Z<|sL<|laZ Z<|nG<|aR<|rT<|rB<|rT<|rT<|rB<|rT ?_
   refine eBo trivial ?_
   first|(exfalso;simp only[decide_eq_true_eq]at *;omega)|exact(linesOk_no hk (by rw[lineAt_eq hk];simp_all[rangeA,prevOk_pos])).symm
  ·intro h2
   refine yq 5 (rmI Z)<|yq 6 (rbB Z)<|yq 7 (rmB Z) ?_
   refine AG.bool (t:=20) rfl ?_ ?_
   ·intro h3
    refine tq 8 (rmL Z)<|tq 9 (rmI Z) ?_
    have hp:0<k:=by simpa using h3
    refine tq 10 (rgI rfl (by unfold i64;omega))<|tq 11 (rd (x:=.rp _) (rd_iaddr_p (i:=k-1) rfl ty.el32 rfl rfl ?hn1 (row_map (by omega:k-1<l.length))) rfl) ?_
    case hn1=>omega
    refine tq 12 (rd (x:=.rp _) (zfr ty.F120_0 rfl) rfl)<|tq 13 (rrX (.agg [vI _ _,vI _ _]) ty.kd110 rfl)<|yq 14 (rf 0 ty.F120_0 rfl)<|yq 15 (roX (.agg [vI _ _,vI _ _]) ty.kd110 rfl)<|yst 16 rfl (zC [] [] [] Tryz.func135 (sless_e (l[k-1]'(by omega)).acc l[k].acc) (trivial) rfl rfl)<|gX [0,2,3,4,5,6,7,8,17,20,29] [2005] ?_
    refine yq 17 (ruB Z)<|yq 18 (rkB Z)<|yq 19 (rkB Z)<|yq 20 (rmB Z) ?_
    refine AG.bool (t:=33) rfl ?_ ?_
    ·intro h4
     refine yno 21 Z<|yno 22 Z<|yno 23 Z<|yno 24 Z<|yq 25 (rkT Z)<|yq 26 (rmT Z)<|yno 27 Z<|yno 28 Z<|yno 29 Z<|yq 30 (rkT Z)<|yq 31 (rmT Z)<|yno 32 Z<|yno 33 Z<|yq 34 (rkT Z)<|gD<|gT<|aY Z<|sL<|laZ Z<|nG<|aR<|rT<|rB<|rT<|rT<|rB<|rT ?_
     refine eBo trivial ?_
     first|(exfalso;simp only[decide_eq_true_eq]at *;omega)|exact(linesOk_no hk (by rw[lineAt_eq hk];simp_all[rangeA,prevOk_pos])).symm
    ·intro h4
     refine yq 21 (rf 2 ty.F120_1 Z)<|yq 22 (roI ty.kd3 Z)<|yst 23 Z (zC [] [] [] Tryz.func146 (srange_e l[k].amt) (trivial) Z Z)<|yq 24 (ruB Z)<|yq 25 (rkB Z)<|yq 26 (rmB Z) ?_
     refine AG.bool (t:=39) rfl ?_ ?_
     ·intro h5
      refine yno 27 Z<|yno 28 Z<|yno 29 Z<|yq 30 (rkT Z)<|yq 31 (rmT Z)<|yno 32 Z<|yno 33 Z<|yq 34 (rkT Z)<|gD<|gT<|aY Z<|sL<|laZ Z<|nG<|aR<|rT<|rB<|rT<|rT<|rB<|rT ?_
      refine eBo trivial ?_
      first|(exfalso;simp only[decide_eq_true_eq]at *;omega)|exact(linesOk_no hk (by rw[lineAt_eq hk];simp_all[rangeA,prevOk_pos])).symm
     ·intro h5
      refine yq 27 (rf 2 ty.F120_1 Z)<|yq 28 (roI ty.kd3 Z)<|yq 29 (rbB Z)<|yq 30 (rkB Z)<|yq 31 (rmB Z) ?_
      refine AG.bool (t:=44) rfl ?_ ?_
      ·intro h6
       refine yno 32 Z<|yno 33 Z<|yq 34 (rkT Z)<|gD<|gT<|aY Z<|sL<|laZ Z<|nG<|aR<|rT<|rB<|rT<|rT<|rB<|rT ?_
       refine eBo trivial ?_
       first|(exfalso;simp only[decide_eq_true_eq]at *;omega)|exact(linesOk_no hk (by rw[lineAt_eq hk];simp_all[rangeA,prevOk_pos])).symm
      ·intro h6
       refine yq 32 (rmI Z)<|yq 33 (rbB Z)<|yq 34 (rkB Z)<|gX [0,2,3,5,6,7,8,47] [2005] ?_
       refine gD<|gT ?_
       refine AW.cond rfl ?_ ?_
       ·intro h7
        refine sL<|laZ Z<|nG<|aR<|rT<|rB<|rT<|rT<|rB<|rT ?_
        refine eBo trivial ?_
        first|(exfalso;simp only[decide_eq_true_eq]at *;omega)|exact(linesOk_no hk (by rw[lineAt_eq hk];simp_all[rangeA,prevOk_pos])).symm
       ·intro h7
        refine aK<|gT<|aL<|lmI Z<|lf 2 ty.F120_1 Z<|loI ty.kd3 Z ?_
        have hpv:prevOk l k l[k]=true:=by
         rcases Nat.eq_zero_or_pos k with q|q
         ·subst q;rfl
         ·rw[prevOk_pos q hk];simp_all
        have hgood:lineAt l k=true:=by rw[lineAt_eq hk,hpv];simp_all[rangeA]
        have hrg:rangeA l[k].amt=true:=by rw[lineAt_eq hk]at hgood;simp only[Bool.and_eq_true]at hgood;exact hgood.1.2
        refine lhI rfl ⟨rfl,sum_fit (by omega) hk hall hrg⟩<|laI Z<|lN<|gB<|gT<|aL<|lgI Z<|lmI Z<|nG ?_
        refine⟨k+1,⟨hk,fun j hj=>(Nat.lt_or_ge j k).elim (hall j) (fun q=>by rw[show j=k by omega];exact hgood)⟩,by omega,⟨(Eq.trans (b:=int _) rfl (congrArg int (tot_succ amtOf l hk).symm)),(iq rfl),trivial⟩,trivial,rfl,rfl⟩
   ·intro h3
    refine tno 8 Z<|tno 9 Z<|tno 10 Z<|tno 11 Z<|tno 12 Z<|tno 13 Z<|yno 14 Z<|yno 15 Z<|yno 16 Z<|yno 17 Z<|yq 18 (rkZ Z)<|yq 19 (rkZ Z)<|yq 20 (rmZ Z)<|yq 21 (rf 2 ty.F120_1 Z)<|yq 22 (roI ty.kd3 Z)<|yst 23 Z (zC [] [] [] Tryz.func146 (srange_e l[k].amt) (trivial) Z Z)<|gX [0,2,3,4,5,6,7,8,33,36] [2005] ?_
    refine yq 24 (ruB Z)<|yq 25 (rkB Z)<|yq 26 (rmB Z) ?_
    refine AG.bool (t:=39) rfl ?_ ?_
    ·intro h8
     refine yno 27 Z<|yno 28 Z<|yno 29 Z<|yq 30 (rkT Z)<|yq 31 (rmT Z)<|yno 32 Z<|yno 33 Z<|yq 34 (rkT Z)<|gD<|gT<|aY Z<|sL<|laZ Z<|nG<|aR<|rT<|rB<|rT<|rT<|rB<|rT ?_
     refine eBo trivial ?_
     first|(exfalso;simp only[decide_eq_true_eq]at *;omega)|exact(linesOk_no hk (by rw[lineAt_eq hk];simp_all[rangeA,prevOk_pos])).symm
    ·intro h8
     refine yq 27 (rf 2 ty.F120_1 Z)<|yq 28 (roI ty.kd3 Z)<|yq 29 (rbB Z)<|yq 30 (rkB Z)<|yq 31 (rmB Z) ?_
     refine AG.bool (t:=44) rfl ?_ ?_
     ·intro h9
      refine yno 32 Z<|yno 33 Z<|yq 34 (rkT Z)<|gD<|gT<|aY Z<|sL<|laZ Z<|nG<|aR<|rT<|rB<|rT<|rT<|rB<|rT ?_
      refine eBo trivial ?_
      first|(exfalso;simp only[decide_eq_true_eq]at *;omega)|exact(linesOk_no hk (by rw[lineAt_eq hk];simp_all[rangeA,prevOk_pos])).symm
     ·intro h9
      refine yq 32 (rmI Z)<|yq 33 (rbB Z)<|yq 34 (rkB Z)<|gD<|gT ?_
      refine AW.cond rfl ?_ ?_
      ·intro h10
       refine sL<|laZ Z<|nG<|aR<|rT<|rB<|rT<|rT<|rB<|rT ?_
       refine eBo trivial ?_
       first|(exfalso;simp only[decide_eq_true_eq]at *;omega)|exact(linesOk_no hk (by rw[lineAt_eq hk];simp_all[rangeA,prevOk_pos])).symm
      ·intro h10
       refine aK<|gT<|aL<|lmI Z<|lf 2 ty.F120_1 Z<|loI ty.kd3 Z ?_
       have hpv:prevOk l k l[k]=true:=by
        rcases Nat.eq_zero_or_pos k with q|q
        ·subst q;rfl
        ·rw[prevOk_pos q hk];simp_all
       have hgood:lineAt l k=true:=by rw[lineAt_eq hk,hpv];simp_all[rangeA]
       have hrg:rangeA l[k].amt=true:=by rw[lineAt_eq hk]at hgood;simp only[Bool.and_eq_true]at hgood;exact hgood.1.2
       refine lhI rfl ⟨rfl,sum_fit (by omega) hk hall hrg⟩<|laI Z<|lN<|gB<|gT<|aL<|lgI Z<|lmI Z<|nG ?_
       refine⟨k+1,⟨hk,fun j hj=>(Nat.lt_or_ge j k).elim (hall j) (fun q=>by rw[show j=k by omega];exact hgood)⟩,by omega,⟨(Eq.trans (b:=int _) rfl (congrArg int (tot_succ amtOf l hk).symm)),(iq rfl),trivial⟩,trivial,rfl,rfl⟩
 ·intro h1
  refine aE<|eT<|eT<|eB<|gA<|lmI Z<|lbB Z<|laB Z<|nG<|aR ?_
  refine eBo trivial ?_
  have hkn:¬k<l.length:=by simpa[length_rowsOf]using h1
  obtain rfl:k=l.length:=by omega
  rw[linesOk_yes hall,List.take_length,dec_beq]
theorem sledgerOk_e(x:Ledger):GC Tryz.prog 130 [ledV x] [] (boo (ledgerOk x)) []:=by
 refine gi 2 Tryz.func130 rfl Tryz.ntmps130 rfl ?_
 intro L O w0
 refine sL<|lst (zX 2001 Z) Z<|laZ Z<|nA<|lf 0 ty.F54_0 Z<|loI ty.kd3 Z<|lbB Z<|lmB Z ?_
 refine AL.bool (t:=6) rfl ?_ ?_
 ·intro h1
  refine lf 0 ty.F54_0 Z<|loI ty.kd3 Z<|lbB Z<|lkB Z<|lmB Z ?_
  refine AL.bool (t:=11) rfl ?_ ?_
  ·intro h2
   refine lf 1 ty.F54_1 Z<|loL ty.kd32 Z<|lnI ty.sl32 Z<|lbB Z<|lkB Z<|lmB Z ?_
   refine AL.bool (t:=17) rfl ?_ ?_
   ·intro h3
    refine lf 1 ty.F54_1 Z<|loL ty.kd32 Z<|lst (zC [] [] [] Tryz.func142 (slinesOk_e x.lines (by have h:=h3;simp only[length_rowsOf,decide_eq_true_eq]at h;omega)) (trivial) rfl rfl) Z<|lT [2,17,20] [2001] ?_
    refine lkB Z<|laB Z<|nG<|aR ?_
    refine eBo trivial ?_
    unfold ledgerOk
    simp_all[length_rowsOf,amtOk,inB]<;>(intros;omega)
   ·intro h3
    refine lno Z<|lno Z<|lno Z<|lkZ Z<|laZ Z<|nG<|aR ?_
    refine eBo trivial ?_
    unfold ledgerOk
    simp_all[length_rowsOf,amtOk,inB]<;>(intros;omega)
  ·intro h2
   refine lno Z<|lno Z<|lno Z<|lno Z<|lkZ Z<|lmZ Z<|lno Z<|lno Z<|lno Z<|lkZ Z<|laZ Z<|nG<|aR ?_
   refine eBo trivial ?_
   unfold ledgerOk
   simp_all[length_rowsOf,amtOk,inB]<;>(intros;omega)
 ·intro h1
  refine lno Z<|lno Z<|lno Z<|lkZ Z<|lmZ Z<|lno Z<|lno Z<|lno Z<|lno Z<|lkZ Z<|lmZ Z<|lno Z<|lno Z<|lno Z<|lkZ Z<|laZ Z<|nG<|aR ?_
  refine eBo trivial ?_
  unfold ledgerOk
  simp_all[length_rowsOf,amtOk,inB]<;>(intros;omega)
theorem spostOk_e(n:Int)(l:List Line):GC Tryz.prog 141 [.agg [int n,.p (.lst 120 3 (rowsOf encLine l))]] [] (boo (postOk n l)) []:=by
 refine gi 2 Tryz.func141 rfl Tryz.ntmps141 rfl ?_
 intro L O w0
 refine sL<|lst (zX 2001 Z) Z<|laZ Z<|nA<|lf 0 ty.F34_0 Z<|loI ty.kd3 Z<|lbB Z<|lmB Z ?_
 refine AL.bool (t:=6) rfl ?_ ?_
 ·intro h1
  refine lf 0 ty.F34_0 Z<|loI ty.kd3 Z<|lbB Z<|lkB Z<|lmB Z ?_
  refine AL.bool (t:=11) rfl ?_ ?_
  ·intro h2
   refine lf 1 ty.F34_1 Z<|loL ty.kd32 Z<|lnI ty.sl32 Z<|lbB Z<|lkB Z<|lmB Z ?_
   refine AL.bool (t:=17) rfl ?_ ?_
   ·intro h3
    refine lf 1 ty.F34_1 Z<|loL ty.kd32 Z<|lnI ty.sl32 Z<|lbB Z<|lkB Z<|lmB Z ?_
    refine AL.bool (t:=23) rfl ?_ ?_
    ·intro h4
     refine lf 1 ty.F34_1 Z<|loL ty.kd32 Z<|lst (zC [] [] [] Tryz.func142 (slinesOk_e l (by have h:=h4;simp only[length_rowsOf,decide_eq_true_eq]at h;omega)) (trivial) rfl rfl) Z<|lT [2,23,26] [2001] ?_
     refine lkB Z<|laB Z<|nG<|aR ?_
     refine eBo trivial ?_
     unfold postOk
     simp_all[length_rowsOf,inB]<;>(intros;omega)
    ·intro h4
     refine lno Z<|lno Z<|lno Z<|lkZ Z<|laZ Z<|nG<|aR ?_
     refine eBo trivial ?_
     unfold postOk
     simp_all[length_rowsOf,inB]<;>(intros;omega)
   ·intro h3
    refine lno Z<|lno Z<|lno Z<|lno Z<|lkZ Z<|lmZ Z<|lno Z<|lno Z<|lno Z<|lkZ Z<|laZ Z<|nG<|aR ?_
    refine eBo trivial ?_
    unfold postOk
    simp_all[length_rowsOf,inB]<;>(intros;omega)
  ·intro h2
   refine lno Z<|lno Z<|lno Z<|lno Z<|lkZ Z<|lmZ Z<|lno Z<|lno Z<|lno Z<|lno Z<|lkZ Z<|lmZ Z<|lno Z<|lno Z<|lno Z<|lkZ Z<|laZ Z<|nG<|aR ?_
   refine eBo trivial ?_
   unfold postOk
   simp_all[length_rowsOf,inB]<;>(intros;omega)
 ·intro h1
  refine lno Z<|lno Z<|lno Z<|lkZ Z<|lmZ Z<|lno Z<|lno Z<|lno Z<|lno Z<|lkZ Z<|lmZ Z<|lno Z<|lno Z<|lno Z<|lno Z<|lkZ Z<|lmZ Z<|lno Z<|lno Z<|lno Z<|lkZ Z<|laZ Z<|nG<|aR ?_
  refine eBo trivial ?_
  unfold postOk
  simp_all[length_rowsOf,inB]<;>(intros;omega)
theorem saddG_e(l:List Line)(x:Line)(hn:l.length≤1000)(hb:bdL 1152921504606846976 l)(hx:-1152921504606846976≤x.amt∧x.amt≤1152921504606846976):GC Tryz.prog 107 [.p (.lst 120 3 (rowsOf encLine l)),.agg [int x.acc.kind,int x.acc.ch,int x.amt]] [] (.own 2009) [(2009,lAr (addS l x))]:=by
 refine gi 4 Tryz.func107 rfl Tryz.ntmps107 rfl ?_
 intro L O w0
 refine sL<|lst (zX 2003 rfl) Z<|laV Z<|nA<|lst (zS 2009 [] ty.el32 ty.ze120 rfl (by simp)) Z<|laO Z<|nA<|laZ Z<|nG<|aS<|sL<|lmL Z<|lnI ty.sl32 Z<|lmI Z<|nG<|aB ?_
 refine aW [3,4,5,10,11] [2003] (D:=Nat) (fun k=>[(6,boo (addA x (l.take k)).1),(12,int (k:Int))]) (fun k=>[(2009,lAr (addA x (l.take k)).2)]) (fun k=>k≤l.length) (fun k=>l.length-k) (0) (Nat.zero_le _) ⟨rfl,rfl,trivial⟩ ⟨rfl,trivial⟩ ?_
 intro k hI
 refine sL<|lbB Z<|nG<|aS ?_
 refine AW.cond rfl ?_ ?_
 ·intro h1
  refine aK<|gT<|aS<|aB<|sL ?_
  have hk:k<l.length:=by simpa[length_rowsOf]using h1
  have hyb:=hb _ (List.getElem_mem hk)
  refine li k ty.el32 Z (row_map hk)<|lrX (.agg [vI _ _,vI _ _,vI _ _]) ty.kd120 Z<|lst (zA 2008 ty.ze120 Z) Z<|lst (zB 2008 ty.co120 ty.inf120 Z) Z<|nG<|aS<|sL<|lmB Z<|luB Z<|lmB Z ?_
  refine AL.bool (t:=18) rfl ?_ ?_
  ·intro h2
   refine lf 0 ty.F120_0 Z<|loX (.agg [vI _ _,vI _ _]) ty.kd110 Z<|lf 0 ty.F120_0 Z<|loX (.agg [vI _ _,vI _ _]) ty.kd110 Z<|lst (zC [] [] [] Tryz.func135 (sless_e l[k].acc x.acc) (trivial) Z Z) Z<|lT [3,4,5,6,8,10,11,12,18,23] [2003,2008,2009] ?_
   refine luB Z<|lkB Z<|nG ?_
   refine AW.cond rfl ?_ ?_
   ·intro h3
    refine aS<|sL<|lf 0 ty.F120_0 Z<|loX (.agg [vI _ _,vI _ _]) ty.kd110 Z<|lf 0 ty.F120_0 Z<|loX (.agg [vI _ _,vI _ _]) ty.kd110 Z<|lq (rd (x:=vB _) (rd_eqS rfl (.inr rfl) rfl rfl ty.sf110 ty.su110 ty.sh110 ty.sg110 ?hn1) rfl) ?_
    case hn1=>exact⟨rfl,by decide,rfl,⟨_,Tryz.underlying3⟩,rfl,by decide,rfl,⟨_,Tryz.underlying3⟩,trivial⟩
    refine nG ?_
    refine AW.cond rfl ?_ ?_
    ·intro h4
     refine aL<|lmO Z<|loX (.agg [vI _ _,vI _ _,vI _ _]) ty.kd120 Z<|lst (zS 2033 (rowsOf encLine [x]) ty.el32 ty.ze120 rfl) Z<|lst (zP 2009 ty.el32 ty.ze120 ty.by120 rfl (Src.own rfl rfl) (by have:=addA_len (x:=x) (l.take k);rw[List.length_take]at this;simp[rowsOf];omega)) Z<|laO Z<|nA<|laT Z<|nA<|lf 0 ty.F120_0 Z<|loX (.agg [vI _ _,vI _ _]) ty.kd110 Z<|lf 0 ty.F120_0 Z<|loX (.agg [vI _ _,vI _ _]) ty.kd110 Z<|lq (rd (x:=vB _) (rd_eqS rfl (.inl rfl) rfl rfl ty.sf110 ty.su110 ty.sh110 ty.sg110 ?hn2) rfl) ?_
     case hn2=>exact⟨rfl,by decide,rfl,⟨_,Tryz.underlying3⟩,rfl,by decide,rfl,⟨_,Tryz.underlying3⟩,trivial⟩
     refine lsB 56 false rfl (by have h:=h4;first|(simpa using h)|(simp at h ⊢;exact h)|simp_all)<|nG<|aN Z<|aK<|gT<|aL<|lmO Z<|loX (.agg [vI _ _,vI _ _,vI _ _]) ty.kd120 Z<|lst (zS 2059 (rowsOf encLine [l[k]]) ty.el32 ty.ze120 rfl) Z<|lT [3,4,5,6,10,11,12,57,59] [2003,2008,2009,2033,2059] ?_
     refine lst (zP 2009 ty.el32 ty.ze120 ty.by120 rfl (Src.own rfl rfl) (by have:=addA_len (x:=x) (l.take k);rw[List.length_take]at this;simp[rowsOf];omega)) Z<|laO Z<|lN<|gB<|gT<|aL<|lgI Z<|lmI Z<|nG ?_
     have hst:addA x (l.take (k+1))=addQ x (addA x (l.take k)) l[k]:=addA_succ hk
     have ha0:(addA x (l.take k)).1=false:=by simpa using h2
     have hl0:lessA l[k].acc x.acc=false:=by simpa using h3
     have he0:¬(l[k].acc.kind=x.acc.kind∧l[k].acc.ch=x.acc.ch):=by have h:=h4;simp only[eqVals,Bool.and_true,Bool.and_eq_true,Bool.not_eq_true',Bool.and_eq_false_iff,Bool.not_eq_false',beq_iff_eq,beq_eq_false_iff_ne]at h;omega
     rw[addQ_new ha0 hl0 he0]at hst
     refine⟨k+1,hk,by omega,⟨(Eq.trans (b:=boo true) rfl (congrArg boo (by rw[hst]))),(iq rfl),trivial⟩,⟨(Eq.trans (b:=lAr ((addA x (l.take k)).2++[x]++[l[k]])) (congrArg (AO.arr 120 3) (by rw[rowsOf_app,rowsOf_app]<;>rfl)) (congrArg lAr (by rw[hst]))),trivial⟩,rfl,rfl⟩
    ·intro h4
     refine sL<|lf 2 ty.F120_1 Z<|loI ty.kd3 Z<|lf 2 ty.F120_1 Z<|loI ty.kd3 Z<|lgI Z<|lbB Z<|nG ?_
     refine AW.cond rfl ?_ ?_
     ·intro h5
      refine aL<|lmO Z<|lf 0 ty.F120_0 Z<|loX (.agg [vI _ _,vI _ _]) ty.kd110 Z<|lf 2 ty.F120_1 Z<|loI ty.kd3 Z<|lf 2 ty.F120_1 Z<|loI ty.kd3 Z<|lgI Z<|lq (rd (x:=.agg [vI _ _,vI _ _,vI _ _]) (rd_build Z ty.sa120 Z Z Z) Z) ?_
      refine lst (zS 2050 (rowsOf encLine [⟨l[k].acc,l[k].amt+x.amt⟩]) ty.el32 ty.ze120 rfl) Z<|lT [3,4,5,6,8,10,11,12,41,50] [2003,2008,2009,2050] ?_
      refine lst (zP 2009 ty.el32 ty.ze120 ty.by120 rfl (Src.own rfl rfl) (by have:=addA_len (x:=x) (l.take k);rw[List.length_take]at this;simp[rowsOf];omega)) Z<|laO Z<|nA<|laT Z<|nA<|lf 0 ty.F120_0 Z<|loX (.agg [vI _ _,vI _ _]) ty.kd110 Z<|lf 0 ty.F120_0 Z<|loX (.agg [vI _ _,vI _ _]) ty.kd110 Z<|lq (rd (x:=vB _) (rd_eqS rfl (.inl rfl) rfl rfl ty.sf110 ty.su110 ty.sh110 ty.sg110 ?hn3) rfl) ?_
      case hn3=>exact⟨rfl,by decide,rfl,⟨_,Tryz.underlying3⟩,rfl,by decide,rfl,⟨_,Tryz.underlying3⟩,trivial⟩
      refine lsB 56 true rfl (by have h:=h4;first|(simpa using h)|(simp at h ⊢;exact h)|simp_all)<|nG<|aY Z<|aE<|eT<|eB<|gT<|aL<|lgI Z<|lmI Z<|nG ?_
      have hst:addA x (l.take (k+1))=addQ x (addA x (l.take k)) l[k]:=addA_succ hk
      have ha0:(addA x (l.take k)).1=false:=by simpa using h2
      have hl0:lessA l[k].acc x.acc=false:=by simpa using h3
      have he0:(l[k].acc.kind=x.acc.kind∧l[k].acc.ch=x.acc.ch):=by have h:=h4;simp only[eqVals,Bool.and_true,Bool.and_eq_true,Bool.not_eq_true',Bool.and_eq_false_iff,Bool.not_eq_false',beq_iff_eq,beq_eq_false_iff_ne]at h;omega
      have hs0:¬l[k].amt+x.amt=0:=by simpa using h5
      rw[addQ_sum ha0 hl0 he0 hs0]at hst
      refine⟨k+1,hk,by omega,⟨(Eq.trans (b:=boo true) rfl (congrArg boo (by rw[hst]))),(iq rfl),trivial⟩,⟨(Eq.trans (b:=lAr ((addA x (l.take k)).2++[⟨l[k].acc,l[k].amt+x.amt⟩])) (congrArg (AO.arr 120 3) (rowsOf_app encLine _ [_]).symm) (congrArg lAr (by rw[hst]))),trivial⟩,rfl,rfl⟩
     ·intro h5
      refine aK<|gA<|laT Z<|nA<|lf 0 ty.F120_0 Z<|loX (.agg [vI _ _,vI _ _]) ty.kd110 Z<|lf 0 ty.F120_0 Z<|loX (.agg [vI _ _,vI _ _]) ty.kd110 Z<|lq (rd (x:=vB _) (rd_eqS rfl (.inl rfl) rfl rfl ty.sf110 ty.su110 ty.sh110 ty.sg110 ?hn4) rfl) ?_
      case hn4=>exact⟨rfl,by decide,rfl,⟨_,Tryz.underlying3⟩,rfl,by decide,rfl,⟨_,Tryz.underlying3⟩,trivial⟩
      refine lsB 56 true rfl (by have h:=h4;first|(simpa using h)|(simp at h ⊢;exact h)|simp_all)<|nG<|aY Z<|aE<|eT<|eB<|gT<|aL<|lgI Z<|lmI Z<|nG ?_
      have hst:addA x (l.take (k+1))=addQ x (addA x (l.take k)) l[k]:=addA_succ hk
      have ha0:(addA x (l.take k)).1=false:=by simpa using h2
      have hl0:lessA l[k].acc x.acc=false:=by simpa using h3
      have he0:(l[k].acc.kind=x.acc.kind∧l[k].acc.ch=x.acc.ch):=by have h:=h4;simp only[eqVals,Bool.and_true,Bool.and_eq_true,Bool.not_eq_true',Bool.and_eq_false_iff,Bool.not_eq_false',beq_iff_eq,beq_eq_false_iff_ne]at h;omega
      have hs0:l[k].amt+x.amt=0:=by simpa using h5
      rw[addQ_zero ha0 hl0 he0 hs0]at hst
      refine⟨k+1,hk,by omega,⟨(Eq.trans (b:=boo true) rfl (congrArg boo (by rw[hst]))),(iq rfl),trivial⟩,⟨(Eq.trans (b:=lAr ((addA x (l.take k)).2)) rfl (congrArg lAr (by rw[hst]))),trivial⟩,rfl,rfl⟩
   ·intro h3
    refine aK<|gT<|aL<|lmO Z<|loX (.agg [vI _ _,vI _ _,vI _ _]) ty.kd120 Z<|lst (zS 2059 (rowsOf encLine [l[k]]) ty.el32 ty.ze120 Z) Z<|lT [3,4,5,6,10,11,12,57,59] [2003,2008,2009,2059] ?_
    refine lst (zP 2009 ty.el32 ty.ze120 ty.by120 rfl (Src.own rfl rfl) (by have:=addA_len (x:=x) (l.take k);rw[List.length_take]at this;simp[rowsOf];omega)) Z<|laO Z<|lN<|gB<|gT<|aL<|lgI Z<|lmI Z<|nG ?_
    have hst:addA x (l.take (k+1))=addQ x (addA x (l.take k)) l[k]:=addA_succ hk
    have ha0:(addA x (l.take k)).1=false:=by simpa using h2
    have hl0:lessA l[k].acc x.acc=true:=by simpa using h3
    rw[addQ_less ha0 hl0]at hst
    refine⟨k+1,hk,by omega,⟨(Eq.trans (b:=boo (addA x (l.take k)).1) rfl (congrArg boo (by rw[hst,ha0]))),(iq rfl),trivial⟩,⟨(Eq.trans (b:=lAr ((addA x (l.take k)).2++[l[k]])) (congrArg (AO.arr 120 3) (rowsOf_app encLine _ [_]).symm) (congrArg lAr (by rw[hst]))),trivial⟩,rfl,rfl⟩
  ·intro h2
   refine lno Z<|lno Z<|lno Z<|lno Z<|lno Z<|lno Z<|lkZ Z<|nG<|aN Z<|aK<|gT<|aL<|lmO Z<|loX (.agg [vI _ _,vI _ _,vI _ _]) ty.kd120 Z<|lst (zS 2059 (rowsOf encLine [l[k]]) ty.el32 ty.ze120 rfl) Z<|lst (zP 2009 ty.el32 ty.ze120 ty.by120 rfl (Src.own rfl rfl) (by have:=addA_len (x:=x) (l.take k);rw[List.length_take]at this;simp[rowsOf];omega)) Z<|laO Z<|lN<|gB<|gT<|aL<|lgI Z<|lmI Z<|nG ?_
   have hst:addA x (l.take (k+1))=addQ x (addA x (l.take k)) l[k]:=addA_succ hk
   have ha0:(addA x (l.take k)).1=true:=by simpa using h2
   rw[addQ_done ha0]at hst
   refine⟨k+1,hk,by omega,⟨(Eq.trans (b:=boo (addA x (l.take k)).1) rfl (congrArg boo (by rw[hst,ha0]))),(iq rfl),trivial⟩,⟨(Eq.trans (b:=lAr ((addA x (l.take k)).2++[l[k]])) (congrArg (AO.arr 120 3) (rowsOf_app encLine _ [_]).symm) (congrArg lAr (by rw[hst]))),trivial⟩,rfl,rfl⟩
 ·intro h1
  refine aE<|eT<|eT<|eB<|gT<|aS<|sL<|lmB Z<|luB Z<|nG ?_
  refine AW.cond rfl ?_ ?_
  ·intro h6
   refine aL<|lmO Z<|loX (.agg [vI _ _,vI _ _,vI _ _]) ty.kd120 Z<|lst (zS 2066 (rowsOf encLine [x]) ty.el32 ty.ze120 Z) Z<|lT [4,5,64,66] [2003,2009,2066] ?_
   refine lst (zP 2009 ty.el32 ty.ze120 ty.by120 rfl (Src.own rfl rfl) (by have:=addA_len (x:=x) (l.take k);rw[List.length_take]at this;simp[rowsOf];omega)) Z<|laO Z<|nA<|lmO Z<|laO Z<|nG<|aR ?_
   have hke:k=l.length:=by have h:=h1;simp only[length_rowsOf,decide_eq_false_iff_not]at h;omega
   subst hke
   refine end_ret ?_ ⟨(Eq.trans (b:=lAr ((addA x (l.take l.length)).2++[x])) (congrArg (AO.arr 120 3) (rowsOf_app encLine _ [_]).symm) (congrArg lAr (by rw[List.take_length];exact addA_no (by have h:=h6;rw[List.take_length]at h;simpa using h)))),trivial⟩
   rfl
  ·intro h6
   refine aK<|gA<|lmO Z<|laO Z<|nG<|aR ?_
   have hke:k=l.length:=by have h:=h1;simp only[length_rowsOf,decide_eq_false_iff_not]at h;omega
   subst hke
   refine end_ret ?_ ⟨(congrArg lAr (by rw[List.take_length];exact addA_yes (by have h:=h6;rw[List.take_length]at h;simpa using h))),trivial⟩
   rfl

def upTo{α:Type}(l m:List α)(k:Nat):Prop:=∀j (h1:j<l.length) (h2:j<m.length),j<k→l[j]=m[j]
theorem upTo.zero{α:Type}(l m:List α):upTo l m 0:=fun j _ _ h=>absurd h (by omega)
theorem upTo.next{α:Type}{l m:List α}{k:Nat}(h:upTo l m k)(h1:k<l.length)(h2:k<m.length)(e:l[k]=m[k]):upTo l m (k+1):=fun j q1 q2 q3=>by
 by_cases r:j=k
 ·subst r;exact e
 ·exact h j q1 q2 (by omega)
theorem upTo.all{α:Type}{l m:List α}{k:Nat}(h:upTo l m k)(hl:l.length=m.length)(hk:¬k<l.length):l=m:=List.ext_getElem hl fun j q1 q2=>h j q1 q2 (by omega)
theorem allS_ps_len{x:Book}{es:List Event}:∀k,k≤es.length→∀p∈(allS x (es.take k)).ps,p.lines.length≤1000
 |0,_=>by rw[List.take_zero];intro p hp;simp[allS_nil]at hp
 |k+1,h=>by
  rw[allS_succ (by omega)]
  have ih:=allS_ps_len (x:=x) (es:=es) k (by omega)
  unfold allF
  dsimp only
  split
  ·rename_i q
   intro p hp
   rcases List.mem_append.1 hp with r|r
   ·exact ih p r
   ·rw[List.mem_singleton.1 r]
    by_cases z:(workR (allS x (es.take k)).now es[k]).l=[]
    ·rw[(appB_nil q.1 z).2];simp
    ·rw[(appB_yes q.1 z).2]
     have:=(ln_work q.1).len
     show (workR _ _).l.length≤1000
     omega
  ·exact ih
theorem bookOk_new:bookOk newBook=true:=by decide +kernel

section
variable {P:Program}
theorem eqVals_app:∀(fs:List Field) (i:Nat) (a b r r':List Value),flatF P fs i a b→eqVals (a++r) (b++r')=(eqVals a b&&eqVals r r')
 |[],i,[],[],r,r',_=>by simp[eqVals]
 |[],i,a::_,b,r,r',h=>by cases b<;>first|exact h.elim|(cases a<;>exact h.elim)
 |[],i,[],b::_,r,r',h=>h.elim
 |f::fs,i,[],b,r,r',h=>by cases b<;>exact h.elim
 |f::fs,i,v::a,[],r,r',h=>by cases v<;>exact h.elim
 |f::fs,i,v::a,v'::b,r,r',h=>by
  cases v<;>cases v'<;>first|exact h.elim|skip
  case int.int k x k' y=>
   have ih:=eqVals_app fs (i+1) a b r r' h.2.2.2.2
   show (x==y&&eqVals (a++r) (b++r'))=((x==y&&eqVals a b)&&eqVals r r')
   rw[ih,Bool.and_assoc]
  case bool.bool x y=>
   have ih:=eqVals_app fs (i+1) a b r r' h.2.2.2
   show (x==y&&eqVals (a++r) (b++r'))=((x==y&&eqVals a b)&&eqVals r r')
   rw[ih,Bool.and_assoc]
theorem part_agg{t:TypeId}{fs:Array Field}(ht:P.underlying t=some (.struct fs)){a r:List Value}(hn:P.cellsOf t=a.length)(W:World):(part t (a++r).toArray 0).run P W=.ok (.agg a.toArray) W:=by
 simp only[part,Sem.run_bind,isAgg_struct ht,Result.andThen_ok,if_true,sizeOf_run ht,hn]
 simp
theorem eqFields_nest (d : Nat) (W : World) {f0 : Field} {fs0 fs : List Field} {a b r r' : List Value} (hn : f0.name ≠ "_") (ho : f0.offset = 0) (ht : P.underlying f0.type = some (.struct (P.fieldsOf f0.type))) (hf : P.fieldsOf f0.type = fs0.toArray) (hp : P.stoodInHeld f0.type = false)
 (ha:P.cellsOf f0.type=a.length) (hb:b.length=a.length) (h0:flatF P fs0 0 a b) (h1:flatF P fs a.length r r'):(Op.eqFields (d+3) (a++r).toArray (b++r').toArray (f0::fs)).run P W=.ok (eqVals (a++r) (b++r')) W:=by
 have e1:=run_equalIn_struct (P:=P) W (d+2) f0.type a.toArray b.toArray ht hp
 rw[hf]at e1
 have e2:=eqFields_flat (P:=P) (d+1) W fs0 0 [] [] a b rfl rfl h0
 have e3:(Op.equalIn (d+3) f0.type (.agg a.toArray) (.agg b.toArray)).run P W=.ok (eqVals a b) W:=e1.trans e2
 have e4:=eqFields_flat (P:=P) (d+2) W fs a.length a b r r' rfl hb h1
 rw[eqVals_app fs0 0 a b r r' h0]
 unfold Op.eqFields
 rw[if_pos hn,Sem.run_bind,ho,part_agg ht ha,Result.andThen_ok,Sem.run_bind,part_agg ht (by rw[ha,hb]),Result.andThen_ok,Sem.run_bind,e3,Result.andThen_ok]
 cases hab:eqVals a b
 ·simp
 ·simpa using e4
variable {o:Oper}{τ:Nat→AV}{H:Nat→AO}{X:Nat→Bool}
theorem rd_eqN{op:BinOp}{T yT:TypeId}{x y:Operand}{a b r r':List Value}{f0:Field}{fs0 fs:List Field}(ho:o.op=.binOp op T x y yT)(hop:op=.eql∨op=.neq)(hx:valA (ev τ x)=some (.agg (a++r).toArray))(hy:valA (ev τ y)=some (.agg (b++r').toArray))
 (hf:P.fieldsOf T=(f0::fs).toArray) (ht:P.underlying T=some (.struct (P.fieldsOf T))) (hp:P.stoodInHeld T=false) (hg:P.eqGuardType P.depth T=false)
 (hn : f0.name ≠ "_") (ho0 : f0.offset = 0) (ht0 : P.underlying f0.type = some (.struct (P.fieldsOf f0.type))) (hf0 : P.fieldsOf f0.type = fs0.toArray) (hp0 : P.stoodInHeld f0.type = false)
 (ha:P.cellsOf f0.type=a.length) (hb:b.length=a.length) (h0:flatF P fs0 0 a b) (h1:flatF P fs a.length r r'):Rd P o τ H X (boo (match op with|.eql=>eqVals (a++r) (b++r')|_=>!eqVals (a++r) (b++r'))):=by
 have he:∀W,(Op.equal T (.agg (a++r).toArray) (.agg (b++r').toArray)).run P W=.ok (eqVals (a++r) (b++r')) W:=fun W=>by
  have h1':=run_equalIn_struct (P:=P) W (Op.maxDepth-1) T (a++r).toArray (b++r').toArray ht hp
  have h2:=eqFields_nest (P:=P) (Op.maxDepth-4) W (fs:=fs) (r:=r) (r':=r') hn ho0 ht0 hf0 hp0 ha hb h0 h1
  rw[hf]at h1'
  exact h1'.trans h2
 apply rd_eqv ho hx hy
 intro W
 rcases hop with rfl|rfl
 ·simp[eqGuard,binOp,hg,he]
 ·simp[eqGuard,binOp,hg,he]
end
section
variable {P:Program}{L O:Nat→Prop}{w0:World}{N:Nat}{ops:Array Oper}{F:List Nat}{n:Nat}{listed:Array Bool}{o:Oper}{τ:Nat→AV}{H:Nat→AO}{Q:AQ}
theorem AF1.stx{i:Nat}{E:List Nat}{Z:(Nat→AV)→(Nat→AO)→Prop}(ho:ops[i]? = some o)(hs:StX P o N τ H E Z)(hF:F.contains i=true∨E=[])(hg:gv τ ops o=some true)
 (h:∀τ' H',Z τ' H'→AF P L O w0 N ops F n (listed.setIfInBounds i true) τ' H' Q):AF1 P L O w0 N ops F n listed i τ H Q:=fun ρ fp a w hrr=>
 wpOp_step ho fun K hK=>by
  rw[hrr.wanted hg,if_pos rfl]
  exact hs.run hrr (fun τ' H' a' w' ρ' fp' hz hr' hmv=>hK _ _ ⟨keepA_of hF hmv,h τ' H' hz ρ' fp' a' w' hr'⟩)
end
end Go.Proofs.YtogkbcmfoalpiaaGreat

