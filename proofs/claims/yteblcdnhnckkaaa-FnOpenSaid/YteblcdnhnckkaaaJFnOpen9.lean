/- Texts of the proof of FnFnOpen, joined: ED1, ED2, ED3, E34, EQ1, E35, EQ2, MkD, EP2, EP3, EQ3. -/
import Derived.Test.YteblcdnhnckkaaaJFnOpen8
import Derived.Test.YteblcdnhnckkaaaJFnOpen5
import Derived.Test.YteblcdnhnckkaaaJFnOpen4
import Derived.Test.YteblcdnhnckkaaaJFnOpen6
namespace Go.Proofs.Yteblcdnhnckkaaa
open Go.RowKit
set_option maxHeartbeats 16000000
set_option maxRecDepth 100000
set_option linter.unusedSimpArgs false
set_option linter.unusedVariables false
theorem l01New_e(code:List Int)(hm:code.length≤1048576):GX Try.prog 66 [.p (.lst 5 1 (rowsOf encU8 code))] [] (fun x ob=>∃h,x=.ptr 31 0 0∧ob=[(31,.box 160 none [.p (.lst 5 1 (rowsOf encU8 code)),int ((0:Nat):Int),int h])]):=by
 refine GX.intro (rs:=[.tmp 2]) Try.func66 rfl Try.ntmps66 (Nat.le_of_ble_eq_true rfl) ⟨rfl,trivial⟩ ?_
 intro L O w0
 refine sL<|laV Z<|nA<|lmL Z<|lnI ty.sl56 Z ?_
 refine lhI rfl ⟨rfl,fits_i64 (by rw[length_rowsOf];unfold i64;omega)⟩<|laI Z<|nG<|aS<|sL<|laI Z<|nG<|aB ?_
 refine aW [0,2] [] (D:=Nat×Int) (fun d=>[(4,int (d.1:Int)),(3,int d.2)]) (fun d=>[]) (fun d=>d.1≤code.length) (fun d=>code.length-d.1) ((0,_)) (Nat.zero_le _) ⟨rfl,rfl,trivial⟩ trivial ?_
 intro ⟨j,q⟩ hI
 replace hI:j≤code.length:=hI
 refine aS<|sL<|lmI Z<|lmL Z<|lnI ty.sl56 Z<|lbB Z<|lmB Z ?_
 refine AL.bool (t:=12) rfl ?_ ?_
 ·intro h1
  refine lmI Z<|lbB Z<|lkB Z<|nG ?_
  refine AW.cond rfl ?_ ?_
  ·intro h2
   refine aK<|gT<|aS<|aB<|aL<|lmI Z<|lq (rd (x:=vI _ _) (rd_val Z Z Z (run_mulw Z) Z) Z)<|lmL Z<|lmI Z ?_
   have hj:j<code.length:=by have h:=h1;rw[length_rowsOf]at h;simp only[decide_eq_true_eq,Bool.and_eq_true]at h;omega
   refine li j ty.el56 Z (row_map hj)<|lrI ty.kd5 Z<|lq (rd (x:=vI _ _) (rd_conv Z ty.ik5 ty.ik3 Z) Z)<|lq (rd (x:=vI _ _) (rd_val Z Z Z (run_addw Z) Z) Z)<|lq (rd (x:=vI _ _) (rd_val Z Z Z (run_addw Z) Z) Z)<|lq (rd (x:=vI _ _) (rd_val Z Z Z (run_and Z) Z) Z)<|laI Z<|lN<|gB<|gT<|aL<|lmI Z<|lgI Z<|laI Z<|nG ?_
   refine⟨(j+1,_),hj,by show code.length-(j+1)<code.length-j;omega,⟨(iq rfl),rfl,trivial⟩,trivial,rfl,rfl⟩
  ·intro h2
   refine aE<|eT<|eT<|eB<|gA<|lmL Z<|lmI Z<|lT [2,28,29] [] ?_
   refine lq (rd (x:=.agg [vL _ _ _,vI _ _,vI _ _]) (rd_build Z ty.sa160 Z Z Z) Z)<|lst (zX 31 Z) Z<|laP Z<|nG<|aR ?_
   refine end_xret (.ptr 31 0 0) [(31,.box 160 none [.p (.lst 5 1 (rowsOf encU8 code)),int ((0:Nat):Int),int q])] ?_ rfl ⟨rfl,trivial⟩
   exact⟨_,rfl,rfl⟩
 ·intro h1
  refine lno Z<|lno Z<|lkZ Z<|nG<|aN Z<|aE<|eT<|eT<|eB<|gA<|lmL Z<|lmI Z<|lq (rd (x:=.agg [vL _ _ _,vI _ _,vI _ _]) (rd_build Z ty.sa160 Z Z Z) Z)<|lst (zX 31 Z) Z<|laP Z<|nG<|aR ?_
  refine end_xret (.ptr 31 0 0) [(31,.box 160 none [.p (.lst 5 1 (rowsOf encU8 code)),int ((0:Nat):Int),int q])] ?_ rfl ⟨rfl,trivial⟩
  exact⟨_,rfl,rfl⟩
theorem l01Byte_e(g:Value)(code:List Int)(i:Nat)(h:Int)(hc:CurOk code i):GX Try.prog 115 [.ptr 0 0 0] [(0,curO g code i h)] (DrR g code (DrI fun n=>0≤n∧n≤255)):=by
 refine GX.intro (rs:=[.tmp 2]) Try.func115 rfl Try.ntmps115 (Nat.le_of_ble_eq_true rfl) ⟨rfl,trivial⟩ ?_
 intro L O w0
 refine sL<|laI Z<|nA<|lmP Z<|lmP Z<|lc Z<|lf 2 ty.F160_2 Z<|loI ty.kd3 Z<|lq (rd (x:=vI _ _) (rd_val Z Z Z (run_mulw Z) Z) Z)<|lq (rd (x:=vI _ _) (rd_val Z Z Z (run_addw Z) Z) Z)<|lc Z<|lf 2 ty.F160_2 Z<|lst (zB 0 ty.co3 ty.inf3 Z) Z<|nG<|aS<|aF []<|pq 0 (qmP Z)<|pq 1 (qc Z)<|pq 2 (qf 2 ty.F160_2 Z)<|sq 3 (roI ty.kd3 Z) ?_
 refine sq 4 (rhI rfl ⟨rfl,by decide,by decide⟩)<|vq 5 (rmP rfl)<|vq 6 (rc rfl)<|vq 7 (rf 2 ty.F160_2 rfl)<|vq 8 (roI ty.kd3 rfl) ?_
 refine vq 9 (rhI rfl ⟨rfl,by decide,by decide⟩)<|vq 10 (rd (x:=vI _ _) (rd_val rfl rfl rfl (run_xor rfl) rfl) rfl)<|vq 11 (rd (x:=vI _ _) (rd_val rfl rfl rfl (run_and rfl) rfl) rfl)<|vq 12 (raI rfl)<|fD<|gT<|aS<|aS<|aF []<|pq 0 (qmP rfl)<|pq 1 (qc rfl)<|pq 2 (qf 1 ty.F160_1 rfl)<|sq 3 (roI ty.kd3 rfl)<|vq 4 (rmP rfl)<|vq 5 (rc rfl)<|fT [0,2,3,28,30] [0] ?_
 refine vq 6 (rf 0 ty.F160_0 Z)<|vq 7 (roL ty.kd56 Z)<|vq 8 (rnI ty.sl56 Z)<|vq 9 (rbB Z)<|fD<|gT ?_
 refine AW.cond rfl ?_ ?_
 ·intro h1
  refine aS<|aF []<|pq 0 (qmX (vI _ _) Z)<|pq 1 (qmP Z)<|pq 2 (qc Z)<|pq 3 (qf 0 ty.F160_0 Z)<|sq 4 (roL ty.kd56 Z)<|vq 5 (rmP Z)<|vq 6 (rc Z)<|vq 7 (rf 1 ty.F160_1 Z)<|vq 8 (roI ty.kd3 Z) ?_
  have hi:i<code.length:=by have h:=h1;rw[length_rowsOf]at h;simp only[decide_eq_true_eq]at h;omega
  refine vq 9 (ri i ty.el56 Z (row_map hi))<|vq 10 (rrI ty.kd5 Z)<|vq 11 (rd (x:=vI _ _) (rd_conv Z ty.ik5 ty.ik3 Z) Z)<|vq 12 (rd (x:=vI _ _) (rd_val Z Z Z (run_addw Z) Z) Z)<|vq 13 (rd (x:=vI _ _) (rd_val Z Z Z (run_and Z) Z) Z)<|vq 14 (raI Z)<|fD<|gT<|aL<|lmP Z<|lmP Z<|lc Z<|lf 1 ty.F160_1 Z<|loI ty.kd3 Z ?_
  refine lhI rfl ⟨rfl,fits_i64 (by unfold i64;have:=hc.2;omega)⟩<|lc Z<|lf 1 ty.F160_1 Z<|lst (zB 0 ty.co3 ty.inf3 rfl) Z<|lT [2,3] [0] ?_
  refine nA<|lmI Z<|laI Z<|nG<|aR ?_
  refine end_xret (int _) [(0,curO g code (i+1) _)] ?_ rfl ⟨(congrArg (fun z:Int=>AO.box 160 (some g) [.p (.lst 5 1 (rowsOf encU8 code)),int z,int _]) (by omega)),trivial⟩
  exact⟨i+1,_,⟨hi,hc.2⟩,⟨_,and_bd _ 255 (by decide),rfl⟩,rfl⟩
 ·intro h1
  refine aK<|gA<|lmI Z<|laI Z<|nG<|aR ?_
  refine end_xret (int _) [(0,curO g code i _)] ?_ rfl ⟨rfl,trivial⟩
  exact⟨i,_,hc,⟨_,and_bd _ 255 (by decide),rfl⟩,rfl⟩
theorem l01Below_e(g:Value)(code:List Int)(i:Nat)(h m:Int)(hc:CurOk code i):GX Try.prog 69 [.ptr 0 0 0,int m] [(0,curO g code i h)] (DrR g code (DrI fun n=>0≤n∧(n<m∨m≤0∧n=0))):=by
 refine GX.intro (rs:=[.tmp 4]) Try.func69 rfl Try.ntmps69 (Nat.le_of_ble_eq_true rfl) ⟨rfl,trivial⟩ ?_
 intro L O w0
 refine sL<|laI Z<|nG<|aS<|sL<|lmI Z<|lbB Z<|nG ?_
 refine AW.cond rfl ?_ ?_
 ·intro h1
  refine sL<|laI Z<|nG<|aR<|rT ?_
  have hm0:m≤0:=by have h:=h1;simpa using h
  refine end_xret (int 0) [(0,curO g code i h)] ?_ rfl ⟨rfl,trivial⟩
  exact⟨i,h,hc,⟨0,⟨by omega,.inr ⟨hm0,rfl⟩⟩,rfl⟩,rfl⟩
 ·intro h1
  refine aK<|gT<|aS<|sL<|lmI Z<|lbB Z<|nG ?_
  refine AW.cond rfl ?_ ?_
  ·intro h2
   refine sL<|lmP Z ?_
   refine lX [(0,0)] [] [0] Try.func115 (l01Byte_e g code _ _ hc) (⟨⟨0,rfl,rfl⟩,trivial⟩) (pins_cur) Z ?_
   intro xz1 oz1 hz1
   obtain⟨i1,q1,hc1,⟨n1,⟨na1,nb1⟩,rfl⟩,rfl⟩:=hz1
   refine lmI rfl ?_
   refine lhI rfl ⟨rfl,by have h:=h1;simp only[decide_eq_false_iff_not]at h;omega⟩<|laI Z<|nG<|aR<|rT ?_
   have hm1:1≤m:=by have h:=h1;simp only[decide_eq_false_iff_not]at h;omega
   obtain⟨z1,z2⟩:=tmod_bd (n:=n1) (m:=m) (by omega) hm1
   refine end_xret (int (n1.tmod m)) [(0,curO g code i1 q1)] ?_ rfl ⟨rfl,trivial⟩
   exact⟨i1,q1,hc1,⟨_,⟨z1,.inl z2⟩,rfl⟩,rfl⟩
  ·intro h2
   refine aK<|gA<|lmP Z ?_
   refine lX [(0,0)] [] [0] Try.func115 (l01Byte_e g code _ _ hc) (⟨⟨0,rfl,rfl⟩,trivial⟩) (pins_cur) Z ?_
   intro xz2 oz2 hz2
   obtain⟨i2,q2,hc2,⟨n2,⟨na2,nb2⟩,rfl⟩,rfl⟩:=hz2
   refine laI Z<|nA<|lmP Z ?_
   refine lX [(0,0)] [] [0] Try.func115 (l01Byte_e g code _ _ hc2) (⟨⟨0,rfl,rfl⟩,trivial⟩) (pins_cur) Z ?_
   intro xz3 oz3 hz3
   obtain⟨i3,q3,hc3,⟨n3,⟨na3,nb3⟩,rfl⟩,rfl⟩:=hz3
   refine lT [0,1,4,5,20] [0] ?_
   refine laI Z<|nA<|lmP Z ?_
   refine lX [(0,0)] [] [0] Try.func115 (l01Byte_e g code _ _ hc3) (⟨⟨0,rfl,rfl⟩,trivial⟩) (pins_cur) Z ?_
   intro xz4 oz4 hz4
   obtain⟨i4,q4,hc4,⟨n4,⟨na4,nb4⟩,rfl⟩,rfl⟩:=hz4
   refine laI Z<|nA<|lmP Z ?_
   refine lX [(0,0)] [] [0] Try.func115 (l01Byte_e g code _ _ hc4) (⟨⟨0,rfl,rfl⟩,trivial⟩) (pins_cur) Z ?_
   intro xz5 oz5 hz5
   obtain⟨i5,q5,hc5,⟨n5,⟨na5,nb5⟩,rfl⟩,rfl⟩:=hz5
   refine laI Z<|nA<|lmI Z<|lgI Z<|lmI Z<|lgI Z<|lgI Z<|lmI Z<|lgI Z<|lgI Z<|lmI Z<|lgI Z<|lmI Z ?_
   refine lhI rfl ⟨rfl,by have h:=h1;simp only[decide_eq_false_iff_not]at h;omega⟩<|laI Z<|nG<|aR ?_
   have hm1:1≤m:=by have h:=h1;simp only[decide_eq_false_iff_not]at h;omega
   obtain⟨z1,z2⟩:=tmod_bd (n:=(n2*16777216+n3*65536+n4*256+n5)) (m:=m) (by omega) hm1
   refine end_xret (int ((n2*16777216+n3*65536+n4*256+n5).tmod m)) [(0,curO g code i5 q5)] ?_ rfl ⟨rfl,trivial⟩
   exact⟨i5,q5,hc5,⟨_,⟨z1,.inl z2⟩,rfl⟩,rfl⟩
theorem shl_bd{n:Int}(h0:0≤n)(h1:n<51):0<1*(2:Int) ^ n.toNat∧1*(2:Int) ^ n.toNat≤1125899906842624:=by
 obtain⟨k,rfl⟩:=Int.eq_ofNat_of_zero_le h0
 have hk:k<51:=by omega
 have e:((k:Int)).toNat=k:=Int.toNat_natCast k
 rw[e,Int.one_mul]
 refine⟨Int.pow_pos (by decide),?_⟩
 have h2:(2:Nat) ^ k≤2 ^ 50:=Nat.pow_le_pow_right (by decide) (by omega)
 have h3:((2 ^ k:Nat):Int)≤((2 ^ 50:Nat):Int):=Int.ofNat_le.2 h2
 rw[Int.natCast_pow]at h3
 have h4:((2 ^ 50:Nat):Int)=1125899906842624:=by decide
 omega
theorem l01Raw_e(g:Value)(code:List Int)(i:Nat)(h:Int)(hc:CurOk code i):GX Try.prog 117 [.ptr 0 0 0] [(0,curO g code i h)] (DrR g code (DrI i64)):=by
 refine GX.intro (rs:=[.tmp 2]) Try.func117 rfl Try.ntmps117 (Nat.le_of_ble_eq_true rfl) ⟨rfl,trivial⟩ ?_
 intro L O w0
 refine sL<|laI Z<|nA<|lmP Z ?_
 refine lX [(0,0)] [] [0] Try.func69 (l01Below_e g code _ _ _ hc) (⟨⟨0,rfl,rfl⟩,trivial⟩) (pins_cur) Z ?_
 intro xz1 oz1 hz1
 obtain⟨i1,q1,hc1,⟨n1,⟨na1,nb1⟩,rfl⟩,rfl⟩:=hz1
 refine laI Z<|nG<|aS<|sL<|lmI Z<|lbB Z<|nG ?_
 refine AW.cond rfl ?_ ?_
 ·intro h1
  refine sL<|lmP Z ?_
  refine lX [(0,0)] [] [0] Try.func69 (l01Below_e g code _ _ _ hc1) (⟨⟨0,rfl,rfl⟩,trivial⟩) (pins_cur) Z ?_
  intro xz2 oz2 hz2
  obtain⟨i2,q2,hc2,⟨n2,⟨na2,nb2⟩,rfl⟩,rfl⟩:=hz2
  refine lgI Z<|laI Z<|nG<|aR<|rT ?_
  refine end_xret (int _) [(0,curO g code i2 q2)] ?_ rfl ⟨rfl,trivial⟩
  exact⟨i2,q2,hc2,⟨_,by unfold i64;omega,rfl⟩,rfl⟩
 ·intro h1
  refine aK<|gT<|aS<|sL<|lmI Z<|lbB Z<|nG ?_
  refine AW.cond rfl ?_ ?_
  ·intro h2
   refine sL<|lmP Z ?_
   refine lX [(0,0)] [] [0] Try.func69 (l01Below_e g code _ _ _ hc1) (⟨⟨0,rfl,rfl⟩,trivial⟩) (pins_cur) Z ?_
   intro xz3 oz3 hz3
   obtain⟨i3,q3,hc3,⟨n3,⟨na3,nb3⟩,rfl⟩,rfl⟩:=hz3
   refine lT [0,2,3,14] [0] ?_
   refine lgI Z<|laI Z<|nG<|aR<|rT ?_
   refine end_xret (int _) [(0,curO g code i3 q3)] ?_ rfl ⟨rfl,trivial⟩
   exact⟨i3,q3,hc3,⟨_,by unfold i64;omega,rfl⟩,rfl⟩
  ·intro h2
   refine aK<|gT<|aS<|sL<|lmI Z<|lbB Z<|nG ?_
   refine AW.cond rfl ?_ ?_
   ·intro h3
    refine sL<|lmP Z ?_
    refine lX [(0,0)] [] [0] Try.func69 (l01Below_e g code _ _ _ hc1) (⟨⟨0,rfl,rfl⟩,trivial⟩) (pins_cur) Z ?_
    intro xz4 oz4 hz4
    obtain⟨i4,q4,hc4,⟨n4,⟨na4,nb4⟩,rfl⟩,rfl⟩:=hz4
    refine lgI Z<|laI Z<|nG<|aR<|rT ?_
    refine end_xret (int _) [(0,curO g code i4 q4)] ?_ rfl ⟨rfl,trivial⟩
    exact⟨i4,q4,hc4,⟨_,by unfold i64;omega,rfl⟩,rfl⟩
   ·intro h3
    refine aK<|gT<|aS<|sL<|lmI Z<|lbB Z<|nG ?_
    refine AW.cond rfl ?_ ?_
    ·intro h4
     refine sL<|lmP Z ?_
     refine lX [(0,0)] [] [0] Try.func69 (l01Below_e g code _ _ _ hc1) (⟨⟨0,rfl,rfl⟩,trivial⟩) (pins_cur) Z ?_
     intro xz5 oz5 hz5
     obtain⟨i5,q5,hc5,⟨n5,⟨na5,nb5⟩,rfl⟩,rfl⟩:=hz5
     refine lgI Z<|laI Z<|nG<|aR<|rT ?_
     refine end_xret (int _) [(0,curO g code i5 q5)] ?_ rfl ⟨rfl,trivial⟩
     exact⟨i5,q5,hc5,⟨_,by unfold i64;omega,rfl⟩,rfl⟩
    ·intro h4
     refine aK<|gT<|aS<|sL<|lmI Z<|lbB Z<|nG ?_
     refine AW.cond rfl ?_ ?_
     ·intro h5
      refine sL<|lmP Z ?_
      refine lX [(0,0)] [] [0] Try.func69 (l01Below_e g code _ _ _ hc1) (⟨⟨0,rfl,rfl⟩,trivial⟩) (pins_cur) Z ?_
      intro xz6 oz6 hz6
      obtain⟨i6,q6,hc6,⟨n6,⟨na6,nb6⟩,rfl⟩,rfl⟩:=hz6
      refine lT [0,2,3,29] [0] ?_
      refine lgI Z<|laI Z<|nG<|aR<|rT ?_
      refine end_xret (int _) [(0,curO g code i6 q6)] ?_ rfl ⟨rfl,trivial⟩
      exact⟨i6,q6,hc6,⟨_,by unfold i64;omega,rfl⟩,rfl⟩
     ·intro h5
      refine aK<|gT<|aS<|sL<|lmI Z<|lbB Z<|nG ?_
      refine AW.cond rfl ?_ ?_
      ·intro h6
       refine sL<|lmP Z ?_
       refine lX [(0,0)] [] [0] Try.func69 (l01Below_e g code _ _ _ hc1) (⟨⟨0,rfl,rfl⟩,trivial⟩) (pins_cur) Z ?_
       intro xz7 oz7 hz7
       obtain⟨i7,q7,hc7,⟨n7,⟨na7,nb7⟩,rfl⟩,rfl⟩:=hz7
       refine lgI Z<|laI Z<|nG<|aR<|rT ?_
       refine end_xret (int _) [(0,curO g code i7 q7)] ?_ rfl ⟨rfl,trivial⟩
       exact⟨i7,q7,hc7,⟨_,by unfold i64;omega,rfl⟩,rfl⟩
      ·intro h6
       refine aK<|gT<|aS<|sL<|lmI Z<|lbB Z<|nG ?_
       refine AW.cond rfl ?_ ?_
       ·intro h7
        refine sL<|lmP Z ?_
        refine lX [(0,0)] [] [0] Try.func69 (l01Below_e g code _ _ _ hc1) (⟨⟨0,rfl,rfl⟩,trivial⟩) (pins_cur) Z ?_
        intro xz8 oz8 hz8
        obtain⟨i8,q8,hc8,⟨n8,⟨na8,nb8⟩,rfl⟩,rfl⟩:=hz8
        obtain⟨hs1,hs2⟩:=shl_bd (n:=n8) na8 (by omega)
        refine lhI rfl ⟨rfl,na8,by omega,by show IntKind.i64.wrap _=_;exact fits_i64 (by unfold i64;omega)⟩<|laI Z<|nG<|aR<|rT ?_
        refine end_xret (int _) [(0,curO g code i8 q8)] ?_ rfl ⟨rfl,trivial⟩
        exact⟨i8,q8,hc8,⟨_,by unfold i64;omega,rfl⟩,rfl⟩
       ·intro h7
        refine aK<|gA<|lmP Z ?_
        refine lX [(0,0)] [] [0] Try.func69 (l01Below_e g code _ _ _ hc1) (⟨⟨0,rfl,rfl⟩,trivial⟩) (pins_cur) Z ?_
        intro xz9 oz9 hz9
        obtain⟨i9,q9,hc9,⟨n9,⟨na9,nb9⟩,rfl⟩,rfl⟩:=hz9
        refine lT [0,2,42] [0] ?_
        refine lmP rfl ?_
        refine lX [(0,0)] [] [0] Try.func69 (l01Below_e g code _ _ _ hc9) (⟨⟨0,rfl,rfl⟩,trivial⟩) (pins_cur) Z ?_
        intro xz10 oz10 hz10
        obtain⟨i10,q10,hc10,⟨n10,⟨na10,nb10⟩,rfl⟩,rfl⟩:=hz10
        have hm1:0≤n9*n10:=Int.mul_nonneg na9 na10
        have hm2:n9*n10≤1000000*1000000:=Int.mul_le_mul (by omega) (by omega) na10 (by decide)
        refine lgI Z<|laI Z<|nG<|aR ?_
        refine end_xret (int _) [(0,curO g code i10 q10)] ?_ rfl ⟨rfl,trivial⟩
        exact⟨i10,q10,hc10,⟨_,by unfold i64;omega,rfl⟩,rfl⟩

def DrE:AV→Prop:=fun x=>∃e,wfEvent e∧x=evV e
abbrev evBx(T:Option Value)(a b c d e f:Int)(g:Bool):AO:=.box 40 T [int a,int b,int c,int d,int e,int f,boo g]
abbrev Ev7:=Int×Int×Int×Int×Int×Int×Bool
abbrev ev7(z:Ev7):Event:=⟨z.1,z.2.1,z.2.2.1,z.2.2.2.1,z.2.2.2.2.1,z.2.2.2.2.2.1,z.2.2.2.2.2.2⟩
theorem tmod4(x:Int):-3≤x.tmod 4∧x.tmod 4≤3:=by cases x<;>simp[Int.tmod]<;>omega
theorem l04Draw_e(g:Value)(code:List Int)(i:Nat)(h:Int)(hc:CurOk code i):GX Try.prog 114 [.ptr 0 0 0] [(0,curO g code i h)] (DrR g code DrE):=by
 refine GX.intro (rs:=[.cell 2 40 (some 7)]) Try.func114 rfl Try.ntmps114 (Nat.le_of_ble_eq_true rfl) ⟨rfl,rfl,ty.kd40,trivial⟩ ?_
 intro L O w0
 refine sL<|lst (zA 2002 ty.ze40 Z) Z<|nA<|lmP Z ?_
 refine lX [(0,0)] [] [0] Try.func69 (l01Below_e g code _ _ _ hc) (⟨⟨0,rfl,rfl⟩,trivial⟩) (pins_cur) Z ?_
 intro xz1 oz1 hz1
 obtain⟨i1,q1,hc1,⟨n1,⟨na1,nb1⟩,rfl⟩,rfl⟩:=hz1
 refine lgI Z<|laI Z<|nA<|lmI Z<|lq (rd (x:=.agg [vI _ _,vI _ _,vI _ _,vI _ _,vI _ _,vI _ _,vB false]) (rd_build Z ty.sa40 Z Z Z) Z)<|lst (zA 2004 ty.ze40 Z) Z<|lst (zB 2004 ty.co40 ty.inf40 Z) Z<|nA<|lmI Z<|lst (zC [(60,60)] [60] [] Try.func89 (shas_e _) (trivial) Z Z) Z<|laO Z<|nG ?_
 refine aJ [0,2,4,5] [60,2002] (D:=Nat×Int×Ev7) (fun d=>[]) (fun d=>[(0,curO g code d.1 d.2.1),(2004,evBx none d.2.2.1 d.2.2.2.1 d.2.2.2.2.1 d.2.2.2.2.2.1 d.2.2.2.2.2.2.1 d.2.2.2.2.2.2.2.1 d.2.2.2.2.2.2.2.2)]) (fun d=>CurOk code d.1∧wfEvent (ev7 d.2.2)) ?_ ?_
 ·refine sL<|lmO Z<|lq (rj 0 ty.el140 rfl (by show 0<6;decide))<|lq (rd (x:=vB _) (rd_load_arr rfl ty.kd4 rfl rfl rfl (rfl) rfl) rfl)<|nG ?_
  refine AW.cond rfl ?_ ?_
  ·intro h1
   refine aL<|lmP Z ?_
   refine lX [(0,0)] [] [0] Try.func69 (l01Below_e g code _ _ _ hc1) (⟨⟨0,rfl,rfl⟩,trivial⟩) (pins_cur) Z ?_
   intro xz2 oz2 hz2
   obtain⟨i2,q2,hc2,⟨n2,⟨na2,nb2⟩,rfl⟩,rfl⟩:=hz2
   refine lT [0,2,4,5,17] [0,60,2002,2004] ?_
   refine lgI Z<|lf 1 ty.F40_1 Z<|lst (zB 2004 ty.co3 ty.inf3 Z) Z<|nG ?_
   refine⟨(_,_,_,_,_,_,_,_,_),(by refine⟨by assumption,?_⟩;simp only[wfEvent,i64,ev7]at *;omega),trivial,⟨rfl,rfl,trivial⟩,rfl,rfl⟩
  ·intro h1
   refine aK<|gT ?_
   refine⟨(_,_,_,_,_,_,_,_,_),(by refine⟨by assumption,?_⟩;simp only[wfEvent,i64,ev7]at *;omega),trivial,⟨rfl,rfl,trivial⟩,rfl,rfl⟩
 ·intro ⟨iJ6,qJ6,ea6,eb6,ec6,ed6,ee6,ef6,eg6⟩ hJ6
  dsimp only
  obtain⟨hcJ6,hwJ6⟩:=hJ6
  replace hcJ6:CurOk code iJ6:=hcJ6
  unfold wfEvent i64 at hwJ6
  simp only[ev7]at hwJ6
  refine aJ [0,2,4,5] [60,2002] (D:=Nat×Int×Ev7) (fun d=>[]) (fun d=>[(0,curO g code d.1 d.2.1),(2004,evBx none d.2.2.1 d.2.2.2.1 d.2.2.2.2.1 d.2.2.2.2.2.1 d.2.2.2.2.2.2.1 d.2.2.2.2.2.2.2.1 d.2.2.2.2.2.2.2.2)]) (fun d=>CurOk code d.1∧wfEvent (ev7 d.2.2)) ?_ ?_
  ·refine sL<|lmO Z<|lq (rj 1 ty.el140 rfl (by show 1<6;decide))<|lq (rd (x:=vB _) (rd_load_arr rfl ty.kd4 rfl rfl rfl (rfl) rfl) rfl)<|nG ?_
   refine AW.cond rfl ?_ ?_
   ·intro h2
    refine aL<|lmP Z ?_
    refine lX [(0,0)] [] [0] Try.func69 (l01Below_e g code _ _ _ hcJ6) (⟨⟨0,rfl,rfl⟩,trivial⟩) (pins_cur) Z ?_
    intro xz3 oz3 hz3
    obtain⟨i3,q3,hc3,⟨n3,⟨na3,nb3⟩,rfl⟩,rfl⟩:=hz3
    refine lgI Z<|lf 2 ty.F40_2 Z<|lst (zB 2004 ty.co3 ty.inf3 Z) Z<|nG ?_
    refine⟨(_,_,_,_,_,_,_,_,_),(by refine⟨by assumption,?_⟩;simp only[wfEvent,i64,ev7]at *;omega),trivial,⟨rfl,rfl,trivial⟩,rfl,rfl⟩
   ·intro h2
    refine aK<|gT ?_
    refine⟨(_,_,_,_,_,_,_,_,_),(by refine⟨by assumption,?_⟩;simp only[wfEvent,i64,ev7]at *;omega),trivial,⟨rfl,rfl,trivial⟩,rfl,rfl⟩
  ·intro ⟨iJ8,qJ8,ea8,eb8,ec8,ed8,ee8,ef8,eg8⟩ hJ8
   dsimp only
   obtain⟨hcJ8,hwJ8⟩:=hJ8
   replace hcJ8:CurOk code iJ8:=hcJ8
   unfold wfEvent i64 at hwJ8
   simp only[ev7]at hwJ8
   refine aJ [0,2,4,5] [60,2002] (D:=Nat×Int×Ev7) (fun d=>[]) (fun d=>[(0,curO g code d.1 d.2.1),(2004,evBx none d.2.2.1 d.2.2.2.1 d.2.2.2.2.1 d.2.2.2.2.2.1 d.2.2.2.2.2.2.1 d.2.2.2.2.2.2.2.1 d.2.2.2.2.2.2.2.2)]) (fun d=>CurOk code d.1∧wfEvent (ev7 d.2.2)) ?_ ?_
   ·refine sL<|lmO Z<|lq (rj 2 ty.el140 rfl (by show 2<6;decide))<|lq (rd (x:=vB _) (rd_load_arr rfl ty.kd4 rfl rfl rfl (rfl) rfl) rfl)<|nG ?_
    refine AW.cond rfl ?_ ?_
    ·intro h3
     refine aG 8 [0]<|tq 0 (rf 2 ty.F40_2 Z)<|tq 1 (roI ty.kd3 Z)<|yq 2 (rmP Z) ?_
     refine AG.stx (i:=3) rfl (by kernel_rfl) (St.callX [(0,0)] [] [0] rfl (by intro s hs;cases hs;decide) rfl Try.func69 rfl rfl (l01Below_e g code _ _ _ hcJ8) ⟨rfl,rfl,rfl⟩ (⟨⟨0,rfl,rfl⟩,trivial⟩) (pins_cur) rfl) (exK (l:=[0]) rfl rfl) rfl ?_
     rintro _ _ ⟨xz5,oz5,hz5,rfl,rfl⟩
     obtain⟨i5,q5,hc5,⟨n5,⟨na5,nb5⟩,rfl⟩,rfl⟩:=hz5
     refine yq 4 (rd (x:=vI _ _) (rd_val rfl rfl rfl (run_addw rfl) rfl) rfl) ?_
     refine yq 5 (rhI rfl ⟨rfl,by decide⟩) ?_
     have ht4:=tmod4 (IntKind.i64.wrap (ec8+n5))
     refine yq 6 (rgI rfl (by unfold i64;omega))<|yq 7 (rf 3 ty.F40_3 rfl)<|yl rfl (zB 2004 ty.co3 ty.inf3 rfl)<|gT ?_
     refine⟨(_,_,_,_,_,_,_,_,_),(by refine⟨by assumption,?_⟩;simp only[wfEvent,i64,ev7]at *;omega),trivial,⟨rfl,rfl,trivial⟩,rfl,rfl⟩
    ·intro h3
     refine aK<|gT ?_
     refine⟨(_,_,_,_,_,_,_,_,_),(by refine⟨by assumption,?_⟩;simp only[wfEvent,i64,ev7]at *;omega),trivial,⟨rfl,rfl,trivial⟩,rfl,rfl⟩
   ·intro ⟨iJ10,qJ10,ea10,eb10,ec10,ed10,ee10,ef10,eg10⟩ hJ10
    dsimp only
    obtain⟨hcJ10,hwJ10⟩:=hJ10
    replace hcJ10:CurOk code iJ10:=hcJ10
    unfold wfEvent i64 at hwJ10
    simp only[ev7]at hwJ10
    refine aJ [0,2,4,5] [60,2002] (D:=Nat×Int×Ev7) (fun d=>[]) (fun d=>[(0,curO g code d.1 d.2.1),(2004,evBx none d.2.2.1 d.2.2.2.1 d.2.2.2.2.1 d.2.2.2.2.2.1 d.2.2.2.2.2.2.1 d.2.2.2.2.2.2.2.1 d.2.2.2.2.2.2.2.2)]) (fun d=>CurOk code d.1∧wfEvent (ev7 d.2.2)) ?_ ?_
    ·refine sL<|lmO Z<|lq (rj 3 ty.el140 rfl (by show 3<6;decide))<|lq (rd (x:=vB _) (rd_load_arr rfl ty.kd4 rfl rfl rfl (rfl) rfl) rfl)<|nG ?_
     refine AW.cond rfl ?_ ?_
     ·intro h4
      refine aL<|lmP Z ?_
      refine lX [(0,0)] [] [0] Try.func69 (l01Below_e g code _ _ _ hcJ10) (⟨⟨0,rfl,rfl⟩,trivial⟩) (pins_cur) Z ?_
      intro xz6 oz6 hz6
      obtain⟨i6,q6,hc6,⟨n6,⟨na6,nb6⟩,rfl⟩,rfl⟩:=hz6
      refine lgI Z<|lgI Z<|lf 4 ty.F40_4 Z<|lst (zB 2004 ty.co3 ty.inf3 Z) Z<|nG ?_
      refine⟨(_,_,_,_,_,_,_,_,_),(by refine⟨by assumption,?_⟩;simp only[wfEvent,i64,ev7]at *;omega),trivial,⟨rfl,rfl,trivial⟩,rfl,rfl⟩
     ·intro h4
      refine aK<|gT ?_
      refine⟨(_,_,_,_,_,_,_,_,_),(by refine⟨by assumption,?_⟩;simp only[wfEvent,i64,ev7]at *;omega),trivial,⟨rfl,rfl,trivial⟩,rfl,rfl⟩
    ·intro ⟨iJ12,qJ12,ea12,eb12,ec12,ed12,ee12,ef12,eg12⟩ hJ12
     dsimp only
     obtain⟨hcJ12,hwJ12⟩:=hJ12
     replace hcJ12:CurOk code iJ12:=hcJ12
     unfold wfEvent i64 at hwJ12
     simp only[ev7]at hwJ12
     refine aJ [0,2,4,5] [60,2002] (D:=Nat×Int×Ev7) (fun d=>[]) (fun d=>[(0,curO g code d.1 d.2.1),(2004,evBx none d.2.2.1 d.2.2.2.1 d.2.2.2.2.1 d.2.2.2.2.2.1 d.2.2.2.2.2.2.1 d.2.2.2.2.2.2.2.1 d.2.2.2.2.2.2.2.2)]) (fun d=>CurOk code d.1∧wfEvent (ev7 d.2.2)) ?_ ?_
     ·refine sL<|lmO Z<|lq (rj 4 ty.el140 rfl (by show 4<6;decide))<|lq (rd (x:=vB _) (rd_load_arr rfl ty.kd4 rfl rfl rfl (rfl) rfl) rfl)<|nG ?_
      refine AW.cond rfl ?_ ?_
      ·intro h5
       refine aL<|lmP Z ?_
       refine lX [(0,0)] [] [0] Try.func69 (l01Below_e g code _ _ _ hcJ12) (⟨⟨0,rfl,rfl⟩,trivial⟩) (pins_cur) Z ?_
       intro xz7 oz7 hz7
       obtain⟨i7,q7,hc7,⟨n7,⟨na7,nb7⟩,rfl⟩,rfl⟩:=hz7
       refine lgI Z<|lf 5 ty.F40_5 Z<|lst (zB 2004 ty.co3 ty.inf3 Z) Z<|nG ?_
       refine⟨(_,_,_,_,_,_,_,_,_),(by refine⟨by assumption,?_⟩;simp only[wfEvent,i64,ev7]at *;omega),trivial,⟨rfl,rfl,trivial⟩,rfl,rfl⟩
      ·intro h5
       refine aK<|gT ?_
       refine⟨(_,_,_,_,_,_,_,_,_),(by refine⟨by assumption,?_⟩;simp only[wfEvent,i64,ev7]at *;omega),trivial,⟨rfl,rfl,trivial⟩,rfl,rfl⟩
     ·intro ⟨iJ14,qJ14,ea14,eb14,ec14,ed14,ee14,ef14,eg14⟩ hJ14
      dsimp only
      obtain⟨hcJ14,hwJ14⟩:=hJ14
      replace hcJ14:CurOk code iJ14:=hcJ14
      unfold wfEvent i64 at hwJ14
      simp only[ev7]at hwJ14
      refine aJ [0,2,4,5] [60,2002] (D:=Nat×Int×Ev7) (fun d=>[]) (fun d=>[(0,curO g code d.1 d.2.1),(2004,evBx none d.2.2.1 d.2.2.2.1 d.2.2.2.2.1 d.2.2.2.2.2.1 d.2.2.2.2.2.2.1 d.2.2.2.2.2.2.2.1 d.2.2.2.2.2.2.2.2)]) (fun d=>CurOk code d.1∧wfEvent (ev7 d.2.2)) ?_ ?_
      ·refine aL<|lmO Z<|lq (rj 5 ty.el140 rfl (by show 5<6;decide))<|lq (rd (x:=vB _) (rd_load_arr rfl ty.kd4 rfl rfl rfl (rfl) rfl) rfl)<|lmB rfl ?_
       refine AL.bool (t:=56) rfl ?_ ?_
       ·intro h6
        refine lmP rfl ?_
        refine lX [(0,0)] [] [0] Try.func69 (l01Below_e g code _ _ _ hcJ14) (⟨⟨0,rfl,rfl⟩,trivial⟩) (pins_cur) Z ?_
        intro xz8 oz8 hz8
        obtain⟨i8,q8,hc8,⟨n8,⟨na8,nb8⟩,rfl⟩,rfl⟩:=hz8
        refine lbB Z<|lkB Z<|lf 6 ty.F40_6 Z<|lst (zB 2004 ty.co4 ty.inf4 Z) Z<|nG ?_
        refine⟨(_,_,_,_,_,_,_,_,_),(by refine⟨by assumption,?_⟩;simp only[wfEvent,i64,ev7]at *;omega),trivial,⟨rfl,rfl,trivial⟩,rfl,rfl⟩
       ·intro h6
        refine lno Z<|lno Z<|lno Z<|lkZ Z<|lf 6 ty.F40_6 Z<|lst (zB 2004 ty.co4 ty.inf4 Z) Z<|nG ?_
        refine⟨(_,_,_,_,_,_,_,_,_),(by refine⟨by assumption,?_⟩;simp only[wfEvent,i64,ev7]at *;omega),trivial,⟨rfl,rfl,trivial⟩,rfl,rfl⟩
      ·intro ⟨iJ15,qJ15,ea15,eb15,ec15,ed15,ee15,ef15,eg15⟩ hJ15
       dsimp only
       obtain⟨hcJ15,hwJ15⟩:=hJ15
       replace hcJ15:CurOk code iJ15:=hcJ15
       unfold wfEvent i64 at hwJ15
       simp only[ev7]at hwJ15
       refine aJ [2,4] [60,2002] (D:=Nat×Int×Ev7) (fun d=>[]) (fun d=>[(0,curO g code d.1 d.2.1),(2004,evBx none d.2.2.1 d.2.2.2.1 d.2.2.2.2.1 d.2.2.2.2.2.1 d.2.2.2.2.2.2.1 d.2.2.2.2.2.2.2.1 d.2.2.2.2.2.2.2.2)]) (fun d=>CurOk code d.1∧wfEvent (ev7 d.2.2)) ?_ ?_
       ·refine sL<|lmP Z ?_
        refine lX [(0,0)] [] [0] Try.func69 (l01Below_e g code _ _ _ hcJ15) (⟨⟨0,rfl,rfl⟩,trivial⟩) (pins_cur) Z ?_
        intro xz9 oz9 hz9
        obtain⟨i9,q9,hc9,⟨n9,⟨na9,nb9⟩,rfl⟩,rfl⟩:=hz9
        refine lbB Z<|lmB Z ?_
        refine AL.bool (t:=65) rfl ?_ ?_
        ·intro h7
         refine lmO Z<|lq (rj 3 ty.el140 rfl (by show 3<6;decide))<|lq (rd (x:=vB _) (rd_load_arr rfl ty.kd4 rfl rfl rfl (rfl) rfl) rfl)<|lkB Z<|nG ?_
         refine AW.cond rfl ?_ ?_
         ·intro h8
          refine aL<|lmP Z ?_
          refine lX [(0,0)] [] [0] Try.func69 (l01Below_e g code _ _ _ hc9) (⟨⟨0,rfl,rfl⟩,trivial⟩) (pins_cur) Z ?_
          intro xz10 oz10 hz10
          obtain⟨i10,q10,hc10,⟨n10,⟨na10,nb10⟩,rfl⟩,rfl⟩:=hz10
          refine lgI Z<|lf 4 ty.F40_4 Z<|lst (zB 2004 ty.co3 ty.inf3 Z) Z<|nG ?_
          refine⟨(_,_,_,_,_,_,_,_,_),(by refine⟨by assumption,?_⟩;simp only[wfEvent,i64,ev7]at *;omega),trivial,⟨rfl,rfl,trivial⟩,rfl,rfl⟩
         ·intro h8
          refine aK<|gT ?_
          refine⟨(_,_,_,_,_,_,_,_,_),(by refine⟨by assumption,?_⟩;simp only[wfEvent,i64,ev7]at *;omega),trivial,⟨rfl,rfl,trivial⟩,rfl,rfl⟩
        ·intro h7
         refine lno Z<|lno Z<|lno Z<|lkZ Z<|nG<|aN Z<|aK<|gT ?_
         refine⟨(_,_,_,_,_,_,_,_,_),(by refine⟨by assumption,?_⟩;simp only[wfEvent,i64,ev7]at *;omega),trivial,⟨rfl,rfl,trivial⟩,rfl,rfl⟩
       ·intro ⟨iJ17,qJ17,ea17,eb17,ec17,ed17,ee17,ef17,eg17⟩ hJ17
        dsimp only
        obtain⟨hcJ17,hwJ17⟩:=hJ17
        replace hcJ17:CurOk code iJ17:=hcJ17
        unfold wfEvent i64 at hwJ17
        simp only[ev7]at hwJ17
        refine sL<|loX (.agg [vI _ _,vI _ _,vI _ _,vI _ _,vI _ _,vI _ _,vB _]) ty.kd40 Z<|lst (zB 2002 ty.co40 ty.inf40 Z) Z<|nG<|aR ?_
        refine end_xret (evV ⟨_,_,_,_,_,_,_⟩) [(0,curO g code _ _)] ?_ rfl ⟨rfl,trivial⟩
        exact⟨_,_,by assumption,⟨_,by simp only[wfEvent,i64]at *;omega,rfl⟩,rfl⟩

def DrX(g:Value)(code:List Int)(R:AV→List (Nat×AO)→Prop):AV→List (Nat×AO)→Prop:=fun x ob=>∃i h ob2,CurOk code i∧R x ob2∧ob=(0,curO g code i h)::ob2
theorem pins_curX{g:Value}{code:List Int}{i:Nat}{h:Int}{R:AV→List (Nat×AO)→Prop}:∀x ob1,DrX g code R x ob1→pins [(0,curO g code i h)] ob1 [0]:=fun x ob1 ⟨_,_,_,_,_,e⟩=>by
 subst e
 exact⟨stays.box (Eq.refl 3),trivial⟩
def EvsOk(m:Int)(es:List Event):Prop:=(∀e∈es,wfEvent e)∧(es.length:Int)≤m
theorem EvsOk.take{m:Int}{es:List Event}(h:EvsOk m es)(k:Nat):EvsOk m (es.take k):=⟨fun e he=>h.1 e (List.mem_of_mem_take he),by have:=h.2;rw[List.length_take];omega⟩
theorem EvsOk.add{m:Int}{es:List Event}(h:EvsOk m es){e:Event}(he:wfEvent e):EvsOk (m+1) (es++[e]):=⟨fun x hx=>by
 rcases List.mem_append.1 hx with q|q
 ·exact h.1 x q
 ·rw[List.mem_singleton.1 q];exact he,by have:=h.2;simp;omega⟩
theorem EvsOk.mono{m n:Int}{es:List Event}(h:EvsOk m es)(hmn:m≤n):EvsOk n es:=⟨h.1,Int.le_trans h.2 hmn⟩

section
variable {P:Program}{L O:Nat→Prop}{w0:World}{N:Nat}{Q:AQ}{c:Code}{τ:Nat→AV}{H:Nat→AO}
theorem RR.reRow{ρ:Nat→Value}{fp:Nat→List Nat}{a:Act}{w:World}(h:RR L O w0 N τ H ρ fp a w)(id:Nat){e:Pin}{sz:Nat}{rows rows':List (List PV)}(hH:H id=.arr e sz rows)(hl:rows'.length=rows.length)(hr:∀ {xs fr},RWR w false sz rows xs fr→RWR w false sz rows' xs fr) :
 ∃ρ fp,RR L O w0 N τ (upd H id (.arr e sz rows')) ρ fp a w:=
 ⟨_,_,h.turn (id:=id) (o':=.arr e sz rows') (f':=fp id) h.chg (Nat.le_refl _) (fun _ _ _=>rfl) (fun _=>by rw[hH];exact⟨rfl,hl,rfl⟩) (fun E=>by
   have hob:=h.ob id
   rw[hH]at hob
   obtain⟨xs,fr,b1,b2,b3,b4,b5⟩:=hob
   exact⟨xs,fr,hr b1,fun b hb=>(E.block b (RWR.lt rows b1 b hb) (b2 b hb)).2,by rw[hl];exact b3,b4,b5⟩) (h.own id) (fun j hj b hb=>h.dj id j (Ne.symm hj) b hb)⟩
theorem AW.reRow(id:Nat){e:Pin}{sz:Nat}{rows rows':List (List PV)}(hH:H id=.arr e sz rows)(hl:rows'.length=rows.length)(hr:∀ {w:World} {xs fr},RWR w false sz rows xs fr→RWR w false sz rows' xs fr)(hK:AW P L O w0 N c τ (upd H id (.arr e sz rows')) Q):AW P L O w0 N c τ H Q:=fun ρ fp a w h=>by
 obtain⟨ρ',fp',q⟩:=h.reRow id hH hl hr
 exact hK ρ' fp' a w q
end
theorem nilRow{e:TypeId}{sz:Nat}{w:World}:∀(n:Nat) {xs:List Value} {fr:List Nat},RWR w false 1 (List.replicate n [PV.v (.slice none 0 0)]) xs fr→RWR w false 1 (List.replicate n [PV.lst e sz []]) xs fr
 |0,xs,fr,h=>h
 |n+1,xs,fr,h=>by
  rw[List.replicate_succ,RWR]at *
  obtain⟨h1,c,r,f1,f2,rfl,rfl,h2,h3⟩:=h
  refine⟨rfl,c,r,f1,f2,rfl,rfl,?_,nilRow n h3⟩
  rw[RWL]at *
  obtain⟨c0,r0,g1,g2,rfl,rfl,k1,k2⟩:=h2
  refine⟨c0,r0,g1,g2,rfl,rfl,?_,k2⟩
  rw[RW]at *
  obtain⟨rfl,rfl,_⟩:=k1
  refine⟨[],[],[],by rw[RWR];exact⟨rfl,rfl⟩,?_,rfl⟩
  unfold SlAt
  simp only[Bool.false_eq_true,if_false]
  exact⟨none,0,rfl,by simp,by simp[maxLen],.inl ⟨rfl,trivial⟩⟩

def DrY(m:Nat):AV→Prop:=fun x=>∃b,BytesOk b∧b.length≤m∧x=byV b
def DrS:AV→Prop:=fun x=>∃q,secOk q=true∧BytesOk q.body∧x=secV q
def DrD:AV→List (Nat×AO)→Prop:=fun x ob2=>∃d,diskOk d=true∧DkB d∧x=oDisk∧ob2=obF d
def DrD2:AV→List (Nat×AO)→Prop:=fun x ob2=>∃d,DkB d∧x=oDisk∧ob2=obF d
abbrev newD(n:Nat):Disk:=⟨List.replicate n ⟨[]⟩,[]⟩
theorem newD_b(n:Nat):DkB (newD n):=⟨(fun c hc=>by rw[(List.mem_replicate.1 hc).2];exact .nil),(fun w hw=>by cases hw)⟩
theorem newD_ok{n:Nat}(h1:1≤n)(h2:n≤600):diskOk (newD n)=true:=dok_y (by simp;omega) (List.all_eq_true.2 fun c hc=>by rw[(List.mem_replicate.1 hc).2];rfl) rfl
theorem syncs_mem:∀ {ws:List Write} {cs:List Cell} {c:Cell},c∈ws.foldl syncStep cs→c∈cs∨∃w∈ws,c.bytes=w.bytes
 |[],_,_,h=>.inl h
 |w::ws,cs,c,h=>by
  rw[List.foldl_cons]at h
  rcases syncs_mem h with q|⟨w',q1,q2⟩
  ·rcases List.mem_or_eq_of_mem_set q with z|rfl
   ·exact .inl z
   ·exact .inr ⟨w,by simp,rfl⟩
  ·exact .inr ⟨w',by simp[q1],q2⟩
theorem dkb_sync{d:Disk}(hb:DkB d):DkB (diskS d):=by
 unfold diskS
 split
 ·refine⟨fun c hc=>?_,fun w hw=>by cases hw⟩
  rcases syncs_mem hc with q|⟨w,q1,q2⟩
  ·exact hb.1 c q
  ·rw[q2];exact hb.2 w q1
 ·exact⟨(fun c hc=>by cases hc),(fun c hc=>by cases hc)⟩
theorem dkb_w{d:Disk}{i:Nat}{b:List Int}(hb:DkB d)(h:BytesOk b):DkB (diskW d i b):=⟨hb.1,fun w hw=>by
 rcases List.mem_append.1 hw with q|q
 ·exact hb.2 w q
 ·rw[List.mem_singleton.1 q];exact h⟩
theorem full_b{b:List Int}(h:BytesOk b):BytesOk (fullB b):=by
 unfold fullB
 split
 ·exact .zero 128
 ·exact h
theorem crash_inv{keep:List Int}:∀(ws:List Write) (k:Nat) (cs:List Cell),(∀w∈ws,w.bytes.length=128∧BytesOk w.bytes)→cs.all cellOk=true→(∀c∈cs,BytesOk c.bytes)→(crashGo keep ws k cs).all cellOk=true∧(crashGo keep ws k cs).length=cs.length∧∀c∈crashGo keep ws k cs,BytesOk c.bytes
 |[],_,cs,_,h2,h3=>⟨h2,rfl,h3⟩
 |w::ws,k,cs,h1,h2,h3=>by
  have hw:=h1 w (by simp)
  have step:(crashStep keep cs k w).all cellOk=true∧(crashStep keep cs k w).length=cs.length∧∀c∈crashStep keep cs k w,BytesOk c.bytes:=by
   unfold crashStep
   split
   ·exact⟨h2,rfl,h3⟩
   ·have ho:∀c,c=(cs[w.at_.toNat]?).getD ⟨[]⟩→cellOk c=true∧BytesOk c.bytes:=fun c hc=>by
     cases e:cs[w.at_.toNat]? with
     |none=>rw[e]at hc;subst hc;exact⟨rfl,.nil⟩
     |some x=>
      rw[e]at hc;subst hc
      exact⟨List.all_eq_true.1 h2 _ (List.mem_of_getElem? e),h3 _ (List.mem_of_getElem? e)⟩
    obtain⟨o1,o2⟩:=ho _ rfl
    have hk:crashK keep k≤128:=by unfold crashK;omega
    refine⟨cells_set h2 (torn_len (full_len o1) hw.1 hk),List.length_set ..,fun c hc=>?_⟩
    rcases List.mem_or_eq_of_mem_set hc with z|rfl
    ·exact h3 c z
    ·exact(hw.2.take _).app ((full_b o2).drop _)
  have ih:=crash_inv (keep:=keep) ws (k+1) _ (fun x hx=>h1 x (by simp[hx])) step.1 step.2.2
  exact⟨ih.1,ih.2.1.trans step.2.1,ih.2.2⟩
theorem crash_ok{d:Disk}{keep:List Int}(h:diskOk d=true)(hb:DkB d):diskOk (diskC d keep)=true∧DkB (diskC d keep)∧(diskC d keep).dirty=[]:=by
 have h1:=dok_iff h
 obtain⟨i1,i2,i3⟩:=crash_inv (keep:=keep) d.dirty 0 d.cells (fun w hw=>by
  obtain⟨j,hj,rfl⟩:=List.getElem_of_mem hw
  exact⟨dok_w h hj,hb.2 _ hw⟩) h1.2.1 hb.1
 rw[diskC_y h]
 exact⟨dok_y ⟨by show 1≤(crashGo ..).length;omega,by show (crashGo ..).length≤600;omega,Nat.zero_le _⟩ i1 rfl,⟨i3,fun w hw=>by cases hw⟩,rfl⟩
theorem syncs_ok2:∀(ws:List Write) (cs:List Cell),cs.all cellOk=true→(∀w∈ws,w.bytes.length=128)→(ws.foldl syncStep cs).all cellOk=true
 |[],cs,h,_=>h
 |w::ws,cs,h,hw=>by
  rw[List.foldl_cons]
  exact syncs_ok2 ws _ (cells_set h (hw w (by simp))) (fun x hx=>hw x (by simp[hx]))
theorem sync_ok{d:Disk}(h:diskOk d=true):diskOk (diskS d)=true∧(diskS d).dirty=[]:=by
 have h1:=dok_iff h
 rw[diskS_y h]
 refine⟨dok_y ⟨by show 1≤(synK d _).length;rw[synK_len];exact h1.1.1,by show (synK d _).length≤600;rw[synK_len];exact h1.1.2.1,Nat.zero_le _⟩ (syncs_ok2 _ _ h1.2.1 fun w hw=>?_) rfl,rfl⟩
 obtain⟨j,hj,rfl⟩:=List.getElem_of_mem (List.mem_of_mem_take hw)
 exact dok_w h hj
structure DkI(n:Int)(c:List Cell)(w:List Write):Prop where
 ok:diskOk ⟨c,w⟩=true
 by_:DkB ⟨c,w⟩
 n0:0≤n
 nw:(w.length:Int)+n≤6
theorem DkI.sync{n:Int}{c:List Cell}{w:List Write}(h:DkI n c w)(hn:0<n):DkI (n-1) (diskS ⟨c,w⟩).cells (diskS ⟨c,w⟩).dirty:=⟨(sync_ok h.ok).1,dkb_sync h.by_,by omega,by have:=h.nw;rw[(sync_ok h.ok).2];simp;omega⟩
theorem DkI.crash{n:Int}{c:List Cell}{w:List Write}{keep:List Int}(h:DkI n c w)(hn:0<n):DkI (n-1) (diskC ⟨c,w⟩ keep).cells (diskC ⟨c,w⟩ keep).dirty:=⟨(crash_ok h.ok h.by_).1,(crash_ok h.ok h.by_).2.1,by omega,by have:=h.nw;rw[(crash_ok h.ok h.by_).2.2];simp;omega⟩
theorem DkI.wr{n:Int}{c:List Cell}{w:List Write}{i:Nat}{b:List Int}(h:DkI n c w)(hn:0<n)(hi:i<c.length)(hb:b.length=128)(hB:BytesOk b):DkI (n-1) (diskW ⟨c,w⟩ i b).cells (diskW ⟨c,w⟩ i b).dirty:=⟨dok_diskW h.ok hi (by show w.length<600;have:=h.nw;omega) hb,dkb_w h.by_ hB,by omega,by have:=h.nw;show ((w++[_]).length:Int)+(n-1)≤6;rw[List.length_append,List.length_singleton];omega⟩
theorem dkb_setc{c:List Cell}{w:List Write}{i:Nat}{b:List Int}(h:DkB ⟨c,w⟩)(hb:BytesOk b):DkB ⟨c.set i ⟨b⟩,w⟩:=⟨fun x hx=>by
 rcases List.mem_or_eq_of_mem_set hx with q|rfl
 ·exact h.1 x q
 ·exact hb,h.2⟩
theorem dkb_setw{c:List Cell}{w:List Write}{i:Nat}{n:Int}(hi:i<w.length)(h:DkB ⟨c,w⟩):DkB ⟨c,w.set i ⟨n,w[i].bytes⟩⟩:=⟨h.1,fun x hx=>by
 rcases List.mem_or_eq_of_mem_set hx with q|rfl
 ·exact h.2 x q
 ·exact(h.2 w[i] (List.getElem_mem hi):BytesOk w[i].bytes)⟩
theorem dkb_nil{c:List Cell}{w:List Write}(h:DkB ⟨c,w⟩):DkB ⟨[],w⟩:=⟨(fun x hx=>by cases hx),h.2⟩
theorem rowsW_setA{ws:List Write}{i:Nat}{n:Int}(hi:i<ws.length):(rowsW ws).set i [.v (.int .i64 n),lstB ws[i].bytes]=rowsW (ws.set i ⟨n,ws[i].bytes⟩):=by unfold rowsW;rw[List.map_set]
theorem l03Bytes_e(g:Value)(code:List Int)(i:Nat)(h:Int)(m:Nat)(hc:CurOk code i)(hm:m≤100):GX Try.prog 158 [.ptr 0 0 0,int (m:Int)] [(0,curO g code i h)] (DrR g code (DrY m)):=by
 refine GX.intro (rs:=[.tmp 4]) Try.func158 rfl Try.ntmps158 (Nat.le_of_ble_eq_true rfl) ⟨rfl,trivial⟩ ?_
 intro L O w0
 refine sL<|laV Z<|nA<|lmP Z<|lmI Z<|lgI Z ?_
 refine lX [(0,0)] [] [0] Try.func69 (l01Below_e g code _ _ _ hc) (⟨⟨0,rfl,rfl⟩,trivial⟩) (pins_cur) Z ?_
 intro xz1 oz1 hz1
 obtain⟨i1,q1,hc1,⟨n1,⟨na1,nb1⟩,rfl⟩,rfl⟩:=hz1
 refine laI Z<|nA<|lst (zS 2012 (rowsOf encU []) ty.el56 ty.ze5 rfl (by intro r hr;cases hr)) Z<|laO Z<|nG<|aS<|sL<|laI Z<|nG<|aB ?_
 refine aW [0,4,5] [] (D:=Nat×Int×List Int) (fun d=>[(7,int (d.2.2.length:Int)),(6,.own 2012)]) (fun d=>[(0,curO g code d.1 d.2.1),(2012,yAr d.2.2)]) (fun d=>CurOk code d.1∧BytesOk d.2.2∧(d.2.2.length:Int)≤n1) (fun d=>(n1-(d.2.2.length:Int)).toNat) ((_,_,[])) (⟨hc1,.nil,by simpa using na1⟩) ⟨rfl,rfl,trivial⟩ ⟨rfl,rfl,trivial⟩ ?_
 intro ⟨iJ,qJ,b⟩ hI
 dsimp only
 obtain⟨hcJ,hbJ,hlJ⟩:=hI
 replace hcJ:CurOk code iJ:=hcJ
 replace hbJ:BytesOk b:=hbJ
 replace hlJ:(b.length:Int)≤n1:=hlJ
 refine aS<|sL<|lmI Z<|lmI Z<|lbB Z<|nG ?_
 refine AW.cond rfl ?_ ?_
 ·intro h1
  refine aK<|gT<|aS<|aB ?_
  have hk:(b.length:Int)<n1:=by have h:=h1;simpa using h
  refine aL<|lmO Z<|lmP Z ?_
  refine lX [(0,0)] [] [0] Try.func115 (l01Byte_e g code _ _ hcJ) (⟨⟨0,rfl,rfl⟩,trivial⟩) (pins_cur) Z ?_
  intro xz2 oz2 hz2
  obtain⟨i2,q2,hc2,⟨n2,⟨na2,nb2⟩,rfl⟩,rfl⟩:=hz2
  refine lT [0,4,5,6,7,18,20] [0,2012] ?_
  refine lq (rd (x:=vI _ _) (rd_conv rfl ty.ik3 ty.ik5 rfl) rfl) ?_
  refine AL.slot 21 (yv n2) (Eq.trans (b:=yv _) rfl (congrArg yv (by rw[wrap_u8];omega))) ?_
  refine lst (zS 2022 (rowsOf encU [n2]) ty.el56 ty.ze5 rfl) Z<|lst (zP 2012 ty.el56 ty.ze5 ty.by5 rfl (Src.own rfl rfl) (by simp[rowsOf];omega)) Z<|laO Z<|lN<|gB<|gT<|aL<|lmI Z<|lgI Z<|laI Z<|nG ?_
  refine⟨(_,_,b++[n2]),⟨by assumption,hbJ.app (.cons (by omega) (by omega) .nil),by show ((b++[_]).length:Int)≤n1;rw[List.length_append,List.length_singleton];omega⟩,by show (n1-((b++[_]).length:Int)).toNat<(n1-(b.length:Int)).toNat;rw[List.length_append,List.length_singleton];omega,⟨(Eq.trans (b:=int _) rfl (congrArg int (by rw[List.length_append,List.length_singleton];omega))),rfl,trivial⟩,⟨rfl,(yapp _ _),trivial⟩,rfl,rfl⟩
 ·intro h1
  refine aE<|eT<|eT<|eB<|gT<|aS ?_
  refine AW.freeze 2012 rfl ?_
  refine aL<|lmL Z<|laL Z<|nG<|aR ?_
  refine end_xret (byV b) [(0,curO g code iJ qJ)] ?_ rfl ⟨rfl,trivial⟩
  exact⟨_,_,hcJ,⟨b,hbJ,by omega,rfl⟩,rfl⟩
theorem l03Sector_e(g:Value)(code:List Int)(i:Nat)(h:Int)(hc:CurOk code i):GX Try.prog 139 [.ptr 0 0 0] [(0,curO g code i h)] (DrR g code DrS):=by
 refine GX.intro (rs:=[.cell 2 92 (some 3)]) Try.func139 rfl Try.ntmps139 (Nat.le_of_ble_eq_true rfl) ⟨rfl,rfl,ty.kd92,trivial⟩ ?_
 intro L O w0
 refine sL<|lst (zA 2002 ty.ze92 Z) Z<|nA<|lmP Z ?_
 refine lX [(0,0)] [] [0] Try.func69 (l01Below_e g code _ _ _ hc) (⟨⟨0,rfl,rfl⟩,trivial⟩) (pins_cur) Z ?_
 intro xz1 oz1 hz1
 obtain⟨i1,q1,hc1,⟨n1,⟨na1,nb1⟩,rfl⟩,rfl⟩:=hz1
 refine lmP rfl ?_
 refine lX [(0,0)] [] [0] Try.func69 (l01Below_e g code _ _ _ hc1) (⟨⟨0,rfl,rfl⟩,trivial⟩) (pins_cur) Z ?_
 intro xz2 oz2 hz2
 obtain⟨i2,q2,hc2,⟨n2,⟨na2,nb2⟩,rfl⟩,rfl⟩:=hz2
 refine lgI Z<|lmP Z ?_
 refine lX [(0,0)] [] [0] Try.func158 (l03Bytes_e g code _ _ 12 hc2 (by decide)) (⟨⟨0,rfl,rfl⟩,trivial⟩) (pins_cur) Z ?_
 intro xz3 oz3 hz3
 obtain⟨i3,q3,hc3,⟨b3,hb3,hl3,rfl⟩,rfl⟩:=hz3
 refine lq (rd (x:=.agg [vI _ _,vI _ _,vL _ _ _]) (rd_build Z ty.sa92 Z Z Z) Z)<|lst (zA 2003 ty.ze92 Z) Z<|lst (zB 2003 ty.co92 ty.inf92 Z) Z<|nA<|lmP Z ?_
 refine lX [(0,0)] [] [0] Try.func69 (l01Below_e g code _ _ _ hc3) (⟨⟨0,rfl,rfl⟩,trivial⟩) (pins_cur) Z ?_
 intro xz4 oz4 hz4
 obtain⟨i4,q4,hc4,⟨n4,⟨na4,nb4⟩,rfl⟩,rfl⟩:=hz4
 refine laI Z<|nG ?_
 refine aJ [2,3,4] [2002] (D:=Nat×Int×Int×Int×List Int) (fun d=>[]) (fun d=>[(0,curO g code d.1 d.2.1),(2003,.box 92 none [int d.2.2.1,int d.2.2.2.1,byV d.2.2.2.2])]) (fun d=>CurOk code d.1∧secOk ⟨d.2.2.1,d.2.2.2.1,d.2.2.2.2⟩=true∧BytesOk d.2.2.2.2) ?_ ?_
 ·refine sL<|lmI Z<|lbB Z<|nG ?_
  refine AW.cond rfl ?_ ?_
  ·intro h1
   refine aL<|lmP Z ?_
   refine lX [(0,0)] [] [0] Try.func158 (l03Bytes_e g code _ _ 100 hc4 (by decide)) (⟨⟨0,rfl,rfl⟩,trivial⟩) (pins_cur) Z ?_
   intro xz5 oz5 hz5
   obtain⟨i5,q5,hc5,⟨b5,hb5,hl5,rfl⟩,rfl⟩:=hz5
   refine lT [2,3,4,18] [0,2002,2003] ?_
   refine lf 2 ty.F92_2 Z<|lst (zB 2003 ty.co56 ty.inf56 Z) Z<|nG ?_
   refine⟨(_,_,_,_,_),⟨by assumption,by first|assumption|exact secOk_iff.2 (by simp only;first|omega|(have:=secOk_iff.1 hsJ5;simp only at this;omega)),by assumption⟩,trivial,⟨rfl,rfl,trivial⟩,rfl,rfl⟩
  ·intro h1
   refine aK<|gT ?_
   refine⟨(_,_,_,_,_),⟨by assumption,by first|assumption|exact secOk_iff.2 (by simp only;first|omega|(have:=secOk_iff.1 hsJ5;simp only at this;omega)),by assumption⟩,trivial,⟨rfl,rfl,trivial⟩,rfl,rfl⟩
 ·intro ⟨iJ5,qJ5,aJ5,eJ5,bJ5⟩ hJ5
  dsimp only
  obtain⟨hcJ5,hsJ5,hbJ5⟩:=hJ5
  simp only at hcJ5 hsJ5 hbJ5
  refine aJ [2,3] [2002] (D:=Nat×Int×Int×Int×List Int) (fun d=>[]) (fun d=>[(0,curO g code d.1 d.2.1),(2003,.box 92 none [int d.2.2.1,int d.2.2.2.1,byV d.2.2.2.2])]) (fun d=>CurOk code d.1∧secOk ⟨d.2.2.1,d.2.2.2.1,d.2.2.2.2⟩=true∧BytesOk d.2.2.2.2) ?_ ?_
  ·refine sL<|lmI Z<|lbB Z<|nG ?_
   refine AW.cond rfl ?_ ?_
   ·intro h2
    refine sL<|lf 0 ty.F92_0 Z<|lst (zB 2003 ty.co3 ty.inf3 Z) Z<|nG<|aL<|lf 1 ty.F92_1 Z<|lst (zB 2003 ty.co3 ty.inf3 Z) Z<|nG ?_
    refine⟨(_,_,_,_,_),⟨by assumption,by first|assumption|exact secOk_iff.2 (by simp only;first|omega|(have:=secOk_iff.1 hsJ5;simp only at this;omega)),by assumption⟩,trivial,⟨rfl,rfl,trivial⟩,rfl,rfl⟩
   ·intro h2
    refine aK<|gT ?_
    refine⟨(_,_,_,_,_),⟨by assumption,by first|assumption|exact secOk_iff.2 (by simp only;first|omega|(have:=secOk_iff.1 hsJ5;simp only at this;omega)),by assumption⟩,trivial,⟨rfl,rfl,trivial⟩,rfl,rfl⟩
  ·intro ⟨iJ8,qJ8,aJ8,eJ8,bJ8⟩ hJ8
   dsimp only
   obtain⟨hcJ8,hsJ8,hbJ8⟩:=hJ8
   simp only at hcJ8 hsJ8 hbJ8
   refine sL<|loX (.agg [vI _ _,vI _ _,vL _ _ _]) ty.kd92 Z<|lst (zB 2002 ty.co92 ty.inf92 Z) Z<|nG<|aR ?_
   refine end_xret (secV ⟨aJ8,eJ8,bJ8⟩) [(0,curO g code iJ8 qJ8)] ?_ rfl ⟨rfl,trivial⟩
   exact⟨_,_,hcJ8,⟨⟨aJ8,eJ8,bJ8⟩,hsJ8,hbJ8,rfl⟩,rfl⟩
theorem sdiskNew_o(n:Nat)(h1:1≤n)(h2:n≤600):GC Try.prog 112 [int (n:Int)] [] (.tup [oDisk,boo true]) (obF (newD n)):=by
 refine GC.intro (rs:=[.cell 2 34 (some 2),.tmp 3]) Try.func112 rfl Try.ntmps112 (Nat.le_of_ble_eq_true rfl) ⟨rfl,rfl,ty.kd34,rfl,trivial⟩ ?_
 intro L O w0
 refine sL<|lst (zA 2002 ty.ze34 rfl) Z<|laZ Z<|nG<|aS<|sL<|lmI Z<|lbB Z<|lsB 5 false rfl (by simp;omega)<|lmZ Z<|lmI Z<|lbB Z<|lsB 8 false rfl (by simp;omega)<|lkZ Z<|nG<|aN Z<|aK<|gA<|lmI Z<|lst (St.make 1 (m:=n) rfl rfl (by decide) ty.el31 ty.ze115 rfl rfl rfl rfl rfl (Nat.le_trans (Nat.mul_le_mul_right _ ty.by115) (by omega)) (by unfold maxLen;omega)) Z<|lq (rd (x:=.agg [.own _,vV _]) (rd_build rfl ty.sa34 rfl rfl rfl) rfl)<|lst (zB 2002 ty.co34 ty.inf34 rfl) Z<|laT Z<|lN ?_
 refine gT ?_
 refine AW.adoptB 2 2002 1 123 2 rfl (by decide) rfl ?_
 refine AW.reRow 1 (rows':=List.replicate n [lstB []]) rfl (by simp) (fun h=>nilRow n h) ?_
 refine AW.obj 1 (.arr 115 1 (rowsC (newD n).cells)) (congrArg (AO.arr 115 1) (by unfold rowsC;rw[List.map_replicate])) ?_
 refine aR ?_
 refine end_ret ?_ ⟨rfl,rfl,trivial⟩
 rfl
theorem sdiskNew_f(n:Nat)(h1:1≤n)(h2:n≤600):GC Try.prog 112 [int (n:Int)] [] (.tup [diskV (newD n),boo true]) []:=(sdiskNew_o n h1 h2).diskT

section
variable {P:Program}{L O:Nat→Prop}{w0:World}{N:Nat}{τ τ':Nat→AV}{H H':Nat→AO}{Q:AQ}{ops:Array Oper}{o:Oper}{F:List Nat}{n:Nat}{listed:Array Bool}
theorem AF1.rd{i:Nat}{x:AV}{t:Nat}(ho:ops[i]? = some o)(hrd:Rd P o τ H (fun _=>false) x)(hg:gv τ ops o=some true)(hd:o.dst=some t)(ht:t<N)
 (h:AF P L O w0 N ops F n (listed.setIfInBounds i true) (upd τ t x) H Q):AF1 P L O w0 N ops F n listed i τ H Q:=fun ρ fp a w hrr=>
 wpOp_step ho fun K hK=>by
  rw[hrr.wanted hg,if_pos rfl]
  obtain⟨c,h1,h2⟩:=hrd.run hrr
  unfold Oper.wp
  rw[h2 w (Keep.refl _ _ _ _)]
  refine hK _ _ ⟨fun _=>KeepA.refl _,h ρ fp _ w ?_⟩
  rw[hd]
  exact hrr.put h1 ht
theorem AL.adoptB{l:List Oper}(id b k:Nat)(e:TypeId)(sz:Nat){T:TypeId}{p:Option Value}{cells:List AV}(hb:H b=.box T p cells)(hbi:b≠id)(hk:cells[k]? = some (.p (.v (.slice none 0 0))))(h:AL P L O w0 N ops l (fun s=>kil (one? id) (τ s)) (upd (upd (fun j=>(H j).kil (one? id)) id (.arr e sz [])) b (.box T p ((kilL (one? id) cells).set k (.own id)))) Q):AL P L O w0 N ops l τ H Q:=
 fun ρ fp a w hr=>h _ _ a w (hr.adoptB id b k e sz hb hbi hk)
end

theorem l03Disk_e(g:Value)(code:List Int)(i:Nat)(h:Int)(hc:CurOk code i):GX Try.prog 116 [.ptr 0 0 0] [(0,curO g code i h)] (DrX g code DrD):=by
 refine GX.intro (rs:=[.cell 2 34 (some 2)]) Try.func116 rfl Try.ntmps116 (Nat.le_of_ble_eq_true rfl) ⟨rfl,rfl,ty.kd34,trivial⟩ ?_
 intro L O w0
 refine sL<|lst (zA 2002 ty.ze34 Z) Z<|nA<|lmP Z ?_
 refine lX [(0,0)] [] [0] Try.func69 (l01Below_e g code _ _ _ hc) (⟨⟨0,rfl,rfl⟩,trivial⟩) (pins_cur) Z ?_
 intro xz1 oz1 hz1
 obtain⟨i1,q1,hc1,⟨n1,⟨na1,nb1⟩,rfl⟩,rfl⟩:=hz1
 refine lgI Z<|lsN 12 (((1+n1).toNat:Nat):Int) rfl (by omega)<|lst (zC [(1,1),(2,2)] [1,2] [] Try.func112 (sdiskNew_o (1+n1).toNat (by omega) (by omega)) (trivial) rfl rfl) Z<|lmX (.tup [.agg [.own _,.own _],vB true]) Z<|lxX (.agg [.own _,.own _]) Z<|lxX (vB true) Z<|lst (zA 2003 ty.ze34 rfl) Z<|lst (zB 2003 ty.co34 ty.inf34 rfl) Z<|laT Z<|nG<|aS<|sL<|lmP rfl ?_
 refine lX [(0,0)] [] [0] Try.func69 (l01Below_e g code _ _ _ hc1) (⟨⟨0,rfl,rfl⟩,trivial⟩) (pins_cur) Z ?_
 intro xz2 oz2 hz2
 obtain⟨i2,q2,hc2,⟨n2,⟨na2,nb2⟩,rfl⟩,rfl⟩:=hz2
 refine laI Z<|nG<|aB ?_
 refine aW [0,2,3] [2002,2003] (D:=Nat×Int×Int×List Cell×List Write) (fun d=>[(5,int d.2.2.1)]) (fun d=>[(0,curO g code d.1 d.2.1),(1,.arr 115 1 (rowsC d.2.2.2.1)),(2,.arr 123 2 (rowsW d.2.2.2.2))]) (fun d=>CurOk code d.1∧DkI d.2.2.1 d.2.2.2.1 d.2.2.2.2) (fun d=>d.2.2.1.toNat) ((_,_,n2,(newD (1+n1).toNat).cells,(newD (1+n1).toNat).dirty)) (⟨hc2,⟨newD_ok (by omega) (by omega),newD_b _,na2,by show ((0:Nat):Int)+n2≤6;omega⟩⟩) ⟨rfl,trivial⟩ ⟨rfl,rfl,rfl,trivial⟩ ?_
 intro ⟨iJ,qJ,nJ,cJ,wJ⟩ hI
 dsimp only
 obtain⟨hcJ,hdJ⟩:=hI
 replace hcJ:CurOk code iJ:=hcJ
 replace hdJ:DkI nJ cJ wJ:=hdJ
 have hsz:=(dok_iff hdJ.ok).1
 simp only at hsz
 refine aS<|sL<|lmI Z<|lbB Z<|nG ?_
 refine AW.cond rfl ?_ ?_
 ·intro h1
  refine aK<|gT<|aS<|aB<|aS ?_
  have hn:0<nJ:=by have h:=h1;simpa using h
  refine aL<|lmP Z ?_
  refine lX [(0,0)] [] [0] Try.func69 (l01Below_e g code _ _ _ hcJ) (⟨⟨0,rfl,rfl⟩,trivial⟩) (pins_cur) Z ?_
  intro xz3 oz3 hz3
  obtain⟨i3,q3,hc3,⟨n3,⟨na3,nb3⟩,rfl⟩,rfl⟩:=hz3
  refine lT [0,2,3,5,23] [0,1,2,2002,2003] ?_
  refine laI Z<|nA<|lmP Z ?_
  refine lX [(0,0)] [] [0] Try.func139 (l03Sector_e g code _ _ hc3) (⟨⟨0,rfl,rfl⟩,trivial⟩) (pins_cur) Z ?_
  intro xz4 oz4 hz4
  obtain⟨i4,q4,hc4,⟨s4,hs4,hb4,rfl⟩,rfl⟩:=hz4
  refine lst (zC [] [] [] Try.func44 (ssectorBytes_e s4) (trivial) rfl rfl) rfl ?_
  have hBl:(secB s4).length=128:=secB_length (secOk_iff.1 hs4).2.2
  have hBo:BytesOk (secB s4):=secB_ok hb4 (secOk_iff.1 hs4).2.2
  refine AL.slot 27 (.tup [byV (secB s4),boo true]) (Eq.trans (b:=AV.tup [byV (secX s4),boo (secOk s4)]) rfl (by rw[secX_y hs4,hs4])) ?_
  refine lmX (.tup [vL _ _ _,vB _]) Z<|lxL Z<|lxB Z<|laL Z<|laB Z<|nA<|lmI Z<|lbB Z<|nG ?_
  refine AW.cond rfl ?_ ?_
  ·intro h2
   refine aL<|loX (.agg [.own _,.own _]) ty.kd34 Z ?_
   refine AL.freeze 1 rfl ?_
   refine AL.freeze 2 rfl ?_
   refine lst (zC [(1,1),(2,2)] [1,2] [] Try.func64 (sdiskSync_o (⟨cJ,wJ⟩:Disk) hdJ.ok) (trivial) rfl rfl) Z<|lst (zB 2003 ty.co34 ty.inf34 rfl) Z<|lT [0,2,3,5] [0,1,2,2002,2003] ?_
   refine lN<|gB<|gT<|aL<|lmI Z ?_
   refine lhI rfl ⟨rfl,fits_i64 (by have:=hdJ.nw;unfold i64;omega)⟩<|laI Z<|nG ?_
   refine⟨(_,_,nJ-1,(diskS (⟨cJ,wJ⟩:Disk)).cells,(diskS (⟨cJ,wJ⟩:Disk)).dirty),⟨by assumption,hdJ.sync hn⟩,by show (nJ-1).toNat<nJ.toNat;omega,⟨rfl,trivial⟩,⟨rfl,rfl,rfl,trivial⟩,rfl,rfl⟩
  ·intro h2
   refine sL<|lmI Z<|lbB Z<|nG ?_
   refine AW.cond rfl ?_ ?_
   ·intro h3
    refine aF [2,4,7]<|pq 1 (qmP Z)<|pq 3 (qmP Z) ?_
    refine AF.two (i:=0) (j:=2) (by kernel_rfl) ?_ ?_
    ·refine AF1.rd (i:=0) (x:=.agg [.own _,.own _]) rfl (rd_load_box rfl ty.kd34 rfl rfl rfl rfl) rfl rfl (by decide) ?_
     refine AF.stx (i:=2) rfl (by kernel_rfl) (St.callX [(0,0)] [] [0] rfl (by intro s hs;cases hs;decide) rfl Try.func69 rfl rfl (l01Below_e g code _ _ _ hc4) ⟨rfl,rfl,rfl⟩ (⟨⟨0,rfl,rfl⟩,trivial⟩) (pins_cur) rfl) (.inl rfl) rfl ?_
     rintro _ _ ⟨xz7,oz7,hz7,rfl,rfl⟩
     obtain⟨i7,q7,hc7,⟨n7,⟨na7,nb7⟩,rfl⟩,rfl⟩:=hz7
     refine AF.stx (i:=4) rfl (by kernel_rfl) (St.callX [(0,0)] [] [0] rfl (by intro s hs;cases hs;decide) rfl Try.func69 rfl rfl (l01Below_e g code _ _ _ hc7) ⟨rfl,rfl,rfl⟩ (⟨⟨0,rfl,rfl⟩,trivial⟩) (pins_cur) rfl) (.inl rfl) rfl ?_
     rintro _ _ ⟨xz8,oz8,hz8,rfl,rfl⟩
     obtain⟨i8,q8,hc8,⟨n8,⟨na8,nb8⟩,rfl⟩,rfl⟩:=hz8
     refine vst 5 rfl (zS 2041 (rowsOf encKey [n7,n8]) ty.el112 ty.ze3 rfl (by intro r hr;simp[rowsOf]at hr;rcases hr with h|h<;>(subst h;rfl))) (.inr rfl) ?_
     refine AF.freeze 1 rfl ?_
     refine AF.freeze 2 rfl ?_
     refine AF.freeze 2041 rfl ?_
     refine vst 6 rfl (zC [(1,1),(2,2)] [1,2] [] Try.func67 (sdiskCrash_o (⟨cJ,wJ⟩:Disk) [n7,n8] hdJ.ok) (trivial) rfl rfl) (.inr rfl)<|vst 7 rfl (zB 2003 ty.co34 ty.inf34 rfl) (.inl rfl)<|fD<|gB<|gT<|aL<|lmI rfl ?_
     refine lhI rfl ⟨rfl,fits_i64 (by have:=hdJ.nw;unfold i64;omega)⟩<|laI Z<|nG ?_
     refine⟨(_,_,nJ-1,(diskC (⟨cJ,wJ⟩:Disk) [n7,n8]).cells,(diskC (⟨cJ,wJ⟩:Disk) [n7,n8]).dirty),⟨by assumption,hdJ.crash hn⟩,by show (nJ-1).toNat<nJ.toNat;omega,⟨rfl,trivial⟩,⟨rfl,rfl,rfl,trivial⟩,rfl,rfl⟩
    ·refine AF1.stx (i:=2) rfl (St.callX [(0,0)] [] [0] rfl (by intro s hs;cases hs;decide) rfl Try.func69 rfl rfl (l01Below_e g code _ _ _ hc4) ⟨rfl,rfl,rfl⟩ (⟨⟨0,rfl,rfl⟩,trivial⟩) (pins_cur) rfl) (.inl rfl) rfl ?_
     rintro _ _ ⟨xz9,oz9,hz9,rfl,rfl⟩
     obtain⟨i9,q9,hc9,⟨n9,⟨na9,nb9⟩,rfl⟩,rfl⟩:=hz9
     refine fT [0,2,3,5,38,39] [0,1,2,2002,2003] ?_
     refine AF.two (i:=0) (j:=4) (by kernel_rfl) ?_ ?_
     ·refine AF1.rd (i:=0) (x:=.agg [.own _,.own _]) rfl (rd_load_box rfl ty.kd34 rfl rfl rfl rfl) rfl rfl (by decide) ?_
      refine AF.stx (i:=4) rfl (by kernel_rfl) (St.callX [(0,0)] [] [0] rfl (by intro s hs;cases hs;decide) rfl Try.func69 rfl rfl (l01Below_e g code _ _ _ hc9) ⟨rfl,rfl,rfl⟩ (⟨⟨0,rfl,rfl⟩,trivial⟩) (pins_cur) rfl) (.inl rfl) rfl ?_
      rintro _ _ ⟨xz10,oz10,hz10,rfl,rfl⟩
      obtain⟨i10,q10,hc10,⟨n10,⟨na10,nb10⟩,rfl⟩,rfl⟩:=hz10
      refine vst 5 rfl (zS 2041 (rowsOf encKey [n9,n10]) ty.el112 ty.ze3 rfl (by intro r hr;simp[rowsOf]at hr;rcases hr with h|h<;>(subst h;rfl))) (.inr rfl) ?_
      refine AF.freeze 1 rfl ?_
      refine AF.freeze 2 rfl ?_
      refine AF.freeze 2041 rfl ?_
      refine vst 6 rfl (zC [(1,1),(2,2)] [1,2] [] Try.func67 (sdiskCrash_o (⟨cJ,wJ⟩:Disk) [n9,n10] hdJ.ok) (trivial) rfl rfl) (.inr rfl)<|vst 7 rfl (zB 2003 ty.co34 ty.inf34 rfl) (.inl rfl)<|fD<|gB<|gT<|aL<|lmI rfl ?_
      refine lhI rfl ⟨rfl,fits_i64 (by have:=hdJ.nw;unfold i64;omega)⟩<|laI Z<|nG ?_
      refine⟨(_,_,nJ-1,(diskC (⟨cJ,wJ⟩:Disk) [n9,n10]).cells,(diskC (⟨cJ,wJ⟩:Disk) [n9,n10]).dirty),⟨by assumption,hdJ.crash hn⟩,by show (nJ-1).toNat<nJ.toNat;omega,⟨rfl,trivial⟩,⟨rfl,rfl,rfl,trivial⟩,rfl,rfl⟩
     ·refine AF1.stx (i:=4) rfl (St.callX [(0,0)] [] [0] rfl (by intro s hs;cases hs;decide) rfl Try.func69 rfl rfl (l01Below_e g code _ _ _ hc9) ⟨rfl,rfl,rfl⟩ (⟨⟨0,rfl,rfl⟩,trivial⟩) (pins_cur) rfl) (.inl rfl) rfl ?_
      rintro _ _ ⟨xz11,oz11,hz11,rfl,rfl⟩
      obtain⟨i11,q11,hc11,⟨n11,⟨na11,nb11⟩,rfl⟩,rfl⟩:=hz11
      refine sq 0 (roX (.agg [.own _,.own _]) ty.kd34 rfl)<|vst 5 rfl (zS 2041 (rowsOf encKey [n9,n11]) ty.el112 ty.ze3 rfl (by intro r hr;simp[rowsOf]at hr;rcases hr with h|h<;>(subst h;rfl))) (.inr rfl) ?_
      refine AF.freeze 1 rfl ?_
      refine AF.freeze 2 rfl ?_
      refine AF.freeze 2041 rfl ?_
      refine vst 6 rfl (zC [(1,1),(2,2)] [1,2] [] Try.func67 (sdiskCrash_o (⟨cJ,wJ⟩:Disk) [n9,n11] hdJ.ok) (trivial) rfl rfl) (.inr rfl)<|vst 7 rfl (zB 2003 ty.co34 ty.inf34 rfl) (.inl rfl)<|fD<|gB<|gT<|aL<|lmI rfl ?_
      refine lhI rfl ⟨rfl,fits_i64 (by have:=hdJ.nw;unfold i64;omega)⟩<|laI Z<|nG ?_
      refine⟨(_,_,nJ-1,(diskC (⟨cJ,wJ⟩:Disk) [n9,n11]).cells,(diskC (⟨cJ,wJ⟩:Disk) [n9,n11]).dirty),⟨by assumption,hdJ.crash hn⟩,by show (nJ-1).toNat<nJ.toNat;omega,⟨rfl,trivial⟩,⟨rfl,rfl,rfl,trivial⟩,rfl,rfl⟩
   ·intro h3
    refine aF [5,11]<|pq 1 (qmP Z)<|pq 2 (qf 0 ty.F34_0 Z)<|sq 3 (roO ty.kd31 Z)<|sq 4 (rnI ty.sl31 Z) ?_
    refine AF.slot 48 (int (cJ.length:Int)) (congrArg (fun n:Nat=>int (n:Int)) (rowsC_len _)) ?_
    refine pq 6 (qmL rfl) ?_
    refine AF.two (i:=0) (j:=5) (by kernel_rfl) ?_ ?_
    ·refine AF1.rd (i:=0) (x:=.agg [.own _,.own _]) rfl (rd_load_box rfl ty.kd34 rfl rfl rfl rfl) rfl rfl (by decide) ?_
     refine AF.stx (i:=5) rfl (by kernel_rfl) (St.callX [(0,0)] [] [0] rfl (by intro s hs;cases hs;decide) rfl Try.func69 rfl rfl (l01Below_e g code _ _ _ hc4) ⟨rfl,rfl,rfl⟩ (⟨⟨0,rfl,rfl⟩,trivial⟩) (pins_cur) rfl) (.inl rfl) rfl ?_
     rintro _ _ ⟨xz13,oz13,hz13,rfl,rfl⟩
     obtain⟨i13,q13,hc13,⟨n13,⟨na13,nb13⟩,rfl⟩,rfl⟩:=hz13
     refine fT [0,2,3,5,44,49,50] [0,1,2,2002,2003] ?_
     have hlt:n13.toNat<cJ.length:=by have:=nb13;have:=(dok_iff hdJ.ok).1.1;simp only at this;omega
     refine fsN 49 ((n13.toNat:Nat):Int) rfl (by omega) ?_
     refine AF.freeze 1 rfl ?_
     refine AF.freeze 2 rfl ?_
     refine vst 7 rfl (zC [(1,1),(2,2)] [1,2] [] Try.func45 (sdiskWrite_o (⟨cJ,wJ⟩:Disk) n13.toNat (secB s4) hdJ.ok hlt (by have:=hdJ.nw;show wJ.length<600;omega) hBl) (trivial) rfl rfl) (.inr rfl)<|vq 8 (rmX (.tup [.agg [.own _,.own _],vB true]) rfl)<|pq 9 (qxX (.agg [.own _,.own _]) rfl)<|pq 10 (qxX (vB true) rfl)<|vst 11 rfl (zB 2003 ty.co34 ty.inf34 rfl) (.inl rfl)<|fD<|gB<|gT<|aL<|lmI rfl ?_
     refine lhI rfl ⟨rfl,fits_i64 (by have:=hdJ.nw;unfold i64;omega)⟩<|laI Z<|nG ?_
     refine⟨(_,_,nJ-1,(diskW (⟨cJ,wJ⟩:Disk) n13.toNat (secB s4)).cells,(diskW (⟨cJ,wJ⟩:Disk) n13.toNat (secB s4)).dirty),⟨by assumption,hdJ.wr hn hlt hBl hBo⟩,by show (nJ-1).toNat<nJ.toNat;omega,⟨rfl,trivial⟩,⟨rfl,rfl,rfl,trivial⟩,rfl,rfl⟩
    ·refine AF1.stx (i:=5) rfl (St.callX [(0,0)] [] [0] rfl (by intro s hs;cases hs;decide) rfl Try.func69 rfl rfl (l01Below_e g code _ _ _ hc4) ⟨rfl,rfl,rfl⟩ (⟨⟨0,rfl,rfl⟩,trivial⟩) (pins_cur) rfl) (.inl rfl) rfl ?_
     rintro _ _ ⟨xz14,oz14,hz14,rfl,rfl⟩
     obtain⟨i14,q14,hc14,⟨n14,⟨na14,nb14⟩,rfl⟩,rfl⟩:=hz14
     refine vq 0 (roX (.agg [.own _,.own _]) ty.kd34 rfl) ?_
     have hlt:n14.toNat<cJ.length:=by have:=nb14;have:=(dok_iff hdJ.ok).1.1;simp only at this;omega
     refine fsN 49 ((n14.toNat:Nat):Int) rfl (by omega) ?_
     refine AF.freeze 1 rfl ?_
     refine AF.freeze 2 rfl ?_
     refine vst 7 rfl (zC [(1,1),(2,2)] [1,2] [] Try.func45 (sdiskWrite_o (⟨cJ,wJ⟩:Disk) n14.toNat (secB s4) hdJ.ok hlt (by have:=hdJ.nw;show wJ.length<600;omega) hBl) (trivial) rfl rfl) (.inr rfl)<|vq 8 (rmX (.tup [.agg [.own _,.own _],vB true]) rfl)<|pq 9 (qxX (.agg [.own _,.own _]) rfl)<|pq 10 (qxX (vB true) rfl)<|vst 11 rfl (zB 2003 ty.co34 ty.inf34 rfl) (.inl rfl)<|fT [0,2,3,5] [0,1,2,2002,2003] ?_
     refine fD<|gB<|gT<|aL<|lmI Z ?_
     refine lhI rfl ⟨rfl,fits_i64 (by have:=hdJ.nw;unfold i64;omega)⟩<|laI Z<|nG ?_
     refine⟨(_,_,nJ-1,(diskW (⟨cJ,wJ⟩:Disk) n14.toNat (secB s4)).cells,(diskW (⟨cJ,wJ⟩:Disk) n14.toNat (secB s4)).dirty),⟨by assumption,hdJ.wr hn hlt hBl hBo⟩,by show (nJ-1).toNat<nJ.toNat;omega,⟨rfl,trivial⟩,⟨rfl,rfl,rfl,trivial⟩,rfl,rfl⟩
 ·intro h1
  refine aE<|eT<|eT<|eB<|gA<|loX (.agg [.own _,.own _]) ty.kd34 Z<|lst (zB 2002 ty.co34 ty.inf34 Z) Z<|nG<|aR ?_
  refine end_xret (oDisk) ((0,curO g code iJ qJ)::obF ⟨cJ,wJ⟩) ?_ rfl ⟨rfl,rfl,rfl,trivial⟩
  exact⟨_,_,_,hcJ,⟨⟨cJ,wJ⟩,hdJ.ok,hdJ.by_,rfl,rfl⟩,rfl⟩
theorem l03AnyDisk_e(g:Value)(code:List Int)(i:Nat)(h:Int)(hc:CurOk code i):GX Try.prog 70 [.ptr 0 0 0] [(0,curO g code i h)] (DrX g code DrD2):=by
 refine GX.intro (rs:=[.cell 2 34 (some 2)]) Try.func70 rfl Try.ntmps70 (Nat.le_of_ble_eq_true rfl) ⟨rfl,rfl,ty.kd34,trivial⟩ ?_
 intro L O w0
 refine sL<|lst (zA 2002 ty.ze34 Z) Z<|nA<|lmP Z ?_
 refine lX [(0,0),(1,1),(2,2)] [1,2] [0] Try.func116 (l03Disk_e g code _ _ hc) (⟨⟨0,rfl,rfl⟩,trivial⟩) (pins_curX) Z ?_
 intro xz1 oz1 hz1
 obtain⟨i1,q1,_,hc1,⟨⟨cD,wD⟩,hdD,hbD,rfl,rfl⟩,rfl⟩:=hz1
 refine lst (zA 2003 ty.ze34 Z) Z<|lst (zB 2003 ty.co34 ty.inf34 Z) Z<|nA<|lmP Z ?_
 refine lX [(0,0)] [] [0] Try.func69 (l01Below_e g code _ _ _ hc1) (⟨⟨0,rfl,rfl⟩,trivial⟩) (pins_cur) Z ?_
 intro xz2 oz2 hz2
 obtain⟨i2,q2,hc2,⟨n2,⟨na2,nb2⟩,rfl⟩,rfl⟩:=hz2
 refine laI Z<|nG ?_
 refine aJ [0,2,3,4] [2002,2003] (D:=Nat×Int×List Cell×List Write) (fun d=>[]) (fun d=>[(0,curO g code d.1 d.2.1),(1,.arr 115 1 (rowsC d.2.2.1)),(2,.arr 123 2 (rowsW d.2.2.2))]) (fun d=>CurOk code d.1∧DkB ⟨d.2.2.1,d.2.2.2⟩) ?_ ?_
 ·refine sL<|lmI Z<|lbB Z<|nG ?_
  refine AW.cond rfl ?_ ?_
  ·intro h1
   have hsz:=(dok_iff hdD).1.1
   simp only at hsz
   refine aL<|lf 0 ty.F34_0 Z<|loO ty.kd31 Z<|lst (zS 2013 (rowsOf encU [1]) ty.el56 ty.ze5 rfl) Z<|lq (rj 0 ty.el31 rfl (by rw[rowsC_len];exact hsz))<|lf 0 ty.F115_0 rfl ?_
   refine AL.freeze 2013 rfl ?_
   refine lst (zQ 1 [lstB [1]] ty.co56 ty.inf56 Z (rowsC_at hsz)) Z<|lT [0,2,3,4] [0,1,2,2002,2003] ?_
   refine nG ?_
   refine⟨(_,_,_,_),⟨by assumption,by first|assumption|exact dkb_setc (by assumption) (.cons (by decide) (by decide) .nil)⟩,trivial,⟨rfl,(congrArg (AO.arr 115 1) rowsC_set),rfl,trivial⟩,rfl,rfl⟩
  ·intro h1
   refine aK<|gT ?_
   refine⟨(_,_,_,_),⟨by assumption,by first|assumption|exact dkb_setc (by assumption) (.cons (by decide) (by decide) .nil)⟩,trivial,⟨rfl,rfl,rfl,trivial⟩,rfl,rfl⟩
 ·intro ⟨iJ5,qJ5,cJ5,wJ5⟩ hJ5
  dsimp only
  obtain⟨hcJ5,hbJ5⟩:=hJ5
  simp only at hcJ5 hbJ5
  refine aJ [0,2,3,4] [2002,2003] (D:=Nat×Int×List Cell×List Write) (fun d=>[]) (fun d=>[(0,curO g code d.1 d.2.1),(1,.arr 115 1 (rowsC d.2.2.1)),(2,.arr 123 2 (rowsW d.2.2.2))]) (fun d=>CurOk code d.1∧DkB ⟨d.2.2.1,d.2.2.2⟩) ?_ ?_
  ·refine sL<|lmI Z<|lbB Z<|nG ?_
   refine AW.cond rfl ?_ ?_
   ·intro h2
    refine aL<|lf 0 ty.F34_0 Z<|lst (zB 2003 ty.co31 ty.inf31 Z) Z ?_
    refine AL.adoptB 71 2003 0 115 1 rfl (by decide) rfl ?_
    refine AL.swap 71 1 ?_
    refine nG ?_
    refine⟨(_,_,[],_),⟨by assumption,by first|assumption|exact dkb_nil (by assumption)⟩,trivial,⟨rfl,rfl,rfl,trivial⟩,rfl,rfl⟩
   ·intro h2
    refine aK<|gT ?_
    refine⟨(_,_,_,_),⟨by assumption,by first|assumption|exact dkb_nil (by assumption)⟩,trivial,⟨rfl,rfl,rfl,trivial⟩,rfl,rfl⟩
  ·intro ⟨iJ7,qJ7,cJ7,wJ7⟩ hJ7
   dsimp only
   obtain⟨hcJ7,hbJ7⟩:=hJ7
   simp only at hcJ7 hbJ7
   refine aJ [2,3] [2002,2003] (D:=Nat×Int×List Cell×List Write) (fun d=>[]) (fun d=>[(0,curO g code d.1 d.2.1),(1,.arr 115 1 (rowsC d.2.2.1)),(2,.arr 123 2 (rowsW d.2.2.2))]) (fun d=>CurOk code d.1∧DkB ⟨d.2.2.1,d.2.2.2⟩) ?_ ?_
   ·refine sL<|lmI Z<|lbB Z<|lmB Z ?_
    refine AL.bool (t:=21) rfl ?_ ?_
    ·intro h3
     refine lf 1 ty.F34_1 Z<|loO ty.kd32 Z<|lnI ty.sl32 Z ?_
     refine AL.slot 24 (int (wJ7.length:Int)) (congrArg (fun n:Nat=>int (n:Int)) (rowsW_len _)) ?_
     refine lbB Z<|lkB Z<|nG ?_
     refine AW.cond rfl ?_ ?_
     ·intro h4
      have hwl:0<wJ7.length:=by have h:=h4;simpa using h
      refine aF [3,6]<|pq 0 (qf 1 ty.F34_1 Z)<|pq 2 (qmP Z) ?_
      refine AF.two (i:=1) (j:=3) (by kernel_rfl) ?_ ?_
      ·refine AF1.rd (i:=1) (x:=.own _) rfl (rd_load_box rfl ty.kd32 rfl rfl rfl rfl) rfl rfl (by decide) ?_
       refine AF.stx (i:=3) rfl (by kernel_rfl) (St.callX [(0,0)] [] [0] rfl (by intro s hs;cases hs;decide) rfl Try.func117 rfl rfl (l01Raw_e g code _ _ hcJ7) ⟨rfl,rfl,rfl⟩ (⟨⟨0,rfl,rfl⟩,trivial⟩) (pins_cur) rfl) (.inl rfl) rfl ?_
       rintro _ _ ⟨xz4,oz4,hz4,rfl,rfl⟩
       obtain⟨i4,q4,hc4,⟨n4,hn4,rfl⟩,rfl⟩:=hz4
       refine vq 4 (rj 0 ty.el32 rfl (by rw[rowsW_len];exact hwl))<|vq 5 (rf 0 ty.F123_0 rfl)<|vst 6 rfl (zQ 2 [.v (.int .i64 n4)] ty.co3 ty.inf3 rfl (rowsW_at hwl)) (.inl rfl)<|fT [2,3] [0,1,2,2002,2003] ?_
       refine fD<|gT ?_
       refine⟨(_,_,_,_),⟨by assumption,by first|assumption|exact dkb_setw _ (by assumption)⟩,trivial,⟨rfl,rfl,(congrArg (AO.arr 123 2) (rowsW_setA hwl)),trivial⟩,rfl,rfl⟩
      ·refine AF1.stx (i:=3) rfl (St.callX [(0,0)] [] [0] rfl (by intro s hs;cases hs;decide) rfl Try.func117 rfl rfl (l01Raw_e g code _ _ hcJ7) ⟨rfl,rfl,rfl⟩ (⟨⟨0,rfl,rfl⟩,trivial⟩) (pins_cur) rfl) (.inl rfl) rfl ?_
       rintro _ _ ⟨xz5,oz5,hz5,rfl,rfl⟩
       obtain⟨i5,q5,hc5,⟨n5,hn5,rfl⟩,rfl⟩:=hz5
       refine vq 1 (roO ty.kd32 rfl)<|vq 4 (rj 0 ty.el32 rfl (by rw[rowsW_len];exact hwl))<|vq 5 (rf 0 ty.F123_0 rfl)<|vst 6 rfl (zQ 2 [.v (.int .i64 n5)] ty.co3 ty.inf3 rfl (rowsW_at hwl)) (.inl rfl)<|fD<|gT ?_
       refine⟨(_,_,_,_),⟨by assumption,by first|assumption|exact dkb_setw _ (by assumption)⟩,trivial,⟨rfl,rfl,(congrArg (AO.arr 123 2) (rowsW_setA hwl)),trivial⟩,rfl,rfl⟩
     ·intro h4
      refine aK<|gT ?_
      refine⟨(_,_,_,_),⟨by assumption,by first|assumption|exact dkb_setw _ (by assumption)⟩,trivial,⟨rfl,rfl,rfl,trivial⟩,rfl,rfl⟩
    ·intro h3
     refine lno Z<|lno Z<|lno Z<|lno Z<|lkZ Z<|nG<|aN Z<|aK<|gT ?_
     refine⟨(_,_,_,_),⟨by assumption,by first|assumption|exact dkb_setw _ (by assumption)⟩,trivial,⟨rfl,rfl,rfl,trivial⟩,rfl,rfl⟩
   ·intro ⟨iJ9,qJ9,cJ9,wJ9⟩ hJ9
    dsimp only
    obtain⟨hcJ9,hbJ9⟩:=hJ9
    simp only at hcJ9 hbJ9
    refine sL<|loX (.agg [.own _,.own _]) ty.kd34 Z<|lst (zB 2002 ty.co34 ty.inf34 Z) Z<|nG<|aR ?_
    refine end_xret (oDisk) ((0,curO g code iJ9 qJ9)::obF ⟨cJ9,wJ9⟩) ?_ rfl ⟨rfl,rfl,rfl,trivial⟩
    exact⟨_,_,_,hcJ9,⟨⟨cJ9,wJ9⟩,hbJ9,rfl,rfl⟩,rfl⟩

section
variable {α:Type}(n:α→Int)(g:α→Int→α)
def cntG:List α→Int
 |[]=>0
 |x::l=>n x+cntG l
variable {n g}
end
abbrev mCe(c:Cell):Int:=(c.bytes.length:Int)
abbrev mWr(w:Write):Int:=1+(w.bytes.length:Int)
structure DkZ(d:Disk):Prop where
 lc:d.cells.length≤1048576
 lw:d.dirty.length≤1048576
 bc:∀c∈d.cells,c.bytes.length≤1048576
 bw:∀w∈d.dirty,w.bytes.length≤1048576
 cc:cntG mCe d.cells≤1048576
 cw:cntG mWr d.dirty≤1048576
theorem rowF.set{F:List AO}{j:Nat}{o:AO}(h:rowF F)(ho:rowO o=true):rowF (F.set j o):=fun x hx=>by
 rcases List.mem_or_eq_of_mem_set hx with q|rfl
 ·exact h x q
 ·exact ho
section
variable {L:Nat→Prop}{ρ:Nat→Value}{H:Nat→AO}
end

structure DkE(d:Disk):Prop where
 lc:d.cells.length≤1000000000
 lw:d.dirty.length≤1000000000
 bc:∀c∈d.cells,c.bytes.length≤1000000000
 bw:∀w∈d.dirty,w.bytes.length≤1000000000
theorem DkZ.e{d:Disk}(h:DkZ d):DkE d:=⟨Nat.le_trans h.lc (by decide),Nat.le_trans h.lw (by decide),fun c hc=>Nat.le_trans (h.bc c hc) (by decide),fun c hc=>Nat.le_trans (h.bw c hc) (by decide)⟩
structure DkM(d:Disk):Prop where
 lc:d.cells.length≤100000000
 lw:d.dirty.length≤100000000
 cc:cntG mCe d.cells≤100000000
 cw:cntG mWr d.dirty≤100000000
theorem DkZ.m{d:Disk}(h:DkZ d):DkM d:=⟨Nat.le_trans h.lc (by decide),Nat.le_trans h.lw (by decide),Int.le_trans h.cc (by decide),Int.le_trans h.cw (by decide)⟩

theorem logEvents_f(d:Disk)(hb:DkB d):GC Try.prog 20 [diskV d] [] (.p (.lst 40 7 (rowsOf encEvent (logE d)))) []:=(logEvents_o d hb).frz1
theorem slogEvents_f(d:Disk)(hb:DkB d):GC Try.prog 18 [diskV d] [] (.p (.lst 40 7 (rowsOf encEvent (logE d)))) []:=(slogEvents_o d hb).frz1
theorem syncs_ok:∀(ws:List Write) (cs:List Cell),cs.all cellOk=true→(∀w∈ws,w.bytes.length=128)→(ws.foldl syncStep cs).all cellOk=true
 |[],cs,h,_=>h
 |w::ws,cs,h,hw=>by
  rw[List.foldl_cons]
  exact syncs_ok ws _ (cells_set h (hw w (by simp))) (fun x hx=>hw x (by simp[hx]))
theorem dok_diskS{d:Disk}(h:diskOk d=true):diskOk (diskS d)=true:=by
 have h1:=dok_iff h
 rw[diskS_y h]
 refine dok_y ⟨by show 1≤(synK d _).length;rw[synK_len];exact h1.1.1,by show (synK d _).length≤600;rw[synK_len];exact h1.1.2.1,Nat.zero_le _⟩ (syncs_ok _ _ h1.2.1 fun w hw=>?_) rfl
 obtain⟨j,hj,rfl⟩:=List.getElem_of_mem (List.mem_of_mem_take hw)
 exact dok_w h hj
theorem lgOp_cases(d:Disk):lgOpC d=0∧diskOk d=true∧diskOk (lgOpL d).disk=true∨lgOpC d≠0∧lgOpL d=⟨⟨[],[]⟩,0,0⟩:=by
 by_cases hc:lgOpC d=0
 ·have hd:diskOk d=true:=by
   unfold lgOpC at hc
   cases h:diskOk d with
   |true=>rfl
   |false=>rw[h]at hc;cases hc
  have h0:d.dirty.length=0:=by
   unfold lgOpC at hc
   by_cases h:d.dirty.length=0
   ·exact h
   ·rw[hd,if_neg (by simp[h])]at hc;cases hc
  have h2:¬((logR d).length=d.cells.length∨16000000≤logTop d):=fun q=>by rw[lg2 hd h0 q]at hc;cases hc
  have:=logR_le hd
  refine .inl ⟨hc,hd,?_⟩
  rw[lgL_y hc]
  exact dok_diskS (dok_diskW hd (by omega) (by omega) (secB_length (Nat.le_of_ble_eq_true rfl)))
 ·exact .inr ⟨hc,lgL_n hc⟩
abbrev lgOpV(d:Disk):AV:=.tup [logV (lgOpL d),.p (.lst 40 7 (rowsOf encEvent (lgOpE d))),int (lgOpC d)]
theorem logOpen_f(d:Disk)(hb:DkB d):GC Try.prog 27 [diskV d] [] (lgOpV d) []:=
 (GX.frozen (Z:=fun y=>y=lgOpV d) (show GX Try.prog _ _ [] _ from logOpen_n d hb) fun x ob ⟨l1,F1,hs,hF,hM,e,⟨vs,us,hv,hu,e1,e2,e3⟩⟩=>by
   subst e e1 e2 e3
   refine⟨lgOpV d,?_,rfl⟩
   have hT:Tl (ofO (obL vs us (lgOpL d).disk (lgOpE d)++famL 1000000 (famD vs us (lgOpL d).disk))) (famD vs us (lgOpL d).disk):=by rw[ofO_fam rfl];exact Tl.tl hF
   have l1:(famB vs (byC (lgOpL d).disk.cells)).length=(lgOpL d).disk.cells.length:=by rw[famB_len (by simpa using hv),List.length_map]
   exact Still.tup (H:=ofO (obL vs us (lgOpL d).disk (lgOpE d)++famL 1000000 (famD vs us (lgOpL d).disk))) (.cons (Still.agg (.cons (Still.own (id:=1) (e:=⟨115,none⟩) (sz:=1) (rows:=rowsCV vs) rfl (deepCV hT hv (s:=0) fun i hi=>by unfold famD;rw[Nat.zero_add,List.getElem?_append_left (by omega)]))
    (.cons (Still.own (id:=2) (e:=⟨123,none⟩) (sz:=2) (rows:=rowsWV us (lgOpL d).disk.dirty) rfl (deepWV hT hu (s:=(lgOpL d).disk.cells.length) fun i hi=>by unfold famD;rw[List.getElem?_append_right (by omega)];congr 1;omega)) (.cons (Still.p _) (.cons (Still.p _) .nil))))) (.cons (Still.row (id:=3) (e:=⟨40,none⟩) (sz:=7) (rows:=rowsOf encEvent (lgOpE d)) rfl) (.cons (Still.p _) .nil)))).mono fun y o ⟨e1,e2⟩=>⟨e2,e1⟩
theorem slogOpen_f(d:Disk)(hb:DkB d):GC Try.prog 26 [diskV d] [] (lgOpV d) []:=
 (GX.frozen (Z:=fun y=>y=lgOpV d) (slogOpen_o d hb) fun x ob ⟨h1,h2⟩=>by
   subst h1 h2
   exact⟨_,Still.tup (.cons (Still.agg (.cons (Still.row (e:=⟨115,none⟩) (sz:=1) (rows:=rowsC (lgOpL d).disk.cells) rfl) (.cons (Still.row (e:=⟨123,none⟩) (sz:=2) (rows:=rowsW (lgOpL d).disk.dirty) rfl) (.cons (Still.p _) (.cons (Still.p _) .nil))))) (.cons (Still.row (e:=⟨40,none⟩) (sz:=7) (rows:=rowsOf encEvent (lgOpE d)) rfl) (.cons (Still.p _) .nil))),rfl⟩).mono fun y o ⟨e1,e2⟩=>⟨e2,e1⟩
abbrev adV(l:Log)(c:Int):AV:=.tup [logV l,int c]
theorem slogAdd_f(l:Log)(e:Event):GC Try.prog 10 [logV l,evV e] [] (adV (lgAddL l e) (lgAddC l e)) []:=
 (GX.frozen (Z:=fun y=>y=adV (lgAddL l e) (lgAddC l e)) (slogAdd_o l e) fun x ob ⟨h1,h2⟩=>by
   subst h1 h2
   exact⟨_,Still.tup (.cons (Still.agg (.cons (Still.row (e:=⟨115,none⟩) (sz:=1) (rows:=rowsC (lgAddL l e).disk.cells) rfl) (.cons (Still.row (e:=⟨123,none⟩) (sz:=2) (rows:=rowsW (lgAddL l e).disk.dirty) rfl) (.cons (Still.p _) (.cons (Still.p _) .nil))))) (.cons (Still.p _) .nil)),rfl⟩).mono fun y o ⟨e1,e2⟩=>⟨e2,e1⟩

abbrev zero128:List Int:=List.replicate 128 0
theorem zB_F:secF zero128=false:=by decide +kernel
theorem views_new(n:Nat):views (newD n)=List.replicate n zero128:=by
 unfold views
 refine List.ext_getElem (by simp) fun i h1 h2=>?_
 have hi:i<n:=by simpa using h2
 rw[List.getElem_map,List.getElem_range,List.getElem_replicate]
 unfold diskAt
 simp only[lastW]
 rw[List.getElem?_replicate,if_pos hi]
 rfl
theorem run_z:∀n,logRun (List.replicate n zero128) []=[]
 |0=>rfl
 |n+1=>by
  rw[List.replicate_succ]
  unfold logRun
  rw[if_neg]
  intro h
  have:=(goes_iff.1 h).1
  rw[zB_F]at this
  cases this
theorem top_z:∀n,topOf (List.replicate n zero128)=0:=by
 intro n
 unfold topOf
 induction n with
 |zero=>rfl
 |succ n ih=>
  rw[List.replicate_succ,List.foldl_cons,secR_no zB_F]
  exact ih
theorem lgOp_new{n:Nat}(h1:1≤n)(h2:n≤600):lgOpC (newD n)=0:=by
 have hd:=newD_ok h1 h2
 refine lg0 hd rfl ?_
 rw[logR_y hd,logTop_y hd,views_new,run_z,top_z]
 simp
 omega
theorem lgOp_b{d:Disk}(hb:DkB d):DkB (lgOpL d).disk:=by
 unfold lgOpL
 split
 ·exact dkb_sync (dkb_w hb (secB_ok (.cons (by decide) (by decide) .nil) (Nat.le_of_ble_eq_true rfl)))
 ·exact⟨(fun c hc=>by cases hc),(fun c hc=>by cases hc)⟩
theorem lgSy_b{l:Log}(hb:DkB l.disk):DkB (lgSyL l).disk:=by
 unfold lgSyL
 split
 ·exact dkb_sync hb
 ·exact⟨(fun c hc=>by cases hc),(fun c hc=>by cases hc)⟩
theorem ad_ok{l:Log}{e:Event}(hc:lgAddC l e=0):diskOk l.disk=true∧inB l.next 0 l.disk.cells.length=true∧inB l.epoch 1 16000000=true∧eventOk e=true∧¬(l.next=l.disk.cells.length∨600≤l.disk.dirty.length):=by
 have h1:diskOk l.disk=true:=by cases h:diskOk l.disk with|true=>rfl|false=>rw[ad1 (.inl h)]at hc;cases hc
 have h2:inB l.next 0 l.disk.cells.length=true:=by cases h:inB l.next 0 l.disk.cells.length with|true=>rfl|false=>rw[ad1 (.inr (.inl h))]at hc;cases hc
 have h3:inB l.epoch 1 16000000=true:=by cases h:inB l.epoch 1 16000000 with|true=>rfl|false=>rw[ad1 (.inr (.inr (.inl h)))]at hc;cases hc
 have h4:eventOk e=true:=by cases h:eventOk e with|true=>rfl|false=>rw[ad1 (.inr (.inr (.inr h)))]at hc;cases hc
 exact⟨h1,h2,h3,h4,fun q=>by rw[ad2 h1 h2 h3 h4 q]at hc;cases hc⟩
theorem lgAd_ok{l:Log}{e:Event}(hc:lgAddC l e=0):diskOk (lgAddL l e).disk=true:=by
 obtain⟨h1,h2,h3,h4,h5⟩:=ad_ok hc
 rw[adL_y hc]
 have:=inB_iff.1 h2
 exact dok_diskW h1 (by omega) (by omega) (secB_length (by show (evB e).length≤100;rw[evB_length];decide))
theorem lgAd_b{l:Log}{e:Event}(hb:DkB l.disk):DkB (lgAddL l e).disk:=by
 by_cases hc:lgAddC l e=0
 ·rw[adL_y hc]
  exact dkb_w hb (secB_ok (evB_ok (ad_ok hc).2.2.2.1) (by show (evB e).length≤100;rw[evB_length];decide))
 ·rw[adL_n hc];exact⟨(fun c hc=>by cases hc),(fun c hc=>by cases hc)⟩
theorem slogSync_f(l:Log):GC Try.prog 113 [logV l] [] (logV (lgSyL l)) []:=
 (GX.frozen (Z:=fun y=>y=logV (lgSyL l)) (slogSync_o l) fun x ob ⟨h1,h2⟩=>by
   subst h1 h2
   exact⟨_,Still.agg (.cons (Still.row (e:=⟨115,none⟩) (sz:=1) (rows:=rowsC (lgSyL l).disk.cells) rfl) (.cons (Still.row (e:=⟨123,none⟩) (sz:=2) (rows:=rowsW (lgSyL l).disk.dirty) rfl) (.cons (Still.p _) (.cons (Still.p _) .nil)))),rfl⟩).mono fun y o ⟨e1,e2⟩=>⟨e2,e1⟩
structure LgI(n:Int)(l:Log):Prop where
 ok:diskOk l.disk=true
 by_:DkB l.disk
 n0:0≤n
 n1:n≤11
theorem LgI.same{n:Int}{l:Log}(h:LgI n l)(hn:0<n):LgI (n-1) l:=⟨h.ok,h.by_,by omega,by have:=h.n1;omega⟩
theorem LgI.sync{n:Int}{l:Log}(h:LgI n l)(hn:0<n):LgI (n-1) (lgSyL l):=⟨by rw[sy_y h.ok];exact(sync_ok h.ok).1,lgSy_b h.by_,by omega,by have:=h.n1;omega⟩
theorem LgI.crash{n:Int}{l:Log}{keep:List Int}(h:LgI n l)(hn:0<n)(hc:lgOpC (diskC l.disk keep)=0):LgI (n-1) (lgOpL (diskC l.disk keep)):=⟨by rcases lgOp_cases (diskC l.disk keep)with q|q;exact q.2.2;exact absurd hc q.1,lgOp_b (crash_ok h.ok h.by_).2.1,by omega,by have:=h.n1;omega⟩
theorem LgI.add{n:Int}{l:Log}{e:Event}(h:LgI n l)(hn:0<n)(hc:lgAddC l e=0):LgI (n-1) (lgAddL l e):=⟨lgAd_ok hc,lgAd_b h.by_,by omega,by have:=h.n1;omega⟩
def DrL(ok:Prop):AV→Prop:=fun x=>∃l,(ok→diskOk l.disk=true)∧DkB l.disk∧x=logV l
theorem l05Draw_e(g:Value)(code:List Int)(i:Nat)(h:Int)(hc:CurOk code i):GX Try.prog 68 [.ptr 0 0 0] [(0,curO g code i h)] (DrR g code (DrL True)):=by
 refine GX.intro (rs:=[.cell 2 36 (some 4)]) Try.func68 rfl Try.ntmps68 (Nat.le_of_ble_eq_true rfl) ⟨rfl,rfl,ty.kd36,trivial⟩ ?_
 intro L O w0
 refine sL<|lst (zA 2002 ty.ze36 Z) Z<|nA<|lmP Z ?_
 refine lX [(0,0)] [] [0] Try.func69 (l01Below_e g code _ _ _ hc) (⟨⟨0,rfl,rfl⟩,trivial⟩) (pins_cur) Z ?_
 intro xz1 oz1 hz1
 obtain⟨i1,q1,hc1,⟨n1,⟨na1,nb1⟩,rfl⟩,rfl⟩:=hz1
 refine lgI Z<|lsN 20 (((3+n1).toNat:Nat):Int) rfl (by omega)<|lst (zC [] [] [] Try.func112 (sdiskNew_f (3+n1).toNat (by omega) (by omega)) (trivial) rfl rfl) Z<|lmX (.tup [.agg [vL _ _ _,vL _ _ _],vB _]) Z<|lxX (.agg [vL _ _ _,vL _ _ _]) Z<|lxB Z<|lst (zA 2003 ty.ze34 rfl) Z<|lst (zB 2003 ty.co34 ty.inf34 rfl) Z<|laB Z<|nA<|loX (.agg [vL _ _ _,vL _ _ _]) ty.kd34 Z<|lst (zC [] [] [] Try.func26 (slogOpen_f (newD (3+n1).toNat) (newD_b _)) (trivial) rfl rfl) Z<|lmX (.tup [.agg [vL _ _ _,vL _ _ _,vI _ _,vI _ _],vL _ _ _,vI _ _]) Z<|lxX (.agg [vL _ _ _,vL _ _ _,vI _ _,vI _ _]) Z<|lxL Z<|lxI Z<|lst (zA 2005 ty.ze36 rfl) Z<|lT [0,2,5,27,28,29] [0,2002,2003,2005] ?_
 refine lst (zB 2005 ty.co36 ty.inf36 Z) Z<|laL Z<|laI Z<|nG<|aS<|sL<|lmP Z ?_
 refine lX [(0,0)] [] [0] Try.func69 (l01Below_e g code _ _ _ hc1) (⟨⟨0,rfl,rfl⟩,trivial⟩) (pins_cur) Z ?_
 intro xz2 oz2 hz2
 obtain⟨i2,q2,hc2,⟨n2,⟨na2,nb2⟩,rfl⟩,rfl⟩:=hz2
 refine laI Z<|nG<|aB ?_
 refine aW [0,2,5] [2002,2003] (D:=Nat×Int×Int×Log) (fun d=>[(8,int d.2.2.1)]) (fun d=>[(0,curO g code d.1 d.2.1),(2005,.box 36 none [.p (.lst 115 1 (rowsC d.2.2.2.disk.cells)),.p (.lst 123 2 (rowsW d.2.2.2.disk.dirty)),int d.2.2.2.next,int d.2.2.2.epoch])]) (fun d=>CurOk code d.1∧LgI d.2.2.1 d.2.2.2) (fun d=>d.2.2.1.toNat) ((_,_,n2,lgOpL (newD (3+n1).toNat))) (⟨hc2,⟨by rcases lgOp_cases (newD (3+n1).toNat)with q|q;exact q.2.2;exact absurd (lgOp_new (by omega) (by omega)) q.1,lgOp_b (newD_b _),na2,by show n2≤11;omega⟩⟩) ⟨rfl,trivial⟩ ⟨rfl,rfl,trivial⟩ ?_
 intro ⟨iJ,qJ,nJ,lJ⟩ hI
 dsimp only
 obtain⟨hcJ,hlJ⟩:=hI
 replace hcJ:CurOk code iJ:=hcJ
 replace hlJ:LgI nJ lJ:=hlJ
 refine aS<|sL<|lmI Z<|lbB Z<|nG ?_
 refine AW.cond rfl ?_ ?_
 ·intro h1
  refine aK<|gT<|aS<|aB<|aS ?_
  have hn:0<nJ:=by have h:=h1;simpa using h
  have hn1:=hlJ.n1
  refine aL<|lmP Z ?_
  refine lX [(0,0)] [] [0] Try.func69 (l01Below_e g code _ _ _ hcJ) (⟨⟨0,rfl,rfl⟩,trivial⟩) (pins_cur) Z ?_
  intro xz3 oz3 hz3
  obtain⟨i3,q3,hc3,⟨n3,⟨na3,nb3⟩,rfl⟩,rfl⟩:=hz3
  refine laI Z<|nA<|lmI Z<|lbB Z<|nG ?_
  refine AW.cond rfl ?_ ?_
  ·intro h2
   refine aL<|loX (.agg [vL _ _ _,vL _ _ _,vI _ _,vI _ _]) ty.kd36 Z<|lst (zC [] [] [] Try.func113 (slogSync_f lJ) (trivial) Z Z) Z<|lT [0,2,5,8,41] [0,2002,2003,2005] ?_
   refine lst (zB 2005 ty.co36 ty.inf36 Z) Z<|lN<|gB<|gT<|aL<|lmI Z<|lgI Z<|laI Z<|nG ?_
   refine⟨(_,_,nJ-1,lgSyL lJ),⟨by assumption,hlJ.sync hn⟩,by show (nJ-1).toNat<nJ.toNat;omega,⟨rfl,trivial⟩,⟨rfl,rfl,trivial⟩,rfl,rfl⟩
  ·intro h2
   refine sL<|lmI Z<|lbB Z<|nG ?_
   refine AW.cond rfl ?_ ?_
   ·intro h3
    refine sL<|lst (zS 2044 (rowsOf encKey []) ty.el112 ty.ze3 rfl (by intro r hr;cases hr)) Z<|laO Z<|nG<|aS<|sL<|laI Z<|nG<|aB ?_
    refine aW [0,2,5,8] [2002,2003,2005] (D:=Nat×Int×List Int) (fun z=>[(11,int (z.2.2.length:Int)),(10,.own 2044)]) (fun z=>[(0,curO g code z.1 z.2.1),(2044,kAr z.2.2)]) (fun z=>CurOk code z.1∧z.2.2.length≤5) (fun z=>5-z.2.2.length) ((_,_,[])) (⟨by assumption,Nat.zero_le _⟩) ⟨rfl,rfl,trivial⟩ ⟨rfl,rfl,trivial⟩ ?_
    intro ⟨iZ,qZ,kp⟩ hI
    dsimp only
    obtain⟨hcZ,hkp⟩:=hI
    replace hcZ:CurOk code iZ:=hcZ
    replace hkp:kp.length≤5:=hkp
    refine aS<|sL<|lmI Z<|lbB Z<|nG ?_
    refine AW.cond rfl ?_ ?_
    ·intro h4
     refine aK<|gT<|aS<|aB ?_
     have hk5:kp.length<5:=by have h:=h4;simp only[decide_eq_true_eq]at h;omega
     refine aL<|lmO Z<|lst (zS 2050 (rowsOf encKey [0,50,127,128]) ty.el112 ty.ze3 rfl (by intro r hr;simp[rowsOf]at hr;rcases hr with h|h|h|h<;>(subst h;rfl))) Z<|lmP rfl ?_
     refine lX [(0,0)] [] [0] Try.func69 (l01Below_e g code _ _ _ hcZ) (⟨⟨0,rfl,rfl⟩,trivial⟩) (pins_cur) Z ?_
     intro xz4 oz4 hz4
     obtain⟨i4,q4,hc4,⟨n4,⟨na4,nb4⟩,rfl⟩,rfl⟩:=hz4
     refine lT [0,2,5,8,10,11,49,50,52] [0,2002,2003,2005,2044,2050] ?_
     obtain⟨m,hm⟩:=Int.eq_ofNat_of_zero_le na4
     have hm4:m<([0,50,127,128]:List Int).length:=by show m<4;omega
     refine lq (rd (x:=.ptr 2050 _ 0) (rd_iaddr_own (i:=m) rfl ty.el112 rfl rfl rfl ?hn1 (by rw[length_rowsOf];exact hm4)) rfl) ?_
     case hn1=>exact hm
     refine lq (rd (x:=vI _ _) (rd_load_arr rfl ty.kd3 rfl rfl rfl (row_map hm4) rfl) rfl)<|lst (zS 2055 (rowsOf encKey [([0,50,127,128]:List Int)[m]]) ty.el112 ty.ze3 rfl) Z<|lst (zP 2044 ty.el112 ty.ze3 ty.by3 rfl (Src.own rfl rfl) (by simp[rowsOf];omega)) Z<|laO Z<|lN<|gB<|gT<|aL<|lmI Z<|lgI Z<|laI Z<|nG ?_
     refine⟨(_,_,kp++[([0,50,127,128]:List Int)[m]]),⟨by assumption,by show (kp++[_]).length≤5;rw[List.length_append,List.length_singleton];omega⟩,by show 5-(kp++[_]).length<5-kp.length;rw[List.length_append,List.length_singleton];omega,⟨(Eq.trans (b:=int _) rfl (congrArg int (by rw[List.length_append,List.length_singleton];omega))),rfl,trivial⟩,⟨rfl,(Eq.trans (b:=AO.arr 3 1 (rowsOf encKey kp++rowsOf encKey [([0,50,127,128]:List Int)[m]])) rfl (congrArg (AO.arr 3 1) (oapp _ _ _).symm)),trivial⟩,rfl,rfl⟩
    ·intro h4
     refine aE<|eT<|eT<|eB<|gA<|lf 0 ty.F36_0 Z<|loX (.agg [vL _ _ _,vL _ _ _]) ty.kd34 Z<|lmO Z ?_
     refine AL.freeze 2044 rfl ?_
     refine lst (zC [] [] [] Try.func67 (sdiskCrash_f lJ.disk kp hlJ.ok) (trivial) Z Z) Z<|lst (zC [] [] [] Try.func26 (slogOpen_f (diskC lJ.disk kp) (crash_ok hlJ.ok hlJ.by_).2.1) (trivial) Z Z) Z<|lmX (.tup [.agg [vL _ _ _,vL _ _ _,vI _ _,vI _ _],vL _ _ _,vI _ _]) Z<|lxX (.agg [vL _ _ _,vL _ _ _,vI _ _,vI _ _]) Z<|lxL Z<|lxI Z<|lst (zA 2012 ty.ze36 Z) Z<|lT [0,2,5,8,12,63,64,65] [0,2002,2003,2005,2012] ?_
     refine lst (zB 2012 ty.co36 ty.inf36 Z) Z<|laL Z<|laI Z<|nA<|lmI Z<|lbB Z<|nG ?_
     refine AW.cond rfl ?_ ?_
     ·intro h5
      refine aL<|loX (.agg [vL _ _ _,vL _ _ _,vI _ _,vI _ _]) ty.kd36 Z<|lst (zB 2005 ty.co36 ty.inf36 Z) Z<|lN<|gB<|gT<|aL<|lmI Z<|lgI Z<|laI Z<|nG ?_
      refine⟨(_,_,nJ-1,lgOpL (diskC lJ.disk kp)),⟨by assumption,hlJ.crash hn (by have h:=h5;simpa using h)⟩,by show (nJ-1).toNat<nJ.toNat;omega,⟨rfl,trivial⟩,⟨rfl,rfl,trivial⟩,rfl,rfl⟩
     ·intro h5
      refine aK<|gB<|gT<|aL<|lmI Z<|lgI Z<|laI Z<|nG ?_
      refine⟨(_,_,nJ-1,lJ),⟨by assumption,hlJ.same hn⟩,by show (nJ-1).toNat<nJ.toNat;omega,⟨rfl,trivial⟩,⟨rfl,rfl,trivial⟩,rfl,rfl⟩
   ·intro h3
    refine aS<|aF [2,8]<|pq 1 (qmP Z) ?_
    refine AF.three (i:=0) (j:=2) (k:=7) (by kernel_rfl) ?_ ?_ ?_
    ·refine AF1.rd (i:=0) (x:=.agg [vL _ _ _,vL _ _ _,vI _ _,vI _ _]) rfl (rd_load_box rfl ty.kd36 rfl rfl rfl rfl) rfl rfl (by decide) ?_
     refine AF.two (i:=2) (j:=7) (by kernel_rfl) ?_ ?_
     ·refine AF1.stx (i:=2) rfl (St.callX [(0,0)] [] [0] rfl (by intro s hs;cases hs;decide) rfl Try.func114 rfl rfl (l04Draw_e g code _ _ hc3) ⟨rfl,rfl,rfl⟩ (⟨⟨0,rfl,rfl⟩,trivial⟩) (pins_cur) rfl) (.inl rfl) rfl ?_
      rintro _ _ ⟨xz6,oz6,hz6,rfl,rfl⟩
      obtain⟨i6,q6,hc6,⟨⟨va6,vb6,vc6,vd6,ve6,vf6,vg6⟩,hw6,rfl⟩,rfl⟩:=hz6
      refine fT [0,2,5,8,70,72] [0,2002,2003,2005] ?_
      refine AF.two (i:=3) (j:=7) (by kernel_rfl) ?_ ?_
      ·refine v1 3 rfl (zC [] [] [] Try.func10 (slogAdd_f lJ ⟨va6,vb6,vc6,vd6,ve6,vf6,vg6⟩) (trivial) rfl rfl) (.inr rfl)<|pq 4 (qmX (.tup [.agg [vL _ _ _,vL _ _ _,vI _ _,vI _ _],vI _ _]) rfl)<|pq 5 (qxX (.agg [vL _ _ _,vL _ _ _,vI _ _,vI _ _]) rfl)<|pq 6 (qxI rfl)<|vst 7 rfl (zA 2015 ty.ze36 rfl) (.inr rfl)<|vst 8 rfl (zB 2015 ty.co36 ty.inf36 rfl) (.inl rfl)<|vq 9 (raI rfl)<|fD<|gA<|lmI Z<|lbB Z<|nG ?_
       refine AW.cond rfl ?_ ?_
       ·intro h6
        refine aL<|loX (.agg [vL _ _ _,vL _ _ _,vI _ _,vI _ _]) ty.kd36 Z<|lst (zB 2005 ty.co36 ty.inf36 Z) Z<|lN<|gB<|gT<|aL<|lmI Z<|lgI Z<|laI Z<|nG ?_
        refine⟨(_,_,nJ-1,lgAddL lJ (⟨va6,vb6,vc6,vd6,ve6,vf6,vg6⟩)),⟨by assumption,hlJ.add hn (by have h:=h6;simpa using h)⟩,by show (nJ-1).toNat<nJ.toNat;omega,⟨rfl,trivial⟩,⟨rfl,rfl,trivial⟩,rfl,rfl⟩
       ·intro h6
        refine aK<|gB<|gT<|aL<|lmI Z<|lgI Z<|laI Z<|nG ?_
        refine⟨(_,_,nJ-1,lJ),⟨by assumption,hlJ.same hn⟩,by show (nJ-1).toNat<nJ.toNat;omega,⟨rfl,trivial⟩,⟨rfl,rfl,trivial⟩,rfl,rfl⟩
      ·refine v1 7 Z (zA 2015 ty.ze36 Z) (.inr Z)<|fT [0,2,5,8,15,70,72] [0,2002,2003,2005,2015] ?_
       refine vst 3 rfl (zC [] [] [] Try.func10 (slogAdd_f lJ ⟨va6,vb6,vc6,vd6,ve6,vf6,vg6⟩) (trivial) rfl rfl) (.inr rfl)<|vq 4 (rmX (.tup [.agg [vL _ _ _,vL _ _ _,vI _ _,vI _ _],vI _ _]) rfl)<|pq 5 (qxX (.agg [vL _ _ _,vL _ _ _,vI _ _,vI _ _]) rfl)<|pq 6 (qxI rfl)<|vst 8 rfl (zB 2015 ty.co36 ty.inf36 rfl) (.inl rfl)<|vq 9 (raI rfl)<|fD<|gA<|lmI Z<|lbB Z<|nG ?_
       refine AW.cond rfl ?_ ?_
       ·intro h7
        refine aL<|loX (.agg [vL _ _ _,vL _ _ _,vI _ _,vI _ _]) ty.kd36 Z<|lst (zB 2005 ty.co36 ty.inf36 Z) Z<|lN<|gB<|gT<|aL<|lmI Z<|lgI Z<|laI Z<|nG ?_
        refine⟨(_,_,nJ-1,lgAddL lJ (⟨va6,vb6,vc6,vd6,ve6,vf6,vg6⟩)),⟨by assumption,hlJ.add hn (by have h:=h7;simpa using h)⟩,by show (nJ-1).toNat<nJ.toNat;omega,⟨rfl,trivial⟩,⟨rfl,rfl,trivial⟩,rfl,rfl⟩
       ·intro h7
        refine aK<|gB<|gT<|aL<|lmI Z<|lgI Z<|laI Z<|nG ?_
        refine⟨(_,_,nJ-1,lJ),⟨by assumption,hlJ.same hn⟩,by show (nJ-1).toNat<nJ.toNat;omega,⟨rfl,trivial⟩,⟨rfl,rfl,trivial⟩,rfl,rfl⟩
     ·refine v1 7 Z (zA 2015 ty.ze36 Z) (.inr Z)<|fT [0,2,5,8,15,70,71] [0,2002,2003,2005,2015] ?_
      refine AF.stx (i:=2) rfl (by kernel_rfl) (St.callX [(0,0)] [] [0] rfl (by intro s hs;cases hs;decide) rfl Try.func114 rfl rfl (l04Draw_e g code _ _ hc3) ⟨rfl,rfl,rfl⟩ (⟨⟨0,rfl,rfl⟩,trivial⟩) (pins_cur) rfl) (.inl rfl) rfl ?_
      rintro _ _ ⟨xz7,oz7,hz7,rfl,rfl⟩
      obtain⟨i7,q7,hc7,⟨⟨va7,vb7,vc7,vd7,ve7,vf7,vg7⟩,hw7,rfl⟩,rfl⟩:=hz7
      refine vst 3 rfl (zC [] [] [] Try.func10 (slogAdd_f lJ ⟨va7,vb7,vc7,vd7,ve7,vf7,vg7⟩) (trivial) rfl rfl) (.inr rfl)<|vq 4 (rmX (.tup [.agg [vL _ _ _,vL _ _ _,vI _ _,vI _ _],vI _ _]) rfl)<|pq 5 (qxX (.agg [vL _ _ _,vL _ _ _,vI _ _,vI _ _]) rfl)<|pq 6 (qxI rfl)<|vst 8 rfl (zB 2015 ty.co36 ty.inf36 rfl) (.inl rfl)<|vq 9 (raI rfl)<|fD<|gA<|lmI Z<|lbB Z<|nG ?_
      refine AW.cond rfl ?_ ?_
      ·intro h8
       refine aL<|loX (.agg [vL _ _ _,vL _ _ _,vI _ _,vI _ _]) ty.kd36 Z<|lst (zB 2005 ty.co36 ty.inf36 Z) Z<|lN<|gB<|gT<|aL<|lmI Z<|lgI Z<|laI Z<|nG ?_
       refine⟨(_,_,nJ-1,lgAddL lJ (⟨va7,vb7,vc7,vd7,ve7,vf7,vg7⟩)),⟨by assumption,hlJ.add hn (by have h:=h8;simpa using h)⟩,by show (nJ-1).toNat<nJ.toNat;omega,⟨rfl,trivial⟩,⟨rfl,rfl,trivial⟩,rfl,rfl⟩
      ·intro h8
       refine aK<|gB<|gT<|aL<|lmI Z<|lgI Z<|laI Z<|nG ?_
       refine⟨(_,_,nJ-1,lJ),⟨by assumption,hlJ.same hn⟩,by show (nJ-1).toNat<nJ.toNat;omega,⟨rfl,trivial⟩,⟨rfl,rfl,trivial⟩,rfl,rfl⟩
    ·refine AF1.stx (i:=2) rfl (St.callX [(0,0)] [] [0] rfl (by intro s hs;cases hs;decide) rfl Try.func114 rfl rfl (l04Draw_e g code _ _ hc3) ⟨rfl,rfl,rfl⟩ (⟨⟨0,rfl,rfl⟩,trivial⟩) (pins_cur) rfl) (.inl rfl) rfl ?_
     rintro _ _ ⟨xz8,oz8,hz8,rfl,rfl⟩
     obtain⟨i8,q8,hc8,⟨⟨va8,vb8,vc8,vd8,ve8,vf8,vg8⟩,hw8,rfl⟩,rfl⟩:=hz8
     refine fT [0,2,5,8,72] [0,2002,2003,2005] ?_
     refine sq 0 (roX (.agg [vL _ _ _,vL _ _ _,vI _ _,vI _ _]) ty.kd36 rfl) ?_
     refine AF.two (i:=3) (j:=7) (by kernel_rfl) ?_ ?_
     ·refine v1 3 rfl (zC [] [] [] Try.func10 (slogAdd_f lJ ⟨va8,vb8,vc8,vd8,ve8,vf8,vg8⟩) (trivial) rfl rfl) (.inr rfl)<|pq 4 (qmX (.tup [.agg [vL _ _ _,vL _ _ _,vI _ _,vI _ _],vI _ _]) rfl)<|pq 5 (qxX (.agg [vL _ _ _,vL _ _ _,vI _ _,vI _ _]) rfl)<|pq 6 (qxI rfl)<|vst 7 rfl (zA 2015 ty.ze36 rfl) (.inr rfl)<|vst 8 rfl (zB 2015 ty.co36 ty.inf36 rfl) (.inl rfl)<|vq 9 (raI rfl)<|fD<|gA<|lmI Z<|lbB Z<|nG ?_
      refine AW.cond rfl ?_ ?_
      ·intro h9
       refine aL<|loX (.agg [vL _ _ _,vL _ _ _,vI _ _,vI _ _]) ty.kd36 Z<|lst (zB 2005 ty.co36 ty.inf36 Z) Z<|lN<|gB<|gT<|aL<|lmI Z<|lgI Z<|laI Z<|nG ?_
       refine⟨(_,_,nJ-1,lgAddL lJ (⟨va8,vb8,vc8,vd8,ve8,vf8,vg8⟩)),⟨by assumption,hlJ.add hn (by have h:=h9;simpa using h)⟩,by show (nJ-1).toNat<nJ.toNat;omega,⟨rfl,trivial⟩,⟨rfl,rfl,trivial⟩,rfl,rfl⟩
      ·intro h9
       refine aK<|gB<|gT<|aL<|lmI Z<|lgI Z<|laI Z<|nG ?_
       refine⟨(_,_,nJ-1,lJ),⟨by assumption,hlJ.same hn⟩,by show (nJ-1).toNat<nJ.toNat;omega,⟨rfl,trivial⟩,⟨rfl,rfl,trivial⟩,rfl,rfl⟩
     ·refine v1 7 Z (zA 2015 ty.ze36 Z) (.inr Z)<|fT [0,2,5,8,15,70,72] [0,2002,2003,2005,2015] ?_
      refine vst 3 rfl (zC [] [] [] Try.func10 (slogAdd_f lJ ⟨va8,vb8,vc8,vd8,ve8,vf8,vg8⟩) (trivial) rfl rfl) (.inr rfl)<|vq 4 (rmX (.tup [.agg [vL _ _ _,vL _ _ _,vI _ _,vI _ _],vI _ _]) rfl)<|pq 5 (qxX (.agg [vL _ _ _,vL _ _ _,vI _ _,vI _ _]) rfl)<|pq 6 (qxI rfl)<|vst 8 rfl (zB 2015 ty.co36 ty.inf36 rfl) (.inl rfl)<|vq 9 (raI rfl)<|fD<|gA<|lmI Z<|lbB Z<|nG ?_
      refine AW.cond rfl ?_ ?_
      ·intro h10
       refine aL<|loX (.agg [vL _ _ _,vL _ _ _,vI _ _,vI _ _]) ty.kd36 Z<|lst (zB 2005 ty.co36 ty.inf36 Z) Z<|lN<|gB<|gT<|aL<|lmI Z<|lgI Z<|laI Z<|nG ?_
       refine⟨(_,_,nJ-1,lgAddL lJ (⟨va8,vb8,vc8,vd8,ve8,vf8,vg8⟩)),⟨by assumption,hlJ.add hn (by have h:=h10;simpa using h)⟩,by show (nJ-1).toNat<nJ.toNat;omega,⟨rfl,trivial⟩,⟨rfl,rfl,trivial⟩,rfl,rfl⟩
      ·intro h10
       refine aK<|gB<|gT<|aL<|lmI Z<|lgI Z<|laI Z<|nG ?_
       refine⟨(_,_,nJ-1,lJ),⟨by assumption,hlJ.same hn⟩,by show (nJ-1).toNat<nJ.toNat;omega,⟨rfl,trivial⟩,⟨rfl,rfl,trivial⟩,rfl,rfl⟩
    ·refine v1 7 Z (zA 2015 ty.ze36 Z) (.inr Z)<|fT [0,2,5,8,15,71] [0,2002,2003,2005,2015] ?_
     refine AF.two (i:=0) (j:=2) (by kernel_rfl) ?_ ?_
     ·refine AF1.rd (i:=0) (x:=.agg [vL _ _ _,vL _ _ _,vI _ _,vI _ _]) rfl (rd_load_box rfl ty.kd36 rfl rfl rfl rfl) rfl rfl (by decide) ?_
      refine AF.stx (i:=2) rfl (by kernel_rfl) (St.callX [(0,0)] [] [0] rfl (by intro s hs;cases hs;decide) rfl Try.func114 rfl rfl (l04Draw_e g code _ _ hc3) ⟨rfl,rfl,rfl⟩ (⟨⟨0,rfl,rfl⟩,trivial⟩) (pins_cur) rfl) (.inl rfl) rfl ?_
      rintro _ _ ⟨xz9,oz9,hz9,rfl,rfl⟩
      obtain⟨i9,q9,hc9,⟨⟨va9,vb9,vc9,vd9,ve9,vf9,vg9⟩,hw9,rfl⟩,rfl⟩:=hz9
      refine vst 3 rfl (zC [] [] [] Try.func10 (slogAdd_f lJ ⟨va9,vb9,vc9,vd9,ve9,vf9,vg9⟩) (trivial) rfl rfl) (.inr rfl)<|vq 4 (rmX (.tup [.agg [vL _ _ _,vL _ _ _,vI _ _,vI _ _],vI _ _]) rfl)<|pq 5 (qxX (.agg [vL _ _ _,vL _ _ _,vI _ _,vI _ _]) rfl)<|pq 6 (qxI rfl)<|vst 8 rfl (zB 2015 ty.co36 ty.inf36 rfl) (.inl rfl)<|vq 9 (raI rfl)<|fD<|gA<|lmI Z<|lbB Z<|nG ?_
      refine AW.cond rfl ?_ ?_
      ·intro h11
       refine aL<|loX (.agg [vL _ _ _,vL _ _ _,vI _ _,vI _ _]) ty.kd36 Z<|lst (zB 2005 ty.co36 ty.inf36 Z) Z<|lN<|gB<|gT<|aL<|lmI Z<|lgI Z<|laI Z<|nG ?_
       refine⟨(_,_,nJ-1,lgAddL lJ (⟨va9,vb9,vc9,vd9,ve9,vf9,vg9⟩)),⟨by assumption,hlJ.add hn (by have h:=h11;simpa using h)⟩,by show (nJ-1).toNat<nJ.toNat;omega,⟨rfl,trivial⟩,⟨rfl,rfl,trivial⟩,rfl,rfl⟩
      ·intro h11
       refine aK<|gB<|gT<|aL<|lmI Z<|lgI Z<|laI Z<|nG ?_
       refine⟨(_,_,nJ-1,lJ),⟨by assumption,hlJ.same hn⟩,by show (nJ-1).toNat<nJ.toNat;omega,⟨rfl,trivial⟩,⟨rfl,rfl,trivial⟩,rfl,rfl⟩
     ·refine AF1.stx (i:=2) rfl (St.callX [(0,0)] [] [0] rfl (by intro s hs;cases hs;decide) rfl Try.func114 rfl rfl (l04Draw_e g code _ _ hc3) ⟨rfl,rfl,rfl⟩ (⟨⟨0,rfl,rfl⟩,trivial⟩) (pins_cur) rfl) (.inl rfl) rfl ?_
      rintro _ _ ⟨xz10,oz10,hz10,rfl,rfl⟩
      obtain⟨i10,q10,hc10,⟨⟨va10,vb10,vc10,vd10,ve10,vf10,vg10⟩,hw10,rfl⟩,rfl⟩:=hz10
      refine fT [0,2,5,8,15,72] [0,2002,2003,2005,2015] ?_
      refine vq 0 (roX (.agg [vL _ _ _,vL _ _ _,vI _ _,vI _ _]) ty.kd36 rfl) ?_
      refine vst 3 rfl (zC [] [] [] Try.func10 (slogAdd_f lJ ⟨va10,vb10,vc10,vd10,ve10,vf10,vg10⟩) (trivial) rfl rfl) (.inr rfl)<|vq 4 (rmX (.tup [.agg [vL _ _ _,vL _ _ _,vI _ _,vI _ _],vI _ _]) rfl)<|pq 5 (qxX (.agg [vL _ _ _,vL _ _ _,vI _ _,vI _ _]) rfl)<|pq 6 (qxI rfl)<|vst 8 rfl (zB 2015 ty.co36 ty.inf36 rfl) (.inl rfl)<|vq 9 (raI rfl)<|fD<|gA<|lmI Z<|lbB Z<|nG ?_
      refine AW.cond rfl ?_ ?_
      ·intro h12
       refine aL<|loX (.agg [vL _ _ _,vL _ _ _,vI _ _,vI _ _]) ty.kd36 Z<|lst (zB 2005 ty.co36 ty.inf36 Z) Z<|lN<|gB<|gT<|aL<|lmI Z<|lgI Z<|laI Z<|nG ?_
       refine⟨(_,_,nJ-1,lgAddL lJ (⟨va10,vb10,vc10,vd10,ve10,vf10,vg10⟩)),⟨by assumption,hlJ.add hn (by have h:=h12;simpa using h)⟩,by show (nJ-1).toNat<nJ.toNat;omega,⟨rfl,trivial⟩,⟨rfl,rfl,trivial⟩,rfl,rfl⟩
      ·intro h12
       refine aK<|gB<|gT<|aL<|lmI Z<|lgI Z<|laI Z<|nG ?_
       refine⟨(_,_,nJ-1,lJ),⟨by assumption,hlJ.same hn⟩,by show (nJ-1).toNat<nJ.toNat;omega,⟨rfl,trivial⟩,⟨rfl,rfl,trivial⟩,rfl,rfl⟩
 ·intro h1
  refine aE<|eT<|eT<|eB<|gA<|loX (.agg [vL _ _ _,vL _ _ _,vI _ _,vI _ _]) ty.kd36 Z<|lst (zB 2002 ty.co36 ty.inf36 Z) Z<|lT [2] [0,2002,2003,2005] ?_
  refine nG<|aR ?_
  refine end_xret (logV lJ) [(0,curO g code iJ qJ)] ?_ rfl ⟨rfl,trivial⟩
  exact⟨_,_,hcJ,⟨lJ,fun _=>hlJ.ok,hlJ.by_,rfl⟩,rfl⟩
def DrO:AV→List (Nat×AO)→Prop:=fun x ob=>∃d,DkB d∧x=diskV d∧ob=[]
theorem drawLogOpen_e(code:List Int)(hm:code.length≤1048576):GX Try.prog 28 [.p (.lst 5 1 (rowsOf encU8 code))] [] (DrO):=by
 refine GX.intro (rs:=[.cell 2 34 (some 2)]) Try.func28 rfl Try.ntmps28 (Nat.le_of_ble_eq_true rfl) ⟨rfl,rfl,ty.kd34,trivial⟩ ?_
 intro L O w0
 refine sL<|lst (zA 2002 ty.ze34 Z) Z<|nA<|lmL Z ?_
 refine lX [(31,0)] [0] [] Try.func66 (l01New_e code hm) (trivial) (fun _ _ _=>trivial) Z ?_
 intro xz1 oz1 hz1
 obtain⟨q1,rfl,rfl⟩:=hz1
 refine laP Z<|nA<|lmP Z ?_
 refine AL.pinB 0 rfl ?_
 intro g
 have hc:CurOk code 0:=⟨Nat.zero_le _,hm⟩
 refine lX [(0,0)] [] [0] Try.func68 (l05Draw_e g code _ _ hc) (⟨⟨0,rfl,rfl⟩,trivial⟩) (pins_cur) Z ?_
 intro xz2 oz2 hz2
 obtain⟨i2,q2,hc2,⟨lD,hokD,hbD,rfl⟩,rfl⟩:=hz2
 refine lq (rd (x:=.agg [vL _ _ _,vL _ _ _]) (rd_field Z ty.fl36_0 ty.kd34 Z) Z)<|lmP Z ?_
 refine lX [(0,0)] [] [0] Try.func69 (l01Below_e g code _ _ _ hc2) (⟨⟨0,rfl,rfl⟩,trivial⟩) (pins_cur) Z ?_
 intro xz3 oz3 hz3
 obtain⟨i3,q3,hc3,⟨n3,⟨na3,nb3⟩,rfl⟩,rfl⟩:=hz3
 refine lst (zS 2015 (rowsOf encKey [128,n3,0,128]) ty.el112 ty.ze3 rfl (by intro r hr;simp[rowsOf]at hr;rcases hr with h|h|h|h<;>(subst h;rfl))) rfl ?_
 refine AL.freeze 2015 rfl ?_
 refine lst (zC [(1,1),(2,2)] [1,2] [] Try.func67 (sdiskCrash_o lD.disk [128,n3,0,128] (hokD trivial)) (trivial) Z Z) Z<|lst (zA 2004 ty.ze34 Z) Z<|lst (zB 2004 ty.co34 ty.inf34 Z) Z<|nA<|lmP Z ?_
 refine lX [(0,0)] [] [0] Try.func69 (l01Below_e g code _ _ _ hc3) (⟨⟨0,rfl,rfl⟩,trivial⟩) (pins_cur) Z ?_
 intro xz4 oz4 hz4
 obtain⟨i4,q4,hc4,⟨n4,⟨na4,nb4⟩,rfl⟩,rfl⟩:=hz4
 refine lT [2,3,4,18] [0,1,2,2002,2004] ?_
 refine laI Z<|nG ?_
 refine aJ [2,4,5] [2002,2004] (D:=Nat×Int×List Cell×List Write) (fun d=>[]) (fun d=>[(0,curO g code d.1 d.2.1),(1,.arr 115 1 (rowsC d.2.2.1)),(2,.arr 123 2 (rowsW d.2.2.2))]) (fun d=>CurOk code d.1∧DkB ⟨d.2.2.1,d.2.2.2⟩∧(n4=1→1≤d.2.2.1.length)) ?_ ?_
 ·refine sL<|lmI Z<|lbB Z<|nG ?_
  refine AW.cond rfl ?_ ?_
  ·intro h1
   refine aL<|lmP Z ?_
   refine lX [(0,0),(1,81),(2,82)] [81,82] [0] Try.func70 (l03AnyDisk_e g code _ _ hc4) (⟨⟨0,rfl,rfl⟩,trivial⟩) (pins_curX) Z ?_
   intro xz5 oz5 hz5
   obtain⟨i5,q5,_,hc5,⟨⟨cD,wD⟩,hbE,rfl,rfl⟩,rfl⟩:=hz5
   refine lst (zB 2004 ty.co34 ty.inf34 rfl) rfl ?_
   refine AL.swap 81 1 ?_
   refine AL.swap 82 2 ?_
   refine nG ?_
   refine⟨(_,_,_,_),⟨by assumption,by assumption,fun q=>by have h:=h1;simp only[decide_eq_true_eq]at h;omega⟩,trivial,⟨rfl,rfl,rfl,trivial⟩,rfl,rfl⟩
  ·intro h1
   refine aK<|gT ?_
   refine⟨(_,_,(diskC lD.disk [128,n3,0,128]).cells,(diskC lD.disk [128,n3,0,128]).dirty),⟨by assumption,(crash_ok (keep:=[128,n3,0,128]) (hokD trivial) hbD).2.1,fun _=>(dok_iff (crash_ok (keep:=[128,n3,0,128]) (hokD trivial) hbD).1).1.1⟩,trivial,⟨rfl,rfl,rfl,trivial⟩,rfl,rfl⟩
 ·intro ⟨iJ6,qJ6,cJ6,wJ6⟩ hJ6
  dsimp only
  obtain⟨hcJ6,hbJ6,hxJ⟩:=hJ6
  simp only at hcJ6 hbJ6 hxJ
  refine aJ [2,4] [2002,2004] (D:=Nat×Int×List Cell×List Write) (fun d=>[]) (fun d=>[(0,curO g code d.1 d.2.1),(1,.arr 115 1 (rowsC d.2.2.1)),(2,.arr 123 2 (rowsW d.2.2.2))]) (fun d=>CurOk code d.1∧DkB ⟨d.2.2.1,d.2.2.2⟩) ?_ ?_
  ·refine sL<|lmI Z<|lbB Z<|nG ?_
   refine AW.cond rfl ?_ ?_
   ·intro h2
    refine sL<|lq (rd (x:=.agg [vI _ _,vI _ _,vV _]) (rd_build Z ty.sa92 Z Z Z) Z) ?_
    refine AL.imp 26 rfl (Imp.agg (ImpL.cons (Imp.refl _) (ImpL.cons (Imp.refl _) (ImpL.cons (Imp.nil 5 1) ImpL.nil)))) ?_
    refine lst (zC [] [] [] Try.func44 (ssectorBytes_e (⟨0,16000000,[]⟩:Sector)) (trivial) rfl rfl) rfl ?_
    refine AL.slot 27 (.tup [byV (secB (⟨0,16000000,[]⟩:Sector)),boo true]) (Eq.trans (b:=AV.tup [byV (secX (⟨0,16000000,[]⟩:Sector)),boo (secOk (⟨0,16000000,[]⟩:Sector))]) rfl (by rw[secX_y (by decide),show secOk (⟨0,16000000,[]⟩:Sector)=true by decide])) ?_
    refine lmX (.tup [vL _ _ _,vB _]) Z<|lxL Z<|lxB Z<|laL Z<|laB Z<|nG ?_
    have hl0:0<cJ6.length:=hxJ (by have h:=h2;simpa using h)
    refine aL<|lf 0 ty.F34_0 Z<|loO ty.kd31 Z<|lmL Z<|lq (rj 0 ty.el31 rfl (by rw[rowsC_len];exact hl0))<|lf 0 ty.F115_0 rfl ?_
    refine lst (zQ 1 [lstB (secB (⟨0,16000000,[]⟩:Sector))] ty.co56 ty.inf56 rfl (rowsC_at hl0)) Z<|lT [2,4] [0,1,2,2002,2004] ?_
    refine nG ?_
    refine⟨(_,_,_,_),⟨by assumption,by first|assumption|exact dkb_setc (by assumption) (secB_ok .nil (Nat.zero_le _))⟩,trivial,⟨rfl,(congrArg (AO.arr 115 1) rowsC_set),rfl,trivial⟩,rfl,rfl⟩
   ·intro h2
    refine aK<|gT ?_
    refine⟨(_,_,_,_),⟨by assumption,by first|assumption|exact dkb_setc (by assumption) (secB_ok .nil (Nat.zero_le _))⟩,trivial,⟨rfl,rfl,rfl,trivial⟩,rfl,rfl⟩
  ·intro ⟨iJ9,qJ9,cJ9,wJ9⟩ hJ9
   dsimp only
   obtain⟨hcJ9,hbJ9⟩:=hJ9
   simp only at hcJ9 hbJ9
   refine aS ?_
   refine AW.freeze 1 rfl ?_
   refine AW.freeze 2 rfl ?_
   refine aL<|loX (.agg [vL _ _ _,vL _ _ _]) ty.kd34 Z<|lst (zB 2002 ty.co34 ty.inf34 Z) Z<|nG<|aR ?_
   refine end_xret (diskV ⟨cJ9,wJ9⟩) [] ?_ rfl trivial
   exact⟨⟨cJ9,wJ9⟩,hbJ9,rfl,rfl⟩
end Go.Proofs.Yteblcdnhnckkaaa

