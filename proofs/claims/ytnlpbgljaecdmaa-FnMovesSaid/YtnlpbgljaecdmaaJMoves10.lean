/- FnMoves is proved: the given statement holds with no condition. Texts joined: EM0, Fil, EM1, LFnMoves, CFnMoves. -/
import Derived.Test.YtnlpbgljaecdmaaJMoves9
import Derived.Test.YtnlpbgljaecdmaaJMoves5
import Derived.Test.YtnlpbgljaecdmaaJMoves3
import Derived.Test.YtnlpbgljaecdmaaRows
import Derived.Test.YtnlpbgljaecdmaaKOpn
namespace Go.Proofs.Ytnlpbgljaecdmaa
open Go.RowKit
set_option maxHeartbeats 16000000
set_option maxRecDepth 100000
set_option linter.unusedSimpArgs false
set_option linter.unusedVariables false
theorem mapp{α:Type}(enc:α→List Value)(xs ys:List α):rowsOf enc (xs++ys)=rowsOf enc xs++rowsOf enc ys:=List.map_append
abbrev eAr(l:List Edge):AO:=.arr 40 4 (rowsOf encEdge l)
abbrev mAr(l:List Move):AO:=.arr 52 4 (rowsOf encMove l)
section
variable {x:Book}{lo hi gain:Int}{l:List Price}{D:List Edge}{k:Nat}
theorem over_y(hk:k<x.chans.length)(h:ends2 x.chans[k].size lo hi<x.chans[k].loc):eAr (upK (overE lo hi) x.chans k++[⟨0,(k:Int)+1,capE (x.chans[k].loc-ends2 x.chans[k].size lo hi),0⟩])=eAr (upK (overE lo hi) x.chans (k+1)):=by rw[upK_succ hk,overE_yes h]
theorem over_n(hk:k<x.chans.length)(h:¬ends2 x.chans[k].size lo hi<x.chans[k].loc):eAr (upK (overE lo hi) x.chans k)=eAr (upK (overE lo hi) x.chans (k+1)):=by rw[upK_succ hk,overE_no h,List.append_nil]
theorem under_y(hk:k<x.chans.length)(h:x.chans[k].loc<ends1 x.chans[k].size lo hi):eAr (D++upK (underE lo hi gain) x.chans k++[⟨(k:Int)+1,0,capE (ends1 x.chans[k].size lo hi-x.chans[k].loc),-gain⟩])=eAr (D++upK (underE lo hi gain) x.chans (k+1)):=by rw[upK_succ hk,underE_yes h,List.append_assoc]
theorem under_n(hk:k<x.chans.length)(h:¬x.chans[k].loc<ends1 x.chans[k].size lo hi):eAr (D++upK (underE lo hi gain) x.chans k)=eAr (D++upK (underE lo hi gain) x.chans (k+1)):=by rw[upK_succ hk,underE_no h,List.append_nil]
theorem price_y{cs:List Chan}(hk:k<l.length):eAr (D++(l.take k).map (priceE cs)++[priceE cs l[k]])=eAr (D++(l.take (k+1)).map (priceE cs)):=by rw[List.take_succ_eq_append_getElem hk,List.map_append,List.append_assoc];rfl
theorem len_over(k:Nat):(upK (overE lo hi) x.chans k).length≤k:=upK_len (overE_len lo hi) k
theorem len_under(k:Nat):(upK (underE lo hi gain) x.chans k).length≤k:=upK_len (underE_len lo hi gain) k
theorem clamp_cap{n:Int}(h:0≤n):clamp n 0 1000000000=capE n:=by unfold clamp capE;split<;>(try split)<;>omega
theorem planG_ok(h:planOk x lo hi gain l=true):planG x lo hi gain l=⟨(x.chans.length:Int)+1,planE x.chans lo hi gain l⟩:=if_pos h
theorem plan_all:eAr ((upK (overE lo hi) x.chans x.chans.length++upK (underE lo hi gain) x.chans x.chans.length)++(l.take l.length).map (priceE x.chans))=eAr (planE x.chans lo hi gain l):=by unfold planE;rw[List.take_length]
theorem planG_no(h:planOk x lo hi gain l=false):planG x lo hi gain l=⟨0,[]⟩:=if_neg (by simp[h])
end
theorem cap_e(n:Int):GC Try.prog 28 [int n] [] (int (clamp n 0 1000000000)) []:=by
 refine gi 2 Try.func28 rfl Try.ntmps28 rfl ?_
 intro L O w0
 refine sL<|laI Z<|nA<|lmI Z<|lst (zC [] [] [] Try.func48 (clamp_e _ _ _) (trivial) Z Z) Z<|laI Z<|nG<|aR ?_
 refine end_ret ?_ trivial
 rfl
theorem cap_y{n:Int}(h:0≤n):GC Try.prog 28 [int n] [] (int (capE n)) []:=by
 have q:=cap_e n
 rwa [clamp_cap h]at q
theorem plan_e(x:Book)(lo hi gain:Int)(l:List Price)(hw:BookWf x)(hl:PricesWf l)(hn:l.length≤1048576):GC Try.prog 7 [bookV x,int lo,int hi,int gain,pricesV l] [] (.tup [.agg [int (planG x lo hi gain l).n,.own 1],boo (planOk x lo hi gain l)]) [(1,eAr (planG x lo hi gain l).edges)]:=by
 refine GC.intro (rs:=[.cell 10 36 (some 2),.tmp 11]) Try.func7 rfl Try.ntmps7 (Nat.le_of_ble_eq_true rfl) ⟨rfl,rfl,ty.kd36,rfl,trivial⟩ ?_
 intro L O w0
 refine sL<|lst (zX 2005 Z) Z<|lst (zA 2010 ty.ze36 Z) Z<|laZ Z<|nG<|aS<|sL<|loX (.agg [vI _ _,vI _ _,vI _ _,vL _ _ _,vL _ _ _,vL _ _ _]) ty.kd27 Z<|lmL Z<|lst (zC [] [] [] Try.func14 (pricesOk_e x l hw hl hn) (trivial) Z Z) Z<|luB Z<|lmB Z ?_
 refine AL.bool (t:=27) rfl ?_ ?_
 ·intro h1
  refine lno Z<|lno Z<|lno Z<|lno Z<|lkT Z<|lmT Z<|lno Z<|lno Z<|lno Z<|lkT Z<|nG<|aY Z<|sL<|lq (rd (x:=.agg [vI _ _,vV _]) (rd_build Z ty.sa36 Z Z Z) Z)<|lst (zB 2010 ty.co36 ty.inf36 Z) Z<|laZ Z<|nG ?_
  refine AW.adoptB 1 2010 1 40 4 rfl (by decide) rfl ?_
  refine aR<|rT ?_
  have hbk:planOk x lo hi gain l=false:=by unfold planOk;first|(simp_all;done)|(simp_all[inB];done)|(simp_all[inB];omega)
  rw[hbk,planG_no hbk]

  refine end_ret ?_ ⟨rfl,trivial⟩
  rfl
 ·intro h1
  refine lmI Z<|lmI Z<|lst (zC [] [] [] Try.func15 (band_e lo hi) (trivial) Z Z) Z<|lT [1,2,3,4,5,10,11,27,30] [2005,2010] ?_
  refine luB Z<|lkB Z<|lmB Z ?_
  refine AL.bool (t:=33) rfl ?_ ?_
  ·intro h2
   refine lno Z<|lno Z<|lno Z<|lkT Z<|nG<|aY Z<|sL<|lq (rd (x:=.agg [vI _ _,vV _]) (rd_build Z ty.sa36 Z Z Z) Z)<|lst (zB 2010 ty.co36 ty.inf36 Z) Z<|laZ Z<|nG ?_
   refine AW.adoptB 1 2010 1 40 4 rfl (by decide) rfl ?_
   refine aR<|rT ?_
   have hbk:planOk x lo hi gain l=false:=by unfold planOk;first|(simp_all;done)|(simp_all[inB];done)|(simp_all[inB];omega)
   rw[hbk,planG_no hbk]

   refine end_ret ?_ ⟨rfl,trivial⟩
   rfl
  ·intro h2
   refine lmI Z<|lst (zC [] [] [] Try.func16 (inb_e _ _ _) (trivial) Z Z) Z<|luB Z<|lkB Z<|nG ?_
   refine AW.cond rfl ?_ ?_
   ·intro h3
    refine sL<|lq (rd (x:=.agg [vI _ _,vV _]) (rd_build Z ty.sa36 Z Z Z) Z)<|lst (zB 2010 ty.co36 ty.inf36 Z) Z<|laZ Z<|nG ?_
    refine AW.adoptB 1 2010 1 40 4 rfl (by decide) rfl ?_
    refine aR<|rT ?_
    have hbk:planOk x lo hi gain l=false:=by unfold planOk;first|(simp_all;done)|(simp_all[inB];done)|(simp_all[inB];omega)
    rw[hbk,planG_no hbk]

    refine end_ret ?_ ⟨rfl,trivial⟩
    rfl
   ·intro h3
    refine aK<|gT<|aS ?_
    have hok:planOk x lo hi gain l=true:=by unfold planOk;first|(simp_all;done)|(simp_all[inB];done)|(simp_all[inB];omega)
    obtain⟨hc20,hl20,hloc,hg1,hg2⟩:=planOk_facts hok
    have ho2:=len_over (x:=x) (lo:=lo) (hi:=hi) x.chans.length
    have hu2:=len_under (x:=x) (lo:=lo) (hi:=hi) (gain:=gain) x.chans.length
    refine aL<|lf 3 ty.F27_3 Z<|loL ty.kd23 Z<|lnI ty.sl23 Z ?_
    refine AL.slot 41 (int (x.chans.length:Int)) (congrArg (fun n:Nat=>int (n:Int)) (length_rowsOf _ _)) ?_
    refine lgI Z<|lq (rd (x:=.agg [vI _ _,vV _]) (rd_build Z ty.sa36 Z Z Z) Z)<|lst (zA 2012 ty.ze36 Z) Z<|lT [1,2,3,4,5,10,11,12,43] [2005,2010,2012] ?_
    refine lst (zB 2012 ty.co36 ty.inf36 Z) Z<|nG<|aS<|sL<|lf 3 ty.F27_3 Z<|loL ty.kd23 Z<|lnI ty.sl23 Z ?_
    refine AL.slot 46 (int (x.chans.length:Int)) (congrArg (fun n:Nat=>int (n:Int)) (length_rowsOf _ _)) ?_
    refine lmI Z<|nG<|aB ?_
    refine AW.adoptB 1 2012 1 40 4 rfl (by decide) rfl ?_
    refine aW [1,2,3,4,5,10,11,12,45,46] [2005,2010] (D:=Nat) (fun d=>[(47,int (d:Int))]) (fun d=>[(2012,.box 36 none [int ((x.chans.length:Int)+1),.own 1]),(1,eAr (upK (overE lo hi) x.chans d))]) (fun d=>d≤x.chans.length) (fun d=>x.chans.length-d) (0) (Nat.zero_le _) ⟨rfl,trivial⟩ ⟨rfl,rfl,trivial⟩ ?_
    intro k hI
    replace hI:k≤x.chans.length:=hI
    refine sL<|lbB Z<|nG<|aS ?_
    refine AW.cond rfl ?_ ?_
    ·intro h4
     refine aK<|gT<|aS<|aB<|aS ?_
     have hk:k<x.chans.length:=by have h:=h4;simp only[decide_eq_true_eq]at h;omega
     have hcl:=hloc _ (List.getElem_mem hk)
     have he:=ends_bd (size:=x.chans[k].size) (lo:=lo) (hi:=hi)
     have ho:=len_over (x:=x) (lo:=lo) (hi:=hi) k
     have hun:=len_under (x:=x) (lo:=lo) (hi:=hi) (gain:=gain) k
     refine aL<|lmI Z<|li k ty.el23 Z (row_map hk)<|lrX (.agg [vI _ _,vI _ _,vI _ _,vI _ _,vI _ _,vI _ _,vI _ _]) ty.kd57 Z<|lst (zA 2014 ty.ze57 Z) Z<|laI Z<|lst (zB 2014 ty.co57 ty.inf57 Z) Z<|nA<|loX (.agg [vI _ _,vI _ _,vI _ _,vI _ _,vI _ _,vI _ _,vI _ _]) ty.kd57 Z<|lmI Z<|lmI Z<|lst (zC [] [] [] Try.func17 (ends_e lo hi x.chans[k]) (trivial) Z Z) Z<|lT [1,2,3,4,5,10,11,12,13,14,45,46,47,56] [1,2005,2010,2012,2014] ?_
     refine lmX (.tup [vI _ _,vI _ _]) Z<|lxI Z<|lxI Z<|laI Z<|laI Z<|nA<|lf 2 ty.F57_2 Z<|loI ty.kd3 Z<|lmI Z<|lbB Z<|nG ?_
     refine AW.cond rfl ?_ ?_
     ·intro h5
      refine aL<|lf 1 ty.F36_1 Z<|loO ty.kd34 Z<|lmI Z<|lgI Z<|lf 2 ty.F57_2 Z<|loI ty.kd3 Z<|lmI Z<|lgI Z<|lq (rd (x:=vI _ _) (rd_min Z Z) Z)<|lq (rd (x:=.agg [vI _ _,vI _ _,vI _ _,vI _ _]) (rd_build Z ty.sa40 Z Z Z) Z) ?_
      refine lst (zS 2073 (rowsOf encEdge [⟨0,(k:Int)+1,capE (x.chans[k].loc-ends2 x.chans[k].size lo hi),0⟩]) ty.el34 ty.ze40 rfl) Z<|lT [1,2,3,4,5,10,11,12,45,46,47,64,73] [1,2005,2010,2012,2014,2073] ?_
      refine lst (zP 1 ty.el34 ty.ze40 ty.by40 rfl (Src.own rfl rfl) (by simp[rowsOf];omega)) Z<|lf 1 ty.F36_1 Z<|lst (zB 2012 ty.co34 ty.inf34 rfl) Z<|lN<|gB<|gT<|aL<|lgI Z<|lmI Z<|nG ?_
      refine⟨(k+1),hk,by show x.chans.length-(k+1)<x.chans.length-k;omega,⟨(iq rfl),trivial⟩,⟨rfl,(Eq.trans (congrArg (AO.arr 40 4) (mapp encEdge _ [_]).symm) (over_y hk (by simpa using h5))),trivial⟩,rfl,rfl⟩
     ·intro h5
      refine aK<|gB<|gT<|aL<|lgI Z<|lmI Z<|nG ?_
      refine⟨(k+1),hk,by show x.chans.length-(k+1)<x.chans.length-k;omega,⟨(iq rfl),trivial⟩,⟨rfl,(over_n hk (by simpa using h5)),trivial⟩,rfl,rfl⟩
    ·intro h4
     refine aE<|eT<|eT<|eB<|gT<|aS<|sL<|lf 3 ty.F27_3 Z<|loL ty.kd23 Z<|lnI ty.sl23 Z ?_
     refine AL.slot 79 (int (x.chans.length:Int)) (congrArg (fun n:Nat=>int (n:Int)) (length_rowsOf _ _)) ?_
     refine lmI Z<|nG<|aB ?_
     have hke:k=x.chans.length:=by have h:=h4;simp only[decide_eq_false_iff_not]at h;omega
     subst hke
     refine aW [1,2,3,4,5,10,11,12,78,79] [2005,2010] (D:=Nat) (fun d=>[(80,int (d:Int))]) (fun d=>[(2012,.box 36 none [int ((x.chans.length:Int)+1),.own 1]),(1,eAr (upK (overE lo hi) x.chans x.chans.length++upK (underE lo hi gain) x.chans d))]) (fun d=>d≤x.chans.length) (fun d=>x.chans.length-d) (0) (Nat.zero_le _) ⟨rfl,trivial⟩ ⟨rfl,(congrArg eAr (List.append_nil _).symm),trivial⟩ ?_
     intro k hI
     replace hI:k≤x.chans.length:=hI
     refine sL<|lbB Z<|nG<|aS ?_
     refine AW.cond rfl ?_ ?_
     ·intro h6
      refine aK<|gT<|aS<|aB<|aS ?_
      have hk:k<x.chans.length:=by have h:=h6;simp only[decide_eq_true_eq]at h;omega
      have hcl:=hloc _ (List.getElem_mem hk)
      have he:=ends_bd (size:=x.chans[k].size) (lo:=lo) (hi:=hi)
      have ho:=len_over (x:=x) (lo:=lo) (hi:=hi) k
      have hun:=len_under (x:=x) (lo:=lo) (hi:=hi) (gain:=gain) k
      refine aL<|lmI Z<|li k ty.el23 Z (row_map hk)<|lrX (.agg [vI _ _,vI _ _,vI _ _,vI _ _,vI _ _,vI _ _,vI _ _]) ty.kd57 Z<|lst (zA 2018 ty.ze57 Z) Z<|lT [1,2,3,4,5,10,11,12,18,78,79,80,82,84] [1,2005,2010,2012,2018] ?_
      refine laI Z<|lst (zB 2018 ty.co57 ty.inf57 Z) Z<|nA<|loX (.agg [vI _ _,vI _ _,vI _ _,vI _ _,vI _ _,vI _ _,vI _ _]) ty.kd57 Z<|lmI Z<|lmI Z<|lst (zC [] [] [] Try.func17 (ends_e lo hi x.chans[k]) (trivial) Z Z) Z<|lmX (.tup [vI _ _,vI _ _]) Z<|lxI Z<|lxI Z<|laI Z<|laI Z<|nA<|lf 2 ty.F57_2 Z<|loI ty.kd3 Z<|lmI Z<|lbB Z<|nG ?_
      refine AW.cond rfl ?_ ?_
      ·intro h7
       refine aL<|lf 1 ty.F36_1 Z<|loO ty.kd34 Z<|lmI Z<|lgI Z<|lmI Z<|lf 2 ty.F57_2 Z<|loI ty.kd3 Z<|lgI Z<|lq (rd (x:=vI _ _) (rd_min rfl rfl) rfl)<|lmI Z<|lq (rd (x:=vI _ _) (rd_un rfl rfl (fits_i64 (by unfold i64;omega))) rfl)<|lq (rd (x:=.agg [vI _ _,vI _ _,vI _ _,vI _ _]) (rd_build rfl ty.sa40 rfl rfl rfl) rfl) ?_
       refine lst (zS 2108 (rowsOf encEdge [⟨(k:Int)+1,0,capE (ends1 x.chans[k].size lo hi-x.chans[k].loc),-gain⟩]) ty.el34 ty.ze40 rfl) Z<|lT [1,2,3,4,5,10,11,12,78,79,80,97,108] [1,2005,2010,2012,2018,2108] ?_
       refine lst (zP 1 ty.el34 ty.ze40 ty.by40 rfl (Src.own rfl rfl) (by simp[rowsOf];omega)) Z<|lf 1 ty.F36_1 Z<|lst (zB 2012 ty.co34 ty.inf34 rfl) Z<|lN<|gB<|gT<|aL<|lgI Z<|lmI Z<|nG ?_
       refine⟨(k+1),hk,by show x.chans.length-(k+1)<x.chans.length-k;omega,⟨(iq rfl),trivial⟩,⟨rfl,(Eq.trans (congrArg (AO.arr 40 4) (mapp encEdge _ [_]).symm) (under_y hk (by simpa using h7))),trivial⟩,rfl,rfl⟩
      ·intro h7
       refine aK<|gB<|gT<|aL<|lgI Z<|lmI Z<|nG ?_
       refine⟨(k+1),hk,by show x.chans.length-(k+1)<x.chans.length-k;omega,⟨(iq rfl),trivial⟩,⟨rfl,(under_n hk (by simpa using h7)),trivial⟩,rfl,rfl⟩
     ·intro h6
      refine aE<|eT<|eT<|eB<|gT<|aS<|sL<|lmL Z<|lnI ty.sl28 Z ?_
      refine AL.slot 113 (int (l.length:Int)) (congrArg (fun n:Nat=>int (n:Int)) (length_rowsOf _ _)) ?_
      refine lmI Z<|nG<|aB ?_
      have hke:k=x.chans.length:=by have h:=h6;simp only[decide_eq_false_iff_not]at h;omega
      subst hke
      refine aW [5,10,11,12,112,113] [2005,2010] (D:=Nat) (fun d=>[(114,int (d:Int))]) (fun d=>[(2012,.box 36 none [int ((x.chans.length:Int)+1),.own 1]),(1,eAr ((upK (overE lo hi) x.chans x.chans.length++upK (underE lo hi gain) x.chans x.chans.length)++(l.take d).map (priceE x.chans)))]) (fun d=>d≤l.length) (fun d=>l.length-d) (0) (Nat.zero_le _) ⟨rfl,trivial⟩ ⟨rfl,(congrArg eAr (List.append_nil _).symm),trivial⟩ ?_
      intro k hI
      replace hI:k≤l.length:=hI
      refine sL<|lbB Z<|nG<|aS ?_
      refine AW.cond rfl ?_ ?_
      ·intro h8
       refine aK<|gT<|aS<|aB<|aS ?_
       have hk:k<l.length:=by have h:=h8;simp only[decide_eq_true_eq]at h;omega
       have c1:=chanAt_bd x.chans l[k].frm
       have c2:=chanAt_bd x.chans l[k].to
       refine aL<|li k ty.el28 Z (row_map hk)<|lrX (.agg [vI _ _,vI _ _,vI _ _]) ty.kd50 Z<|lst (zA 2022 ty.ze50 Z) Z<|lT [5,10,11,12,22,112,113,114,117] [1,2005,2010,2012,2022] ?_
       refine lst (zB 2022 ty.co50 ty.inf50 rfl) Z<|nG<|aF [16,18]<|pq 0 (qf 1 ty.F36_1 rfl)<|sq 1 (roO ty.kd34 rfl)<|sq 2 (roX (.agg [vI _ _,vI _ _,vI _ _,vL _ _ _,vL _ _ _,vL _ _ _]) ty.kd27 rfl)<|pq 3 (qf 0 ty.F50_0 rfl)<|sq 4 (roI ty.kd3 rfl)<|sq 7 (roX (.agg [vI _ _,vI _ _,vI _ _,vL _ _ _,vL _ _ _,vL _ _ _]) ty.kd27 rfl)<|pq 8 (qf 1 ty.F50_1 rfl)<|sq 9 (roI ty.kd3 rfl)<|pq 12 (qf 2 ty.F50_2 rfl)<|sq 13 (roI ty.kd3 rfl)<|vst 5 rfl (zC [] [] [] Try.func18 (impl_chanAt_e x _ hw) (trivial) rfl rfl) (.inr rfl)<|sq 6 (rgI rfl (by unfold i64;omega))<|vst 10 rfl (zC [] [] [] Try.func18 (impl_chanAt_e x _ hw) (trivial) rfl rfl) (.inr rfl)<|fT [5,10,11,12,112,113,114,119,124,128,131] [1,2005,2010,2012,2022] ?_
       refine vq 11 (rgI rfl (by unfold i64;omega))<|vq 14 (rd (x:=.agg [vI _ _,vI _ _,vI _ _,vI _ _]) (rd_build rfl ty.sa40 rfl rfl rfl) rfl)<|vst 15 rfl (zS 2133 (rowsOf encEdge [priceE x.chans l[k]]) ty.el34 ty.ze40 rfl) (.inr rfl)<|vst 16 rfl (zP 1 ty.el34 ty.ze40 ty.by40 rfl (Src.own rfl rfl) (by simp[rowsOf];omega)) (.inl rfl)<|vq 17 (rf 1 ty.F36_1 rfl)<|vst 18 rfl (zB 2012 ty.co34 ty.inf34 rfl) (.inl rfl)<|fD<|gB<|gT<|aL<|lgI Z<|lmI Z<|nG ?_
       refine⟨(k+1),hk,by show l.length-(k+1)<l.length-k;omega,⟨(iq rfl),trivial⟩,⟨rfl,(Eq.trans (congrArg (AO.arr 40 4) (mapp encEdge _ [_]).symm) (price_y hk)),trivial⟩,rfl,rfl⟩
      ·intro h8
       refine aE<|eT<|eT<|eB<|gA<|loX (.agg [vI _ _,.own _]) ty.kd36 Z<|lst (zB 2010 ty.co36 ty.inf36 Z) Z<|laT Z<|nG<|aR ?_
       have hke:k=l.length:=by have h:=h8;simp only[decide_eq_false_iff_not]at h;omega
       subst hke
       rw[hok,planG_ok hok]
       refine end_ret ?_ ⟨(Eq.trans (b:=eAr ((upK (overE lo hi) x.chans x.chans.length++upK (underE lo hi gain) x.chans x.chans.length)++(l.take l.length).map (priceE x.chans))) rfl plan_all),trivial⟩
       rfl
theorem splan_e(x:Book)(lo hi gain:Int)(l:List Price)(hw:BookWf x)(hl:PricesWf l)(hn:l.length≤1048576):GC Try.prog 12 [bookV x,int lo,int hi,int gain,pricesV l] [] (.tup [.agg [int (planG x lo hi gain l).n,.own 1],boo (planOk x lo hi gain l)]) [(1,eAr (planG x lo hi gain l).edges)]:=by
 refine GC.intro (rs:=[.cell 10 36 (some 2),.tmp 11]) Try.func12 rfl Try.ntmps12 (Nat.le_of_ble_eq_true rfl) ⟨rfl,rfl,ty.kd36,rfl,trivial⟩ ?_
 intro L O w0
 refine sL<|lst (zX 2005 Z) Z<|lst (zA 2010 ty.ze36 Z) Z<|laZ Z<|nG<|aS<|sL<|loX (.agg [vI _ _,vI _ _,vI _ _,vL _ _ _,vL _ _ _,vL _ _ _]) ty.kd27 Z<|lmL Z<|lst (zC [] [] [] Try.func25 (spricesOk_e x l hw hl hn) (trivial) Z Z) Z<|luB Z<|lmB Z ?_
 refine AL.bool (t:=27) rfl ?_ ?_
 ·intro h1
  refine lno Z<|lno Z<|lno Z<|lno Z<|lkT Z<|lmT Z<|lno Z<|lno Z<|lkT Z<|lmT Z<|lno Z<|lno Z<|lkT Z<|nG<|aY Z<|sL<|lq (rd (x:=.agg [vI _ _,vV _]) (rd_build Z ty.sa36 Z Z Z) Z)<|lst (zB 2010 ty.co36 ty.inf36 Z) Z<|lT [1,2,3,4,5,10,11] [2005,2010] ?_
  refine laZ Z<|nG ?_
  refine AW.adoptB 1 2010 1 40 4 rfl (by decide) rfl ?_
  refine aR<|rT ?_
  have hbk:planOk x lo hi gain l=false:=by unfold planOk;first|(simp_all;done)|(simp_all[inB];done)|(simp_all[inB];omega)
  rw[hbk,planG_no hbk]

  refine end_ret ?_ ⟨rfl,trivial⟩
  rfl
 ·intro h1
  refine lmI Z<|lmI Z<|lst (zC [] [] [] Try.func26 (sband_e lo hi) (trivial) Z Z) Z<|luB Z<|lkB Z<|lmB Z ?_
  refine AL.bool (t:=33) rfl ?_ ?_
  ·intro h2
   refine lno Z<|lno Z<|lkT Z<|lmT Z<|lno Z<|lno Z<|lkT Z<|nG<|aY Z<|sL<|lq (rd (x:=.agg [vI _ _,vV _]) (rd_build Z ty.sa36 Z Z Z) Z)<|lst (zB 2010 ty.co36 ty.inf36 Z) Z<|laZ Z<|nG ?_
   refine AW.adoptB 1 2010 1 40 4 rfl (by decide) rfl ?_
   refine aR<|rT ?_
   have hbk:planOk x lo hi gain l=false:=by unfold planOk;first|(simp_all;done)|(simp_all[inB];done)|(simp_all[inB];omega)
   rw[hbk,planG_no hbk]

   refine end_ret ?_ ⟨rfl,trivial⟩
   rfl
  ·intro h2
   refine lmI Z<|lbB Z<|lkB Z<|lmB Z ?_
   refine AL.bool (t:=37) rfl ?_ ?_
   ·intro h3
    refine lno Z<|lno Z<|lkT Z<|nG<|aY Z<|sL<|lq (rd (x:=.agg [vI _ _,vV _]) (rd_build Z ty.sa36 Z Z Z) Z)<|lst (zB 2010 ty.co36 ty.inf36 Z) Z<|lT [1,2,3,4,5,10,11] [2005,2010] ?_
    refine laZ Z<|nG ?_
    refine AW.adoptB 1 2010 1 40 4 rfl (by decide) rfl ?_
    refine aR<|rT ?_
    have hbk:planOk x lo hi gain l=false:=by unfold planOk;first|(simp_all;done)|(simp_all[inB];done)|(simp_all[inB];omega)
    rw[hbk,planG_no hbk]

    refine end_ret ?_ ⟨rfl,trivial⟩
    rfl
   ·intro h3
    refine lmI Z<|lbB Z<|lkB Z<|nG ?_
    refine AW.cond rfl ?_ ?_
    ·intro h4
     refine sL<|lq (rd (x:=.agg [vI _ _,vV _]) (rd_build Z ty.sa36 Z Z Z) Z)<|lst (zB 2010 ty.co36 ty.inf36 Z) Z<|laZ Z<|nG ?_
     refine AW.adoptB 1 2010 1 40 4 rfl (by decide) rfl ?_
     refine aR<|rT ?_
     have hbk:planOk x lo hi gain l=false:=by unfold planOk;first|(simp_all;done)|(simp_all[inB];done)|(simp_all[inB];omega)
     rw[hbk,planG_no hbk]

     refine end_ret ?_ ⟨rfl,trivial⟩
     rfl
    ·intro h4
     refine aK<|gT<|aS ?_
     have hok:planOk x lo hi gain l=true:=by unfold planOk;first|(simp_all;done)|(simp_all[inB];done)|(simp_all[inB];omega)
     obtain⟨hc20,hl20,hloc,hg1,hg2⟩:=planOk_facts hok
     have ho2:=len_over (x:=x) (lo:=lo) (hi:=hi) x.chans.length
     have hu2:=len_under (x:=x) (lo:=lo) (hi:=hi) (gain:=gain) x.chans.length
     refine aL<|lf 3 ty.F27_3 Z<|loL ty.kd23 Z<|lnI ty.sl23 Z ?_
     refine AL.slot 44 (int (x.chans.length:Int)) (congrArg (fun n:Nat=>int (n:Int)) (length_rowsOf _ _)) ?_
     refine lgI Z<|lq (rd (x:=.agg [vI _ _,vV _]) (rd_build Z ty.sa36 Z Z Z) Z)<|lst (zA 2012 ty.ze36 Z) Z<|lst (zB 2012 ty.co36 ty.inf36 Z) Z<|lT [1,2,3,4,5,10,11,12] [2005,2010,2012] ?_
     refine nG<|aS<|sL<|lf 3 ty.F27_3 Z<|loL ty.kd23 Z<|lnI ty.sl23 Z ?_
     refine AL.slot 49 (int (x.chans.length:Int)) (congrArg (fun n:Nat=>int (n:Int)) (length_rowsOf _ _)) ?_
     refine lmI Z<|nG<|aB ?_
     refine AW.adoptB 1 2012 1 40 4 rfl (by decide) rfl ?_
     refine aW [1,2,3,4,5,10,11,12,48,49] [2005,2010] (D:=Nat) (fun d=>[(50,int (d:Int))]) (fun d=>[(2012,.box 36 none [int ((x.chans.length:Int)+1),.own 1]),(1,eAr (upK (overE lo hi) x.chans d))]) (fun d=>d≤x.chans.length) (fun d=>x.chans.length-d) (0) (Nat.zero_le _) ⟨rfl,trivial⟩ ⟨rfl,rfl,trivial⟩ ?_
     intro k hI
     replace hI:k≤x.chans.length:=hI
     refine sL<|lbB Z<|nG<|aS ?_
     refine AW.cond rfl ?_ ?_
     ·intro h5
      refine aK<|gT<|aS<|aB<|aS ?_
      have hk:k<x.chans.length:=by have h:=h5;simp only[decide_eq_true_eq]at h;omega
      have hcl:=hloc _ (List.getElem_mem hk)
      have he:=ends_bd (size:=x.chans[k].size) (lo:=lo) (hi:=hi)
      have ho:=len_over (x:=x) (lo:=lo) (hi:=hi) k
      have hun:=len_under (x:=x) (lo:=lo) (hi:=hi) (gain:=gain) k
      refine aL<|lmI Z<|li k ty.el23 Z (row_map hk)<|lrX (.agg [vI _ _,vI _ _,vI _ _,vI _ _,vI _ _,vI _ _,vI _ _]) ty.kd57 Z<|lst (zA 2014 ty.ze57 Z) Z<|laI Z<|lst (zB 2014 ty.co57 ty.inf57 Z) Z<|nA<|loX (.agg [vI _ _,vI _ _,vI _ _,vI _ _,vI _ _,vI _ _,vI _ _]) ty.kd57 Z<|lmI Z<|lmI Z<|lst (zC [] [] [] Try.func27 (sends_e lo hi x.chans[k]) (trivial) Z Z) Z<|lT [1,2,3,4,5,10,11,12,13,14,48,49,50,59] [1,2005,2010,2012,2014] ?_
      refine lmX (.tup [vI _ _,vI _ _]) Z<|lxI Z<|lxI Z<|laI Z<|laI Z<|nA<|lf 2 ty.F57_2 Z<|loI ty.kd3 Z<|lmI Z<|lbB Z<|nG ?_
      refine AW.cond rfl ?_ ?_
      ·intro h6
       refine aF [11,13]<|pq 0 (qf 1 ty.F36_1 rfl)<|sq 1 (roO ty.kd34 rfl)<|pq 2 (qmX (vI _ _) rfl)<|sq 3 (rgI rfl (by unfold i64;omega))<|pq 4 (qf 2 ty.F57_2 rfl)<|sq 5 (roI ty.kd3 rfl)<|vq 6 (rmI rfl)<|vq 7 (rgI rfl (by unfold i64;omega))<|vst 8 rfl (zC [] [] [] Try.func28 (cap_y (by have h:=h6;simp only[decide_eq_true_eq]at h;omega)) (trivial) rfl rfl) (.inr rfl)<|fT [1,2,3,4,5,10,11,12,48,49,50,67,69,74] [1,2005,2010,2012,2014] ?_
       refine vq 9 (rd (x:=.agg [vI _ _,vI _ _,vI _ _,vI _ _]) (rd_build rfl ty.sa40 rfl rfl rfl) rfl) ?_
       refine vst 10 rfl (zS 2076 (rowsOf encEdge [⟨0,(k:Int)+1,capE (x.chans[k].loc-ends2 x.chans[k].size lo hi),0⟩]) ty.el34 ty.ze40 rfl) (.inr rfl)<|vst 11 rfl (zP 1 ty.el34 ty.ze40 ty.by40 rfl (Src.own rfl rfl) (by simp[rowsOf];omega)) (.inl rfl)<|vq 12 (rf 1 ty.F36_1 rfl)<|vst 13 rfl (zB 2012 ty.co34 ty.inf34 rfl) (.inl rfl)<|fD<|gB<|gT<|aL<|lgI Z<|lmI Z<|nG ?_
       refine⟨(k+1),hk,by show x.chans.length-(k+1)<x.chans.length-k;omega,⟨(iq rfl),trivial⟩,⟨rfl,(Eq.trans (congrArg (AO.arr 40 4) (mapp encEdge _ [_]).symm) (over_y hk (by simpa using h6))),trivial⟩,rfl,rfl⟩
      ·intro h6
       refine aK<|gB<|gT<|aL<|lgI Z<|lmI Z<|nG ?_
       refine⟨(k+1),hk,by show x.chans.length-(k+1)<x.chans.length-k;omega,⟨(iq rfl),trivial⟩,⟨rfl,(over_n hk (by simpa using h6)),trivial⟩,rfl,rfl⟩
     ·intro h5
      refine aE<|eT<|eT<|eB<|gT<|aS<|sL<|lf 3 ty.F27_3 Z<|loL ty.kd23 Z<|lnI ty.sl23 Z ?_
      refine AL.slot 82 (int (x.chans.length:Int)) (congrArg (fun n:Nat=>int (n:Int)) (length_rowsOf _ _)) ?_
      refine lmI Z<|nG<|aB ?_
      have hke:k=x.chans.length:=by have h:=h5;simp only[decide_eq_false_iff_not]at h;omega
      subst hke
      refine aW [1,2,3,4,5,10,11,12,81,82] [2005,2010] (D:=Nat) (fun d=>[(83,int (d:Int))]) (fun d=>[(2012,.box 36 none [int ((x.chans.length:Int)+1),.own 1]),(1,eAr (upK (overE lo hi) x.chans x.chans.length++upK (underE lo hi gain) x.chans d))]) (fun d=>d≤x.chans.length) (fun d=>x.chans.length-d) (0) (Nat.zero_le _) ⟨rfl,trivial⟩ ⟨rfl,(congrArg eAr (List.append_nil _).symm),trivial⟩ ?_
      intro k hI
      replace hI:k≤x.chans.length:=hI
      refine sL<|lbB Z<|nG<|aS ?_
      refine AW.cond rfl ?_ ?_
      ·intro h7
       refine aK<|gT<|aS<|aB<|aS ?_
       have hk:k<x.chans.length:=by have h:=h7;simp only[decide_eq_true_eq]at h;omega
       have hcl:=hloc _ (List.getElem_mem hk)
       have he:=ends_bd (size:=x.chans[k].size) (lo:=lo) (hi:=hi)
       have ho:=len_over (x:=x) (lo:=lo) (hi:=hi) k
       have hun:=len_under (x:=x) (lo:=lo) (hi:=hi) (gain:=gain) k
       refine aL<|lmI Z<|li k ty.el23 Z (row_map hk)<|lrX (.agg [vI _ _,vI _ _,vI _ _,vI _ _,vI _ _,vI _ _,vI _ _]) ty.kd57 Z<|lst (zA 2018 ty.ze57 Z) Z<|lT [1,2,3,4,5,10,11,12,18,81,82,83,85,87] [1,2005,2010,2012,2018] ?_
       refine laI Z<|lst (zB 2018 ty.co57 ty.inf57 Z) Z<|nA<|loX (.agg [vI _ _,vI _ _,vI _ _,vI _ _,vI _ _,vI _ _,vI _ _]) ty.kd57 Z<|lmI Z<|lmI Z<|lst (zC [] [] [] Try.func27 (sends_e lo hi x.chans[k]) (trivial) Z Z) Z<|lmX (.tup [vI _ _,vI _ _]) Z<|lxI Z<|lxI Z<|laI Z<|laI Z<|nA<|lf 2 ty.F57_2 Z<|loI ty.kd3 Z<|lmI Z<|lbB Z<|nG ?_
       refine AW.cond rfl ?_ ?_
       ·intro h8
        refine aF [13,15]<|pq 0 (qf 1 ty.F36_1 rfl)<|sq 1 (roO ty.kd34 rfl)<|pq 2 (qmX (vI _ _) rfl)<|sq 3 (rgI rfl (by unfold i64;omega))<|pq 4 (qmX (vI _ _) rfl)<|pq 5 (qf 2 ty.F57_2 rfl)<|sq 6 (roI ty.kd3 rfl)<|sq 7 (rgI rfl (by unfold i64;omega))<|pq 9 (qmX (vI _ _) rfl)<|sq 10 (rd (x:=vI _ _) (rd_un rfl rfl (fits_i64 (by unfold i64;omega))) rfl)<|vst 8 rfl (zC [] [] [] Try.func28 (cap_y (by have h:=h8;simp only[decide_eq_true_eq]at h;omega)) (trivial) rfl rfl) (.inr rfl)<|fT [1,2,3,4,5,10,11,12,81,82,83,100,102,107,109] [1,2005,2010,2012,2018] ?_
        refine vq 11 (rd (x:=.agg [vI _ _,vI _ _,vI _ _,vI _ _]) (rd_build rfl ty.sa40 rfl rfl rfl) rfl) ?_
        refine vst 12 rfl (zS 2111 (rowsOf encEdge [⟨(k:Int)+1,0,capE (ends1 x.chans[k].size lo hi-x.chans[k].loc),-gain⟩]) ty.el34 ty.ze40 rfl) (.inr rfl)<|vst 13 rfl (zP 1 ty.el34 ty.ze40 ty.by40 rfl (Src.own rfl rfl) (by simp[rowsOf];omega)) (.inl rfl)<|vq 14 (rf 1 ty.F36_1 rfl)<|vst 15 rfl (zB 2012 ty.co34 ty.inf34 rfl) (.inl rfl)<|fD<|gB<|gT<|aL<|lgI Z<|lmI Z<|nG ?_
        refine⟨(k+1),hk,by show x.chans.length-(k+1)<x.chans.length-k;omega,⟨(iq rfl),trivial⟩,⟨rfl,(Eq.trans (congrArg (AO.arr 40 4) (mapp encEdge _ [_]).symm) (under_y hk (by simpa using h8))),trivial⟩,rfl,rfl⟩
       ·intro h8
        refine aK<|gB<|gT<|aL<|lgI Z<|lmI Z<|nG ?_
        refine⟨(k+1),hk,by show x.chans.length-(k+1)<x.chans.length-k;omega,⟨(iq rfl),trivial⟩,⟨rfl,(under_n hk (by simpa using h8)),trivial⟩,rfl,rfl⟩
      ·intro h7
       refine aE<|eT<|eT<|eB<|gT<|aS<|sL<|lmL Z<|lnI ty.sl28 Z ?_
       refine AL.slot 116 (int (l.length:Int)) (congrArg (fun n:Nat=>int (n:Int)) (length_rowsOf _ _)) ?_
       refine lmI Z<|nG<|aB ?_
       have hke:k=x.chans.length:=by have h:=h7;simp only[decide_eq_false_iff_not]at h;omega
       subst hke
       refine aW [5,10,11,12,115,116] [2005,2010] (D:=Nat) (fun d=>[(117,int (d:Int))]) (fun d=>[(2012,.box 36 none [int ((x.chans.length:Int)+1),.own 1]),(1,eAr ((upK (overE lo hi) x.chans x.chans.length++upK (underE lo hi gain) x.chans x.chans.length)++(l.take d).map (priceE x.chans)))]) (fun d=>d≤l.length) (fun d=>l.length-d) (0) (Nat.zero_le _) ⟨rfl,trivial⟩ ⟨rfl,(congrArg eAr (List.append_nil _).symm),trivial⟩ ?_
       intro k hI
       replace hI:k≤l.length:=hI
       refine sL<|lbB Z<|nG<|aS ?_
       refine AW.cond rfl ?_ ?_
       ·intro h9
        refine aK<|gT<|aS<|aB<|aS ?_
        have hk:k<l.length:=by have h:=h9;simp only[decide_eq_true_eq]at h;omega
        have c1:=chanAt_bd x.chans l[k].frm
        have c2:=chanAt_bd x.chans l[k].to
        refine aL<|li k ty.el28 Z (row_map hk)<|lrX (.agg [vI _ _,vI _ _,vI _ _]) ty.kd50 Z<|lst (zA 2022 ty.ze50 Z) Z<|lT [5,10,11,12,22,115,116,117,120] [1,2005,2010,2012,2022] ?_
        refine lst (zB 2022 ty.co50 ty.inf50 rfl) Z<|nG<|aF [16,18]<|pq 0 (qf 1 ty.F36_1 rfl)<|sq 1 (roO ty.kd34 rfl)<|sq 2 (roX (.agg [vI _ _,vI _ _,vI _ _,vL _ _ _,vL _ _ _,vL _ _ _]) ty.kd27 rfl)<|pq 3 (qf 0 ty.F50_0 rfl)<|sq 4 (roI ty.kd3 rfl)<|sq 7 (roX (.agg [vI _ _,vI _ _,vI _ _,vL _ _ _,vL _ _ _,vL _ _ _]) ty.kd27 rfl)<|pq 8 (qf 1 ty.F50_1 rfl)<|sq 9 (roI ty.kd3 rfl)<|pq 12 (qf 2 ty.F50_2 rfl)<|sq 13 (roI ty.kd3 rfl)<|vst 5 rfl (zC [] [] [] Try.func29 (spec_At_e x _ hw) (trivial) rfl rfl) (.inr rfl)<|sq 6 (rgI rfl (by unfold i64;omega))<|vst 10 rfl (zC [] [] [] Try.func29 (spec_At_e x _ hw) (trivial) rfl rfl) (.inr rfl)<|fT [5,10,11,12,115,116,117,122,127,131,134] [1,2005,2010,2012,2022] ?_
        refine vq 11 (rgI rfl (by unfold i64;omega))<|vq 14 (rd (x:=.agg [vI _ _,vI _ _,vI _ _,vI _ _]) (rd_build rfl ty.sa40 rfl rfl rfl) rfl)<|vst 15 rfl (zS 2136 (rowsOf encEdge [priceE x.chans l[k]]) ty.el34 ty.ze40 rfl) (.inr rfl)<|vst 16 rfl (zP 1 ty.el34 ty.ze40 ty.by40 rfl (Src.own rfl rfl) (by simp[rowsOf];omega)) (.inl rfl)<|vq 17 (rf 1 ty.F36_1 rfl)<|vst 18 rfl (zB 2012 ty.co34 ty.inf34 rfl) (.inl rfl)<|fD<|gB<|gT<|aL<|lgI Z<|lmI Z<|nG ?_
        refine⟨(k+1),hk,by show l.length-(k+1)<l.length-k;omega,⟨(iq rfl),trivial⟩,⟨rfl,(Eq.trans (congrArg (AO.arr 40 4) (mapp encEdge _ [_]).symm) (price_y hk)),trivial⟩,rfl,rfl⟩
       ·intro h9
        refine aE<|eT<|eT<|eB<|gA<|loX (.agg [vI _ _,.own _]) ty.kd36 Z<|lst (zB 2010 ty.co36 ty.inf36 Z) Z<|laT Z<|nG<|aR ?_
        have hke:k=l.length:=by have h:=h9;simp only[decide_eq_false_iff_not]at h;omega
        subst hke
        rw[hok,planG_ok hok]
        refine end_ret ?_ ⟨(Eq.trans (b:=eAr ((upK (overE lo hi) x.chans x.chans.length++upK (underE lo hi gain) x.chans x.chans.length)++(l.take l.length).map (priceE x.chans))) rfl plan_all),trivial⟩
        rfl
section
variable {x:Book}{lo hi gain:Int}{l:List Price}{f:List Int}{first k:Nat}
theorem plan_wf:GraphWf (planG x lo hi gain l):=by
 cases h:planOk x lo hi gain l
 ·rw[planG_no h];intro e he;cases he
 ·rw[planG_ok h]
  have hp:pricesOk x l=true:=by unfold planOk at h;simp only[Bool.and_eq_true]at h;exact h.1.1
  exact fun e he=>(plan_small h (prices_ppm hp) e he).wf
theorem mv_y(hk:k<l.length)(hf:first+k<f.length)(h:0<f[first+k]):mAr (movesK f first l k++[⟨l[k].frm,l[k].to,f[first+k],l[k].ppm⟩])=mAr (movesK f first l (k+1)):=by
 rw[movesK_succ hk,moveAt_yes (n:=f[first+k]) (by rw[List.getD_eq_getElem?_getD,List.getElem?_eq_getElem hf];rfl) h]
theorem mv_n(hk:k<l.length)(hf:first+k<f.length)(h:¬0<f[first+k]):mAr (movesK f first l k)=mAr (movesK f first l (k+1)):=by
 rw[movesK_succ hk,moveAt_no (n:=f[first+k]) (by rw[List.getD_eq_getElem?_getD,List.getElem?_eq_getElem hf];rfl) h,List.append_nil]
theorem moves_all(h1:planOk x lo hi gain l=true)(h2:cheapOk (planG x lo hi gain l)=true)(hf:(cheapL (planG x lo hi gain l)).length=first+l.length):movesOk x lo hi gain l=true∧movesL x lo hi gain l=movesK (cheapL (planG x lo hi gain l)) first l l.length:=by
 have h:movesOk x lo hi gain l=true:=by unfold movesOk;rw[h1,h2];rfl
 refine⟨h,?_⟩
 have e:movesL x lo hi gain l=movesK (cheapL (planG x lo hi gain l)) ((cheapL (planG x lo hi gain l)).length-l.length) l l.length:=if_pos h
 rw[e,show (cheapL (planG x lo hi gain l)).length-l.length=first by omega]
theorem moves_none(h:movesOk x lo hi gain l=false):movesL x lo hi gain l=[]:=if_neg (by simp[h])
theorem movesK_le(k:Nat):(movesK f first l k).length≤k:=movesK_len k
end
theorem moves_e(x:Book)(lo hi gain:Int)(l:List Price)(hw:BookWf x)(hl:PricesWf l)(hn:l.length≤1048576):GC Try.prog 5 [bookV x,int lo,int hi,int gain,pricesV l] [] (.tup [.own 1,boo (movesOk x lo hi gain l)]) [(1,mAr (movesL x lo hi gain l))]:=by
 refine GC.intro (rs:=[.tmp 10,.tmp 11]) Try.func5 rfl Try.ntmps5 (Nat.le_of_ble_eq_true rfl) ⟨rfl,rfl,trivial⟩ ?_
 intro L O w0
 refine sL<|lst (zX 2005 Z) Z<|laV Z<|laZ Z<|nA<|loX (.agg [vI _ _,vI _ _,vI _ _,vL _ _ _,vL _ _ _,vL _ _ _]) ty.kd27 Z<|lmI Z<|lmI Z<|lmI Z<|lmL Z<|lst (zC [(1,61)] [61] [] Try.func7 (plan_e x lo hi gain l hw hl hn) (trivial) Z Z) Z<|lmX (.tup [.agg [vI _ _,.own _],vB _]) Z<|lxX (.agg [vI _ _,.own _]) Z<|lxB Z<|lst (zA 2012 ty.ze36 Z) Z<|lst (zB 2012 ty.co36 ty.inf36 Z) Z<|lT [4,10,11,12,29] [61,2005,2012] ?_
 refine laB Z<|nA ?_
 refine AL.freeze 61 rfl ?_
 refine loX (.agg [vI _ _,vL _ _ _]) ty.kd36 Z<|lst (zC [] [] [] Try.func11 (cheap_e (planG x lo hi gain l) plan_wf) (trivial) Z Z) Z<|lmX (.tup [vL _ _ _,vB _]) Z<|lxL Z<|lxB Z<|laL Z<|laB Z<|nG<|aS<|sL<|lmB Z<|luB Z<|lmB Z ?_
 refine AL.bool (t:=37) rfl ?_ ?_
 ·intro h1
  refine lno Z<|lno Z<|lkT Z<|nG<|aY Z<|sL<|laV Z<|laZ Z<|nG ?_
  refine AW.adoptT 1 10 52 4 rfl ?_
  refine aR<|rT ?_
  have hbk:movesOk x lo hi gain l=false:=by unfold movesOk;simp_all
  rw[hbk,moves_none hbk]
  refine end_ret ?_ ⟨rfl,trivial⟩
  rfl
 ·intro h1
  refine lmB Z<|luB Z<|lkB Z<|nG ?_
  refine AW.cond rfl ?_ ?_
  ·intro h2
   refine sL<|laV Z<|laZ Z<|nG ?_
   refine AW.adoptT 1 10 52 4 rfl ?_
   refine aR<|rT ?_
   have hbk:movesOk x lo hi gain l=false:=by unfold movesOk;simp_all
   rw[hbk,moves_none hbk]
   refine end_ret ?_ ⟨rfl,trivial⟩
   rfl
  ·intro h2
   refine aK<|gA<|laV Z<|nG ?_
   refine AW.adoptT 1 16 52 4 rfl ?_
   refine aS ?_
   have hp:planOk x lo hi gain l=true:=by simp_all
   have hc:cheapOk (planG x lo hi gain l)=true:=by simp_all
   obtain⟨first,hf1,hf2⟩:=moves_first hp hc
   have hg60:=planG_len x lo hi gain l
   refine aL<|lmL Z<|lnI ty.sl46 Z ?_
   refine AL.slot 42 (int ((cheapL (planG x lo hi gain l)).length:Int)) (congrArg (fun n:Nat=>int (n:Int)) (length_rowsOf _ _)) ?_
   refine lmL Z<|lnI ty.sl28 Z ?_
   refine AL.slot 44 (int (l.length:Int)) (congrArg (fun n:Nat=>int (n:Int)) (length_rowsOf _ _)) ?_
   refine lgI Z<|lsN 45 (first:Int) rfl (by omega)<|laI Z<|nG<|aS<|sL<|lmL Z<|lnI ty.sl28 rfl ?_
   refine AL.slot 47 (int (l.length:Int)) (congrArg (fun n:Nat=>int (n:Int)) (length_rowsOf _ _)) ?_
   refine lmI Z<|nG<|aB ?_
   refine aW [10,11,14,16,17,46,47] [2005,2012] (D:=Nat) (fun d=>[(48,int (d:Int))]) (fun d=>[(1,mAr (movesK (cheapL (planG x lo hi gain l)) first l d))]) (fun d=>d≤l.length) (fun d=>l.length-d) (0) (Nat.zero_le _) ⟨rfl,trivial⟩ ⟨rfl,trivial⟩ ?_
   intro k hI
   replace hI:k≤l.length:=hI
   refine sL<|lbB Z<|lT [10,11,14,16,17,46,47,48,49] [1,2005,2012] ?_
   refine nG<|aS ?_
   refine AW.cond rfl ?_ ?_
   ·intro h3
    refine aK<|gT<|aS<|aB<|aS ?_
    have hk:k<l.length:=by have h:=h3;simp only[decide_eq_true_eq]at h;omega
    have hfk:first+k<(cheapL (planG x lo hi gain l)).length:=by omega
    have hmk:=movesK_le (f:=(cheapL (planG x lo hi gain l))) (first:=first) (l:=l) k
    refine aL<|lmI Z<|li k ty.el28 rfl (row_map hk)<|lrX (.agg [vI _ _,vI _ _,vI _ _]) ty.kd50 Z<|lst (zA 2019 ty.ze50 rfl) Z<|laI Z<|lst (zB 2019 ty.co50 ty.inf50 rfl) Z<|nA<|lmL Z<|lmI Z<|lmI Z<|lgI Z<|lq (rd (x:=.rp _) (rd_iaddr_p (i:=first+k) rfl ty.el46 rfl rfl ?hn1 (row_map hfk)) rfl) ?_
    case hn1=>omega
    refine lrI ty.kd3 Z<|laI Z<|nA<|lmI Z<|lbB Z<|nG ?_
    refine AW.cond rfl ?_ ?_
    ·intro h4
     refine aL<|lmO Z<|lf 0 ty.F50_0 Z<|loI ty.kd3 Z<|lf 1 ty.F50_1 Z<|loI ty.kd3 Z<|lmI Z<|lf 2 ty.F50_2 Z<|loI ty.kd3 Z<|lq (rd (x:=.agg [vI _ _,vI _ _,vI _ _,vI _ _]) (rd_build Z ty.sa52 Z Z Z) Z) ?_
     refine lst (zS 2070 (rowsOf encMove [⟨l[k].frm,l[k].to,(cheapL (planG x lo hi gain l))[first+k],l[k].ppm⟩]) ty.el31 ty.ze52 rfl) Z<|lT [10,11,14,16,17,46,47,48,61,70] [1,2005,2012,2019,2070] ?_
     refine lst (zP 1 ty.el31 ty.ze52 ty.by52 rfl (Src.own rfl rfl) (by simp[rowsOf];omega)) Z<|laO Z<|lN<|gB<|gT<|aL<|lgI Z<|lmI Z<|nG ?_
     refine⟨(k+1),hk,by show l.length-(k+1)<l.length-k;omega,⟨(iq rfl),trivial⟩,⟨(Eq.trans (congrArg (AO.arr 52 4) (mapp encMove _ [_]).symm) (mv_y hk hfk (by simpa using h4))),trivial⟩,rfl,rfl⟩
    ·intro h4
     refine aK<|gB<|gT<|aL<|lgI Z<|lmI Z<|nG ?_
     refine⟨(k+1),hk,by show l.length-(k+1)<l.length-k;omega,⟨(iq rfl),trivial⟩,⟨(mv_n hk hfk (by simpa using h4)),trivial⟩,rfl,rfl⟩
   ·intro h3
    refine aE<|eT<|eT<|eB<|gA<|lmO Z<|laO Z<|laT Z<|nG<|aR ?_
    have hke:k=l.length:=by have h:=h3;simp only[decide_eq_false_iff_not]at h;omega
    subst hke
    obtain⟨ma,mb⟩:=moves_all hp hc hf1
    rw[ma,mb]
    refine end_ret ?_ ⟨rfl,trivial⟩
    rfl
theorem smoves_e(x:Book)(lo hi gain:Int)(l:List Price)(hw:BookWf x)(hl:PricesWf l)(hn:l.length≤1048576):GC Try.prog 6 [bookV x,int lo,int hi,int gain,pricesV l] [] (.tup [.own 1,boo (movesOk x lo hi gain l)]) [(1,mAr (movesL x lo hi gain l))]:=by
 refine GC.intro (rs:=[.tmp 10,.tmp 11]) Try.func6 rfl Try.ntmps6 (Nat.le_of_ble_eq_true rfl) ⟨rfl,rfl,trivial⟩ ?_
 intro L O w0
 refine sL<|lst (zX 2005 Z) Z<|laV Z<|laZ Z<|nA<|loX (.agg [vI _ _,vI _ _,vI _ _,vL _ _ _,vL _ _ _,vL _ _ _]) ty.kd27 Z<|lmI Z<|lmI Z<|lmI Z<|lmL Z<|lst (zC [(1,61)] [61] [] Try.func12 (splan_e x lo hi gain l hw hl hn) (trivial) Z Z) Z<|lmX (.tup [.agg [vI _ _,.own _],vB _]) Z<|lxX (.agg [vI _ _,.own _]) Z<|lxB Z<|lst (zA 2012 ty.ze36 Z) Z<|lst (zB 2012 ty.co36 ty.inf36 Z) Z<|lT [4,10,11,12,28] [61,2005,2012] ?_
 refine laB Z<|nG<|aS<|sL<|lmB Z<|luB Z<|nG ?_
 refine AW.cond rfl ?_ ?_
 ·intro h1
  refine sL<|laV Z<|laZ Z<|nG ?_
  refine AW.adoptT 1 10 52 4 rfl ?_
  refine aR<|rT ?_
  have hbk:movesOk x lo hi gain l=false:=by unfold movesOk;simp_all
  rw[hbk,moves_none hbk]
  refine end_ret ?_ ⟨rfl,trivial⟩
  rfl
 ·intro h1
  refine aK<|gA ?_
  refine AL.freeze 61 rfl ?_
  refine loX (.agg [vI _ _,vL _ _ _]) ty.kd36 Z<|lst (zC [] [] [] Try.func13 (scheap_e (planG x lo hi gain l) plan_wf) (trivial) Z Z) Z<|lmX (.tup [vL _ _ _,vB _]) Z<|lxL Z<|lxB Z<|laL Z<|laB Z<|nG<|aS<|sL<|lmB Z<|luB Z<|nG ?_
  refine AW.cond rfl ?_ ?_
  ·intro h2
   refine sL<|laV Z<|laZ Z<|nG ?_
   refine AW.adoptT 1 10 52 4 rfl ?_
   refine aR<|rT ?_
   have hbk:movesOk x lo hi gain l=false:=by unfold movesOk;simp_all
   rw[hbk,moves_none hbk]
   refine end_ret ?_ ⟨rfl,trivial⟩
   rfl
  ·intro h2
   refine aK<|gA<|lst (zS 1 [] ty.el31 ty.ze52 rfl (by simp)) Z<|lT [4,10,11,12,14,38] [1,2005,2012] ?_
   refine laO Z<|nG<|aS<|aS ?_
   have hp:planOk x lo hi gain l=true:=by simp_all
   have hc:cheapOk (planG x lo hi gain l)=true:=by simp_all
   obtain⟨first,hf1,hf2⟩:=moves_first hp hc
   have hg60:=planG_len x lo hi gain l
   refine aL<|lmL Z<|lnI ty.sl28 Z ?_
   refine AL.slot 40 (int (l.length:Int)) (congrArg (fun n:Nat=>int (n:Int)) (length_rowsOf _ _)) ?_
   refine lmI Z<|nG<|aB ?_
   refine aW [4,10,11,12,14,16,39,40] [2005,2012] (D:=Nat) (fun d=>[(41,int (d:Int))]) (fun d=>[(1,mAr (movesK (cheapL (planG x lo hi gain l)) first l d))]) (fun d=>d≤l.length) (fun d=>l.length-d) (0) (Nat.zero_le _) ⟨rfl,trivial⟩ ⟨rfl,trivial⟩ ?_
   intro k hI
   replace hI:k≤l.length:=hI
   refine sL<|lbB Z<|nG<|aS ?_
   refine AW.cond rfl ?_ ?_
   ·intro h3
    refine aK<|gT<|aS<|aB<|aS ?_
    have hk:k<l.length:=by have h:=h3;simp only[decide_eq_true_eq]at h;omega
    have hfk:first+k<(cheapL (planG x lo hi gain l)).length:=by omega
    have hmk:=movesK_le (f:=(cheapL (planG x lo hi gain l))) (first:=first) (l:=l) k
    refine aL<|lmI Z<|li k ty.el28 Z (row_map hk)<|lrX (.agg [vI _ _,vI _ _,vI _ _]) ty.kd50 Z<|lst (zA 2018 ty.ze50 Z) Z<|laI Z<|lst (zB 2018 ty.co50 ty.inf50 Z) Z<|nA<|lmL Z<|lf 1 ty.F36_1 Z<|loL ty.kd34 Z<|lnI ty.sl34 Z ?_
    refine AL.slot 49 (int ((planG x lo hi gain l).edges.length:Int)) (congrArg (fun n:Nat=>int (n:Int)) (length_rowsOf _ _)) ?_
    refine lmL Z<|lnI ty.sl28 Z ?_
    refine AL.slot 51 (int (l.length:Int)) (congrArg (fun n:Nat=>int (n:Int)) (length_rowsOf _ _)) ?_
    refine lgI Z<|lsN 52 (first:Int) rfl (by omega)<|lmI Z<|lgI Z<|lq (rd (x:=.rp _) (rd_iaddr_p (i:=first+k) rfl ty.el46 rfl rfl ?hn1 (row_map hfk)) rfl) ?_
    case hn1=>omega
    refine lrI ty.kd3 Z<|laI Z<|nA<|lmI Z<|lbB Z<|nG ?_
    refine AW.cond rfl ?_ ?_
    ·intro h4
     refine aL<|lmO Z<|lf 0 ty.F50_0 Z<|loI ty.kd3 Z<|lf 1 ty.F50_1 Z<|loI ty.kd3 Z<|lT [4,10,11,12,14,16,18,19,39,40,41,59,61,63] [1,2005,2012,2018] ?_
     refine lmI Z<|lf 2 ty.F50_2 Z<|loI ty.kd3 Z<|lq (rd (x:=.agg [vI _ _,vI _ _,vI _ _,vI _ _]) (rd_build Z ty.sa52 Z Z Z) Z) ?_
     refine lst (zS 2068 (rowsOf encMove [⟨l[k].frm,l[k].to,(cheapL (planG x lo hi gain l))[first+k],l[k].ppm⟩]) ty.el31 ty.ze52 rfl) Z<|lst (zP 1 ty.el31 ty.ze52 ty.by52 rfl (Src.own rfl rfl) (by simp[rowsOf];omega)) Z<|laO Z<|lN<|gB<|gT<|aL<|lgI Z<|lmI Z<|nG ?_
     refine⟨(k+1),hk,by show l.length-(k+1)<l.length-k;omega,⟨(iq rfl),trivial⟩,⟨(Eq.trans (congrArg (AO.arr 52 4) (mapp encMove _ [_]).symm) (mv_y hk hfk (by simpa using h4))),trivial⟩,rfl,rfl⟩
    ·intro h4
     refine aK<|gB<|gT<|aL<|lgI Z<|lmI Z<|nG ?_
     refine⟨(k+1),hk,by show l.length-(k+1)<l.length-k;omega,⟨(iq rfl),trivial⟩,⟨(mv_n hk hfk (by simpa using h4)),trivial⟩,rfl,rfl⟩
   ·intro h3
    refine aE<|eT<|eT<|eB<|gA<|lmO Z<|laO Z<|laT Z<|nG<|aR ?_
    have hke:k=l.length:=by have h:=h3;simp only[decide_eq_false_iff_not]at h;omega
    subst hke
    obtain⟨ma,mb⟩:=moves_all hp hc hf1
    rw[ma,mb]
    refine end_ret ?_ ⟨rfl,trivial⟩
    rfl

def fill{α:Type}(rows:List α)(z:α)(k:Nat):List α:=rows.take k++List.replicate (rows.length-k) z
section
variable {P:Program}{o:Oper}{τ:Nat→AV}{H:Nat→AO}{X:Nat→Bool}
theorem rd_neB{T yT:TypeId}{x y:Operand}{a b:Bool}(ho:o.op=.binOp .neq T x y yT)(hx:ev τ x=boo a)(hy:ev τ y=boo b)(ht:P.underlying T=some .bool):Rd P o τ H X (boo (!(a==b))):=by
 have he:∀W,(Op.equal T (.bool a) (.bool b)).run P W=.ok (a==b) W:=fun W=>run_equalIn_bool' W (Op.maxDepth-1) T a b ht
 apply rd_eqv ho (by rw[hx];rfl) (by rw[hy];rfl)
 intro W
 simp[eqGuard,binOp,he]
end

theorem pset{α:Type}{enc:α→List Value}{l:List α}{i:Nat}{c:α}:(rowsOf enc l).set i ((enc c).map PV.v)=rowsOf enc (l.set i c):=by unfold rowsOf;rw[List.map_set]
theorem psnoc{l:List Price}{x:Price}(h:PricesWf l)(hx:wfPrice x):PricesWf (l++[x]):=fun y hy=>by
 rcases List.mem_append.1 hy with q|q
 ·exact h y q
 ·rw[List.mem_singleton.1 q];exact hx
theorem pwset{l:List Price}{k:Nat}{x:Price}(h:PricesWf l)(hx:wfPrice x):PricesWf (l.set k x):=fun y hy=>by
 rcases List.mem_or_eq_of_mem_set hy with q|rfl
 ·exact h y q
 ·exact hx
def DrP:AV→List (Nat×AO)→Prop:=fun x ob2=>∃l,PricesWf l∧l.length≤8∧x=.own 50∧ob2=[(50,.arr 50 3 (rowsOf encPrice l))]
def DrBP:AV→List (Nat×AO)→Prop:=fun x ob2=>∃b l,BookWf b∧PricesWf l∧l.length≤9∧x=.tup [bookV b,.own 50]∧ob2=[(50,.arr 50 3 (rowsOf encPrice l))]
def DrM:AV→List (Nat×AO)→Prop:=fun x ob2=>∃b lo hi gain l,BookWf b∧PricesWf l∧l.length≤9∧x=.tup [bookV b,int lo,int hi,int gain,.own 50]∧ob2=[(50,.arr 50 3 (rowsOf encPrice l))]
theorem l09Prices_e(g:Value)(code:List Int)(i:Nat)(h:Int)(hc:CurOk code i)(x:Book)(hw:BookWf x):GX Try.prog 37 [.ptr 0 0 0,bookV x] [(0,curO g code i h)] (DrX g code DrP):=by
 refine GX.intro (rs:=[.tmp 4]) Try.func37 rfl Try.ntmps37 (Nat.le_of_ble_eq_true rfl) ⟨rfl,trivial⟩ ?_
 intro L O w0
 refine sL<|lst (zX 2003 rfl) Z<|laV Z<|nA<|lst (zS 50 [] ty.el28 ty.ze50 rfl (by simp)) Z<|laO Z<|nA<|lf 3 ty.F27_3 Z<|loL ty.kd23 Z<|lnI ty.sl23 rfl ?_
 refine AL.slot 16 (int (x.chans.length:Int)) (congrArg (fun n:Nat=>int (n:Int)) (length_rowsOf _ _)) ?_
 refine laI Z<|nG<|aS<|sL<|lmP Z ?_
 refine lX [(0,0)] [] [0] Try.func20 (l01Below_e g code _ _ _ hc) (⟨⟨0,rfl,rfl⟩,trivial⟩) (pins_cur) Z ?_
 intro xz1 oz1 hz1
 obtain⟨i1,q1,hc1,⟨n1,⟨na1,nb1⟩,rfl⟩,rfl⟩:=hz1
 refine laI Z<|nG<|aB ?_
 obtain⟨kk,hkk⟩:=Int.eq_ofNat_of_zero_le na1
 refine aW [0,3,4,6] [2003] (D:=Nat×Int×Nat×List Price) (fun d=>[(7,int (d.2.2.1:Int)),(5,.own 50)]) (fun d=>[(0,curO g code d.1 d.2.1),(50,.arr 50 3 (rowsOf encPrice d.2.2.2))]) (fun d=>CurOk code d.1∧PricesWf d.2.2.2∧d.2.2.2.length+d.2.2.1≤8) (fun d=>d.2.2.1) ((_,_,kk,[])) (⟨by assumption,(by intro e he;cases he),by dsimp only;simp;omega⟩) ⟨(congrArg int hkk),rfl,trivial⟩ ⟨rfl,rfl,trivial⟩ ?_
 intro ⟨iL,qL,kL,ps⟩ hI
 obtain⟨hcL,hwL,hkL⟩:=hI
 simp only at hcL hwL hkL
 dsimp only
 refine aS<|sL<|lmI Z<|lbB Z<|lmB Z ?_
 refine AL.bool (t:=21) rfl ?_ ?_
 ·intro h1
  refine lmI Z<|lbB Z<|lkB Z<|nG ?_
  refine AW.cond rfl ?_ ?_
  ·intro h2
   refine aK<|gT<|aS<|aB<|aS ?_
   have hlen:=hw.len
   have hk1:1≤kL∧1<x.chans.length:=by have h:=h1;have h2:=h2;simp only[decide_eq_true_eq,length_rowsOf]at h h2;omega
   refine aL<|lmP Z<|lmI Z ?_
   refine lX [(0,0)] [] [0] Try.func20 (l01Below_e g code _ _ _ hcL) (⟨⟨0,rfl,rfl⟩,trivial⟩) (pins_cur) Z ?_
   intro xz2 oz2 hz2
   obtain⟨i2,q2,hc2,⟨n2,⟨na2,nb2⟩,rfl⟩,rfl⟩:=hz2
   refine lT [0,3,4,5,6,7,29] [0,50,2003] ?_
   refine laI Z<|nG<|aS ?_
   obtain⟨m,hm⟩:=Int.eq_ofNat_of_zero_le na2
   have hml:m<x.chans.length:=by omega
   refine aG 24 [0]<|tq 0 (rf 3 ty.F27_3 rfl)<|tq 1 (roL ty.kd23 rfl)<|tq 2 (rmI rfl)<|tq 3 (rd (x:=.rp _) (rd_iaddr_p (i:=m) rfl ty.el23 rfl rfl ?hn1 (row_map hml)) rfl) ?_
   case hn1=>exact hm
   refine tq 4 (rd (x:=.rp _) (zfr ty.F57_0 rfl) rfl)<|tq 5 (rrI ty.kd3 rfl)<|tq 6 (rf 3 ty.F27_3 rfl)<|tq 7 (roL ty.kd23 rfl)<|tq 8 (rmI rfl)<|tq 9 (rgI rfl (by unfold i64;omega))<|tq 10 (rmP rfl)<|tq 11 (rmI rfl)<|tq 12 (rgI rfl (by unfold i64;omega))<|tq 15 (rmI rfl)<|tq 20 (rmP rfl) ?_
   refine AG.two (i:=13) (j:=23) (by kernel_rfl) ?_ ?_
   ·refine AG1.stx (i:=13) rfl (St.callX [(0,0)] [] [0] rfl (by intro s hs;cases hs;decide) rfl Try.func20 rfl rfl (l01Below_e g code _ _ _ hc2) ⟨rfl,rfl,rfl⟩ (⟨⟨0,rfl,rfl⟩,trivial⟩) (pins_cur) rfl) (exK (l:=[0]) rfl rfl) rfl ?_
    rintro _ _ ⟨xz5,oz5,hz5,rfl,rfl⟩
    obtain⟨i5,q5,hc5,⟨n5,⟨na5,nb5⟩,rfl⟩,rfl⟩:=hz5
    refine gX [0,3,4,5,6,7,35,37,39,43,45,50] [0,50,2003] ?_
    refine tq 14 (rgI rfl (by unfold i64;omega)) ?_
    refine tq 16 (rhI rfl ⟨rfl,by omega⟩) ?_
    obtain⟨z1,z2⟩:=tmod_bd (n:=n2+1+n5) (m:=(x.chans.length:Int)) (by omega) (by omega)
    obtain⟨m2,hm2⟩:=Int.eq_ofNat_of_zero_le z1
    have hml2:m2<x.chans.length:=by omega
    refine tq 17 (rd (x:=.rp _) (rd_iaddr_p (i:=m2) rfl ty.el23 rfl rfl ?hn2 (row_map hml2)) rfl) ?_
    case hn2=>exact hm2
    refine tq 18 (rd (x:=.rp _) (zfr ty.F57_0 Z) Z)<|tq 19 (rrI ty.kd3 Z) ?_
    refine AG.two (i:=21) (j:=23) (by kernel_rfl) ?_ ?_
    ·refine AG1.stx (i:=21) rfl (St.callX [(0,0)] [] [0] rfl (by intro s hs;cases hs;decide) rfl Try.func20 rfl rfl (l01Below_e g code _ _ _ hc5) ⟨rfl,rfl,rfl⟩ (⟨⟨0,rfl,rfl⟩,trivial⟩) (pins_cur) rfl) (exK (l:=[0]) rfl rfl) rfl ?_
     rintro _ _ ⟨xz6,oz6,hz6,rfl,rfl⟩
     obtain⟨i6,q6,hc6,⟨n6,⟨na6,nb6⟩,rfl⟩,rfl⟩:=hz6
     refine tq 22 (rd (x:=.agg [vI _ _,vI _ _,vI _ _]) (rd_build Z ty.sa50 Z Z Z) Z)<|yst 23 Z (zA 2009 ty.ze50 Z)<|yl Z (zB 2009 ty.co50 ty.inf50 Z)<|gT<|aS ?_
     have hpx:wfPrice ⟨x.chans[m].id,x.chans[m2].id,n6⟩:=⟨(hw.chans _ (List.getElem_mem hml)).1,(hw.chans _ (List.getElem_mem hml2)).1,by dsimp only;unfold i64;omega⟩
     refine aL<|laZ Z<|nG<|aS<|sL<|lmO Z<|lnI ty.sl28 Z<|lmI Z<|nG<|aB ?_
     refine aW [0,3,4,5,6,7,9,53,54] [0,50,2003,2009] (D:=Nat×Bool) (fun d=>[(55,int (d.1:Int)),(10,boo d.2)]) (fun d=>[]) (fun d=>d.1≤ps.length) (fun d=>ps.length-d.1) ((0,false)) (Nat.zero_le _) ⟨rfl,rfl,trivial⟩ trivial ?_
     intro ⟨j,kn⟩ hI
     replace hI:j≤ps.length:=hI
     refine sL<|lbB Z<|nG<|aS ?_
     refine AW.cond rfl ?_ ?_
     ·intro h3
      refine aK<|gT<|aS<|aB<|aS ?_
      have hj:j<ps.length:=by have h:=h3;rw[length_rowsOf]at h;simp only[decide_eq_true_eq]at h;omega
      refine aL<|lq (rj j ty.el28 rfl (by rw[length_rowsOf];exact hj))<|lq (rd (x:=.agg [vI _ _,vI _ _,vI _ _]) (rd_load_arr rfl ty.kd50 rfl rfl rfl (row_map hj) rfl) rfl)<|lst (zA 2012 ty.ze50 rfl) Z<|lT [0,3,4,5,6,7,9,10,12,53,54,55,58] [0,50,2003,2009,2012] ?_
      refine lst (zB 2012 ty.co50 ty.inf50 Z) Z<|nA<|lf 0 ty.F50_0 Z<|loI ty.kd3 Z<|lf 0 ty.F50_0 Z<|loI ty.kd3 Z<|lbB Z<|lmB Z ?_
      refine AL.bool (t:=64) rfl ?_ ?_
      ·intro h4
       refine lf 1 ty.F50_1 Z<|loI ty.kd3 Z<|lf 1 ty.F50_1 Z<|loI ty.kd3 Z<|lbB Z<|lkB Z<|nG ?_
       refine AW.cond rfl ?_ ?_
       ·intro h5
        refine aL<|laT Z<|lN<|gB<|gT<|aL<|lgI Z<|lmI Z<|nG ?_
        refine⟨(j+1,true),hj,by show ps.length-(j+1)<ps.length-j;omega,⟨(Eq.trans (b:=int _) rfl (congrArg int (by dsimp only;omega))),rfl,trivial⟩,trivial,rfl,rfl⟩
       ·intro h5
        refine aK<|gB<|gT<|aL<|lgI Z<|lmI Z<|nG ?_
        refine⟨(j+1,kn),hj,by show ps.length-(j+1)<ps.length-j;omega,⟨(Eq.trans (b:=int _) rfl (congrArg int (by dsimp only;omega))),rfl,trivial⟩,trivial,rfl,rfl⟩
      ·intro h4
       refine lno Z<|lno Z<|lno Z<|lno Z<|lno Z<|lkZ Z<|nG<|aN Z<|aK<|gB<|gT<|aL<|lgI Z<|lmI Z<|nG ?_
       refine⟨(j+1,kn),hj,by show ps.length-(j+1)<ps.length-j;omega,⟨(Eq.trans (b:=int _) rfl (congrArg int (by dsimp only;omega))),rfl,trivial⟩,trivial,rfl,rfl⟩
     ·intro h3
      refine aE<|eT<|eT<|eB<|gA<|lmB Z<|luB Z<|nG ?_
      refine AW.cond rfl ?_ ?_
      ·intro h6
       refine aL<|lmO Z<|loX (.agg [vI _ _,vI _ _,vI _ _]) ty.kd50 Z ?_
       refine lst (zS 2076 (rowsOf encPrice [⟨x.chans[m].id,x.chans[m2].id,n6⟩]) ty.el28 ty.ze50 rfl) Z<|lT [0,3,4,5,6,7,74,76] [0,50,2003,2009,2076] ?_
       refine lst (zP 50 ty.el28 ty.ze50 ty.by50 rfl (Src.own rfl rfl) (by simp[rowsOf];omega)) Z<|laO Z<|lN<|gB<|gT<|aL<|lmI Z<|lgI Z<|laI Z<|nG ?_
       refine⟨(_,_,kL-1,ps++[⟨x.chans[m].id,x.chans[m2].id,n6⟩]),⟨by assumption,psnoc hwL hpx,by dsimp only;simp;omega⟩,by dsimp only;omega,⟨(Eq.trans (b:=int _) rfl (congrArg int (by dsimp only;omega))),rfl,trivial⟩,⟨rfl,(congrArg (AO.arr 50 3) (rowsOf_app encPrice _ [_]).symm),trivial⟩,rfl,rfl⟩
      ·intro h6
       refine aK<|gB<|gT<|aL<|lmI Z<|lgI Z<|laI Z<|nG ?_
       refine⟨(_,_,kL-1,ps),⟨by assumption,hwL,by dsimp only;omega⟩,by dsimp only;omega,⟨(Eq.trans (b:=int _) rfl (congrArg int (by dsimp only;omega))),rfl,trivial⟩,⟨rfl,rfl,trivial⟩,rfl,rfl⟩
    ·refine AG1.st (i:=23) rfl (St.alloc 2009 rfl rfl (by decide) ty.ze50) (by decide) rfl ?_
     refine AG.stx (i:=21) rfl (by kernel_rfl) (St.callX [(0,0)] [] [0] rfl (by intro s hs;cases hs;decide) rfl Try.func20 rfl rfl (l01Below_e g code _ _ _ hc5) ⟨rfl,rfl,rfl⟩ (⟨⟨0,rfl,rfl⟩,trivial⟩) (pins_cur) rfl) (exK (l:=[0]) rfl rfl) rfl ?_
     rintro _ _ ⟨xz7,oz7,hz7,rfl,rfl⟩
     obtain⟨i7,q7,hc7,⟨n7,⟨na7,nb7⟩,rfl⟩,rfl⟩:=hz7
     refine yq 22 (rd (x:=.agg [vI _ _,vI _ _,vI _ _]) (rd_build Z ty.sa50 Z Z Z) Z)<|yl Z (zB 2009 ty.co50 ty.inf50 Z)<|gT<|aS ?_
     have hpx:wfPrice ⟨x.chans[m].id,x.chans[m2].id,n7⟩:=⟨(hw.chans _ (List.getElem_mem hml)).1,(hw.chans _ (List.getElem_mem hml2)).1,by dsimp only;unfold i64;omega⟩
     refine aL<|laZ Z<|nG<|aS<|sL<|lmO Z<|lnI ty.sl28 Z<|lmI Z<|nG<|aB ?_
     refine aW [0,3,4,5,6,7,9,53,54] [0,50,2003,2009] (D:=Nat×Bool) (fun d=>[(55,int (d.1:Int)),(10,boo d.2)]) (fun d=>[]) (fun d=>d.1≤ps.length) (fun d=>ps.length-d.1) ((0,false)) (Nat.zero_le _) ⟨rfl,rfl,trivial⟩ trivial ?_
     intro ⟨j,kn⟩ hI
     replace hI:j≤ps.length:=hI
     refine sL<|lbB Z<|nG<|aS ?_
     refine AW.cond rfl ?_ ?_
     ·intro h7
      refine aK<|gT<|aS<|aB<|aS ?_
      have hj:j<ps.length:=by have h:=h7;rw[length_rowsOf]at h;simp only[decide_eq_true_eq]at h;omega
      refine aL<|lq (rj j ty.el28 rfl (by rw[length_rowsOf];exact hj))<|lq (rd (x:=.agg [vI _ _,vI _ _,vI _ _]) (rd_load_arr rfl ty.kd50 rfl rfl rfl (row_map hj) rfl) rfl)<|lst (zA 2012 ty.ze50 rfl) Z<|lT [0,3,4,5,6,7,9,10,12,53,54,55,58] [0,50,2003,2009,2012] ?_
      refine lst (zB 2012 ty.co50 ty.inf50 Z) Z<|nA<|lf 0 ty.F50_0 Z<|loI ty.kd3 Z<|lf 0 ty.F50_0 Z<|loI ty.kd3 Z<|lbB Z<|lmB Z ?_
      refine AL.bool (t:=64) rfl ?_ ?_
      ·intro h8
       refine lf 1 ty.F50_1 Z<|loI ty.kd3 Z<|lf 1 ty.F50_1 Z<|loI ty.kd3 Z<|lbB Z<|lkB Z<|nG ?_
       refine AW.cond rfl ?_ ?_
       ·intro h9
        refine aL<|laT Z<|lN<|gB<|gT<|aL<|lgI Z<|lmI Z<|nG ?_
        refine⟨(j+1,true),hj,by show ps.length-(j+1)<ps.length-j;omega,⟨(Eq.trans (b:=int _) rfl (congrArg int (by dsimp only;omega))),rfl,trivial⟩,trivial,rfl,rfl⟩
       ·intro h9
        refine aK<|gB<|gT<|aL<|lgI Z<|lmI Z<|nG ?_
        refine⟨(j+1,kn),hj,by show ps.length-(j+1)<ps.length-j;omega,⟨(Eq.trans (b:=int _) rfl (congrArg int (by dsimp only;omega))),rfl,trivial⟩,trivial,rfl,rfl⟩
      ·intro h8
       refine lno Z<|lno Z<|lno Z<|lno Z<|lno Z<|lkZ Z<|nG<|aN Z<|aK<|gB<|gT<|aL<|lgI Z<|lmI Z<|nG ?_
       refine⟨(j+1,kn),hj,by show ps.length-(j+1)<ps.length-j;omega,⟨(Eq.trans (b:=int _) rfl (congrArg int (by dsimp only;omega))),rfl,trivial⟩,trivial,rfl,rfl⟩
     ·intro h7
      refine aE<|eT<|eT<|eB<|gA<|lmB Z<|luB Z<|nG ?_
      refine AW.cond rfl ?_ ?_
      ·intro h10
       refine aL<|lmO Z<|loX (.agg [vI _ _,vI _ _,vI _ _]) ty.kd50 Z ?_
       refine lst (zS 2076 (rowsOf encPrice [⟨x.chans[m].id,x.chans[m2].id,n7⟩]) ty.el28 ty.ze50 rfl) Z<|lT [0,3,4,5,6,7,74,76] [0,50,2003,2009,2076] ?_
       refine lst (zP 50 ty.el28 ty.ze50 ty.by50 rfl (Src.own rfl rfl) (by simp[rowsOf];omega)) Z<|laO Z<|lN<|gB<|gT<|aL<|lmI Z<|lgI Z<|laI Z<|nG ?_
       refine⟨(_,_,kL-1,ps++[⟨x.chans[m].id,x.chans[m2].id,n7⟩]),⟨by assumption,psnoc hwL hpx,by dsimp only;simp;omega⟩,by dsimp only;omega,⟨(Eq.trans (b:=int _) rfl (congrArg int (by dsimp only;omega))),rfl,trivial⟩,⟨rfl,(congrArg (AO.arr 50 3) (rowsOf_app encPrice _ [_]).symm),trivial⟩,rfl,rfl⟩
      ·intro h10
       refine aK<|gB<|gT<|aL<|lmI Z<|lgI Z<|laI Z<|nG ?_
       refine⟨(_,_,kL-1,ps),⟨by assumption,hwL,by dsimp only;omega⟩,by dsimp only;omega,⟨(Eq.trans (b:=int _) rfl (congrArg int (by dsimp only;omega))),rfl,trivial⟩,⟨rfl,rfl,trivial⟩,rfl,rfl⟩
   ·refine AG1.st (i:=23) rfl (St.alloc 2009 rfl rfl (by decide) ty.ze50) (by decide) rfl ?_
    refine AG.stx (i:=13) rfl (by kernel_rfl) (St.callX [(0,0)] [] [0] rfl (by intro s hs;cases hs;decide) rfl Try.func20 rfl rfl (l01Below_e g code _ _ _ hc2) ⟨rfl,rfl,rfl⟩ (⟨⟨0,rfl,rfl⟩,trivial⟩) (pins_cur) rfl) (exK (l:=[0]) rfl rfl) rfl ?_
    rintro _ _ ⟨xz8,oz8,hz8,rfl,rfl⟩
    obtain⟨i8,q8,hc8,⟨n8,⟨na8,nb8⟩,rfl⟩,rfl⟩:=hz8
    refine tq 14 (rgI rfl (by unfold i64;omega)) ?_
    refine tq 16 (rhI rfl ⟨rfl,by omega⟩) ?_
    obtain⟨z1,z2⟩:=tmod_bd (n:=n2+1+n8) (m:=(x.chans.length:Int)) (by omega) (by omega)
    obtain⟨m2,hm2⟩:=Int.eq_ofNat_of_zero_le z1
    have hml2:m2<x.chans.length:=by omega
    refine tq 17 (rd (x:=.rp _) (rd_iaddr_p (i:=m2) rfl ty.el23 rfl rfl ?hn3 (row_map hml2)) rfl) ?_
    case hn3=>exact hm2
    refine tq 18 (rd (x:=.rp _) (zfr ty.F57_0 Z) Z)<|tq 19 (rrI ty.kd3 Z) ?_
    refine AG.stx (i:=21) rfl (by kernel_rfl) (St.callX [(0,0)] [] [0] rfl (by intro s hs;cases hs;decide) rfl Try.func20 rfl rfl (l01Below_e g code _ _ _ hc8) ⟨rfl,rfl,rfl⟩ (⟨⟨0,rfl,rfl⟩,trivial⟩) (pins_cur) rfl) (exK (l:=[0]) rfl rfl) rfl ?_
    rintro _ _ ⟨xz9,oz9,hz9,rfl,rfl⟩
    obtain⟨i9,q9,hc9,⟨n9,⟨na9,nb9⟩,rfl⟩,rfl⟩:=hz9
    refine gX [0,3,4,5,6,7,9,35,49,51] [0,50,2003,2009] ?_
    refine yq 22 (rd (x:=.agg [vI _ _,vI _ _,vI _ _]) (rd_build Z ty.sa50 Z Z Z) Z)<|yl Z (zB 2009 ty.co50 ty.inf50 Z)<|gT<|aS ?_
    have hpx:wfPrice ⟨x.chans[m].id,x.chans[m2].id,n9⟩:=⟨(hw.chans _ (List.getElem_mem hml)).1,(hw.chans _ (List.getElem_mem hml2)).1,by dsimp only;unfold i64;omega⟩
    refine aL<|laZ Z<|nG<|aS<|sL<|lmO Z<|lnI ty.sl28 Z<|lmI Z<|nG<|aB ?_
    refine aW [0,3,4,5,6,7,9,53,54] [0,50,2003,2009] (D:=Nat×Bool) (fun d=>[(55,int (d.1:Int)),(10,boo d.2)]) (fun d=>[]) (fun d=>d.1≤ps.length) (fun d=>ps.length-d.1) ((0,false)) (Nat.zero_le _) ⟨rfl,rfl,trivial⟩ trivial ?_
    intro ⟨j,kn⟩ hI
    replace hI:j≤ps.length:=hI
    refine sL<|lbB Z<|nG<|aS ?_
    refine AW.cond rfl ?_ ?_
    ·intro h11
     refine aK<|gT<|aS<|aB<|aS ?_
     have hj:j<ps.length:=by have h:=h11;rw[length_rowsOf]at h;simp only[decide_eq_true_eq]at h;omega
     refine aL<|lq (rj j ty.el28 rfl (by rw[length_rowsOf];exact hj))<|lq (rd (x:=.agg [vI _ _,vI _ _,vI _ _]) (rd_load_arr rfl ty.kd50 rfl rfl rfl (row_map hj) rfl) rfl)<|lst (zA 2012 ty.ze50 rfl) Z<|lst (zB 2012 ty.co50 ty.inf50 rfl) Z<|nA<|lf 0 ty.F50_0 Z<|loI ty.kd3 Z<|lf 0 ty.F50_0 Z<|loI ty.kd3 Z<|lbB Z<|lmB rfl ?_
     refine AL.bool (t:=64) rfl ?_ ?_
     ·intro h12
      refine lf 1 ty.F50_1 Z<|loI ty.kd3 Z<|lf 1 ty.F50_1 Z<|loI ty.kd3 Z<|lbB Z<|lkB Z<|nG ?_
      refine AW.cond rfl ?_ ?_
      ·intro h13
       refine aL<|laT Z<|lN<|gB<|gT<|aL<|lgI Z<|lmI Z<|nG ?_
       refine⟨(j+1,true),hj,by show ps.length-(j+1)<ps.length-j;omega,⟨(Eq.trans (b:=int _) rfl (congrArg int (by dsimp only;omega))),rfl,trivial⟩,trivial,rfl,rfl⟩
      ·intro h13
       refine aK<|gB<|gT<|aL<|lgI Z<|lmI Z<|nG ?_
       refine⟨(j+1,kn),hj,by show ps.length-(j+1)<ps.length-j;omega,⟨(Eq.trans (b:=int _) rfl (congrArg int (by dsimp only;omega))),rfl,trivial⟩,trivial,rfl,rfl⟩
     ·intro h12
      refine lno Z<|lno Z<|lno Z<|lno Z<|lno Z<|lkZ Z<|nG<|aN Z<|aK<|gB<|gT<|aL<|lgI Z<|lT [0,3,4,5,6,7,9,10,53,54,55,71] [0,50,2003,2009,2012] ?_
      refine lmI Z<|nG ?_
      refine⟨(j+1,kn),hj,by show ps.length-(j+1)<ps.length-j;omega,⟨(Eq.trans (b:=int _) rfl (congrArg int (by dsimp only;omega))),rfl,trivial⟩,trivial,rfl,rfl⟩
    ·intro h11
     refine aE<|eT<|eT<|eB<|gA<|lmB Z<|luB Z<|nG ?_
     refine AW.cond rfl ?_ ?_
     ·intro h14
      refine aL<|lmO Z<|loX (.agg [vI _ _,vI _ _,vI _ _]) ty.kd50 Z ?_
      refine lst (zS 2076 (rowsOf encPrice [⟨x.chans[m].id,x.chans[m2].id,n9⟩]) ty.el28 ty.ze50 rfl) Z<|lst (zP 50 ty.el28 ty.ze50 ty.by50 rfl (Src.own rfl rfl) (by simp[rowsOf];omega)) Z<|laO Z<|lN<|gB<|gT<|aL<|lmI Z<|lgI Z<|laI Z<|nG ?_
      refine⟨(_,_,kL-1,ps++[⟨x.chans[m].id,x.chans[m2].id,n9⟩]),⟨by assumption,psnoc hwL hpx,by dsimp only;simp;omega⟩,by dsimp only;omega,⟨(Eq.trans (b:=int _) rfl (congrArg int (by dsimp only;omega))),rfl,trivial⟩,⟨rfl,(congrArg (AO.arr 50 3) (rowsOf_app encPrice _ [_]).symm),trivial⟩,rfl,rfl⟩
     ·intro h14
      refine aK<|gB<|gT<|aL<|lmI Z<|lgI Z<|laI Z<|nG ?_
      refine⟨(_,_,kL-1,ps),⟨by assumption,hwL,by dsimp only;omega⟩,by dsimp only;omega,⟨(Eq.trans (b:=int _) rfl (congrArg int (by dsimp only;omega))),rfl,trivial⟩,⟨rfl,rfl,trivial⟩,rfl,rfl⟩
  ·intro h2
   refine aE<|eT<|eT<|eB<|gA<|lmO Z<|laO Z<|nG<|aR ?_
   refine end_xret ((.own 50)) [(0,curO g code _ _),(50,.arr 50 3 (rowsOf encPrice ps))] ?_ rfl ⟨rfl,rfl,trivial⟩
   exact⟨_,_,_,hcL,⟨ps,hwL,by omega,rfl,rfl⟩,rfl⟩
 ·intro h1
  refine lno Z<|lno Z<|lkZ Z<|nG<|aN Z<|aE<|eT<|eT<|eB<|gA<|lmO Z<|laO Z<|nG<|aR ?_
  refine end_xret ((.own 50)) [(0,curO g code _ _),(50,.arr 50 3 (rowsOf encPrice ps))] ?_ rfl ⟨rfl,rfl,trivial⟩
  exact⟨_,_,_,hcL,⟨ps,hwL,by omega,rfl,rfl⟩,rfl⟩
theorem l09Any_e(g:Value)(code:List Int)(i:Nat)(h:Int)(hc:CurOk code i):GX Try.prog 19 [.ptr 0 0 0] [(0,curO g code i h)] (DrX g code DrBP):=by
 refine GX.intro (rs:=[.cell 2 27 (some 6),.tmp 3]) Try.func19 rfl Try.ntmps19 (Nat.le_of_ble_eq_true rfl) ⟨rfl,rfl,ty.kd27,rfl,trivial⟩ ?_
 intro L O w0
 refine sL<|lst (zA 2002 ty.ze27 Z) Z<|laV Z<|nA<|lmP Z ?_
 refine lX [(0,0),(1,1),(2,2),(3,3)] [1,2,3] [0] Try.func36 (l07Draw_e g code _ _ _ hc (by omega)) (⟨⟨0,rfl,rfl⟩,trivial⟩) (pins_curX) Z ?_
 intro xz1 oz1 hz1
 obtain⟨i1,q1,_,hc1,⟨aB,bB,cB,lB,xB,yB,hwB,rfl,rfl⟩,rfl⟩:=hz1
 refine lst (zA 2004 ty.ze27 Z) Z<|lst (zB 2004 ty.co27 ty.inf27 Z) Z<|nA ?_
 refine AL.freeze 1 rfl ?_
 refine AL.freeze 2 rfl ?_
 refine AL.freeze 3 rfl ?_
 refine lmP Z<|loX (.agg [vI _ _,vI _ _,vI _ _,vL _ _ _,vL _ _ _,vL _ _ _]) ty.kd27 Z ?_
 refine lX [(0,0),(50,50)] [50] [0] Try.func37 (l09Prices_e g code _ _ hc1 ⟨aB,bB,cB,lB,xB,yB⟩ hwB) (⟨⟨0,rfl,rfl⟩,trivial⟩) (pins_curX) Z ?_
 intro xz2 oz2 hz2
 obtain⟨i2,q2,_,hc2,⟨ps1,hwp1,hlp1,rfl,rfl⟩,rfl⟩:=hz2
 refine laO Z<|nA<|lmP Z ?_
 refine lX [(0,0)] [] [0] Try.func20 (l01Below_e g code _ _ _ hc2) (⟨⟨0,rfl,rfl⟩,trivial⟩) (pins_cur) Z ?_
 intro xz3 oz3 hz3
 obtain⟨i3,q3,hc3,⟨n3,⟨na3,nb3⟩,rfl⟩,rfl⟩:=hz3
 refine laI Z<|nG ?_
 refine aJ [0,2,3,4,6] [2002,2004] (D:=Nat×Int×List Price) (fun d=>[(5,.own 50)]) (fun d=>[(0,curO g code d.1 d.2.1),(50,.arr 50 3 (rowsOf encPrice d.2.2))]) (fun d=>CurOk code d.1∧PricesWf d.2.2∧d.2.2.length≤8) ?_ ?_
 ·refine sL<|lmI Z<|lbB Z<|lmB Z ?_
  refine AL.bool (t:=16) rfl ?_ ?_
  ·intro h1
   refine lmO Z<|lnI ty.sl28 Z<|lbB Z<|lkB Z<|nG ?_
   refine AW.cond rfl ?_ ?_
   ·intro h2
    have hl0:0<ps1.length:=by have h:=h2;simp[length_rowsOf]at h;omega
    refine aL<|lmO Z<|lmP Z ?_
    refine lX [(0,0)] [] [0] Try.func21 (l01Raw_e g code _ _ hc3) (⟨⟨0,rfl,rfl⟩,trivial⟩) (pins_cur) Z ?_
    intro xz4 oz4 hz4
    obtain⟨i4,q4,hc4,⟨n4,hn4,rfl⟩,rfl⟩:=hz4
    refine lT [0,2,3,4,5,6,21,23] [0,50,2002,2004] ?_
    refine lq (rj 0 ty.el28 rfl (by rw[length_rowsOf];omega))<|lf 2 ty.F50_2 Z<|lst (zQ 50 [.v (.int .i64 n4)] ty.co3 ty.inf3 rfl (row_map hl0)) Z<|nG ?_
    refine⟨(_,_,ps1.set 0 { ps1[0]with ppm:=n4 }),⟨by assumption,pwset hwp1 (by have hz:=hwp1 _ (List.getElem_mem hl0);unfold wfPrice at *;dsimp only at *;exact⟨hz.1,hz.2.1,by assumption⟩),by rw[List.length_set];omega⟩,⟨rfl,trivial⟩,⟨rfl,(Eq.trans (b:=AO.arr 50 3 ((rowsOf encPrice ps1).set 0 ((encPrice { ps1[0]with ppm:=n4 }).map PV.v))) rfl (congrArg (AO.arr 50 3) pset)),trivial⟩,rfl,rfl⟩
   ·intro h2
    refine aK<|gT ?_
    refine⟨(_,_,ps1),⟨by assumption,hwp1,by dsimp only;omega⟩,⟨rfl,trivial⟩,⟨rfl,rfl,trivial⟩,rfl,rfl⟩
  ·intro h1
   refine lno Z<|lno Z<|lno Z<|lkZ Z<|nG<|aN Z<|aK<|gT ?_
   refine⟨(_,_,ps1),⟨by assumption,hwp1,by dsimp only;omega⟩,⟨rfl,trivial⟩,⟨rfl,rfl,trivial⟩,rfl,rfl⟩
 ·intro ⟨iJ6,qJ6,lJ6⟩ hJ6
  dsimp only
  obtain⟨hcJ6,hwJ6,hlJ6⟩:=hJ6
  simp only at hcJ6 hwJ6 hlJ6
  refine aJ [0,2,3,4,6] [2002,2004] (D:=Nat×Int×List Price) (fun d=>[(5,.own 50)]) (fun d=>[(0,curO g code d.1 d.2.1),(50,.arr 50 3 (rowsOf encPrice d.2.2))]) (fun d=>CurOk code d.1∧PricesWf d.2.2∧d.2.2.length≤9) ?_ ?_
  ·refine sL<|lmI Z<|lbB Z<|lmB Z ?_
   refine AL.bool (t:=28) rfl ?_ ?_
   ·intro h3
    refine lmO Z<|lnI ty.sl28 Z<|lbB Z<|lkB Z<|nG ?_
    refine AW.cond rfl ?_ ?_
    ·intro h4
     have hl0:0<lJ6.length:=by have h:=h4;simp[length_rowsOf]at h;omega
     refine aL<|lmO Z<|lmO Z<|lq (rj 0 ty.el28 rfl (by rw[length_rowsOf];omega))<|lq (rd (x:=.agg [vI _ _,vI _ _,vI _ _]) (rd_load_arr rfl ty.kd50 rfl rfl rfl (row_map hl0) rfl) rfl)<|lst (zS 2037 (rowsOf encPrice [lJ6[0]]) ty.el28 ty.ze50 rfl) Z<|lst (zP 50 ty.el28 ty.ze50 ty.by50 rfl (Src.own rfl rfl) (by simp[rowsOf];omega)) Z<|laO Z<|nG ?_
     refine⟨(_,_,lJ6++[lJ6[0]]),⟨by assumption,psnoc hwJ6 (hwJ6 _ (List.getElem_mem hl0)),by dsimp only;simp;omega⟩,⟨rfl,trivial⟩,⟨rfl,(congrArg (AO.arr 50 3) (rowsOf_app encPrice _ [_]).symm),trivial⟩,rfl,rfl⟩
    ·intro h4
     refine aK<|gT ?_
     refine⟨(_,_,lJ6),⟨by assumption,hwJ6,by dsimp only;omega⟩,⟨rfl,trivial⟩,⟨rfl,rfl,trivial⟩,rfl,rfl⟩
   ·intro h3
    refine lno Z<|lno Z<|lno Z<|lkZ Z<|nG<|aN Z<|aK<|gT ?_
    refine⟨(_,_,lJ6),⟨by assumption,hwJ6,by dsimp only;omega⟩,⟨rfl,trivial⟩,⟨rfl,rfl,trivial⟩,rfl,rfl⟩
  ·intro ⟨iJ8,qJ8,lJ8⟩ hJ8
   dsimp only
   obtain⟨hcJ8,hwJ8,hlJ8⟩:=hJ8
   simp only at hcJ8 hwJ8 hlJ8
   refine aJ [0,2,3,4,6] [2002,2004] (D:=Nat×Int×List Price) (fun d=>[(5,.own 50)]) (fun d=>[(0,curO g code d.1 d.2.1),(50,.arr 50 3 (rowsOf encPrice d.2.2))]) (fun d=>CurOk code d.1∧PricesWf d.2.2∧d.2.2.length≤9) ?_ ?_
   ·refine sL<|lmI Z<|lbB Z<|lmB Z ?_
    refine AL.bool (t:=41) rfl ?_ ?_
    ·intro h5
     refine lmO Z<|lnI ty.sl28 Z<|lbB Z<|lkB Z<|nG ?_
     refine AW.cond rfl ?_ ?_
     ·intro h6
      have hl0:0<lJ8.length:=by have h:=h6;simp[length_rowsOf]at h;omega
      refine aL<|lmO Z<|lmP Z ?_
      refine lX [(0,0)] [] [0] Try.func20 (l01Below_e g code _ _ _ hcJ8) (⟨⟨0,rfl,rfl⟩,trivial⟩) (pins_cur) Z ?_
      intro xz5 oz5 hz5
      obtain⟨i5,q5,hc5,⟨n5,⟨na5,nb5⟩,rfl⟩,rfl⟩:=hz5
      refine lq (rj 0 ty.el28 rfl (by rw[length_rowsOf];omega))<|lf 1 ty.F50_1 Z<|lst (zQ 50 [.v (.int .i64 n5)] ty.co3 ty.inf3 rfl (row_map hl0)) Z<|nG ?_
      refine⟨(_,_,lJ8.set 0 { lJ8[0]with to:=n5 }),⟨by assumption,pwset hwJ8 (by have hz:=hwJ8 _ (List.getElem_mem hl0);unfold wfPrice at *;dsimp only at *;exact⟨hz.1,by unfold i64;omega,hz.2.2⟩),by rw[List.length_set];omega⟩,⟨rfl,trivial⟩,⟨rfl,(Eq.trans (b:=AO.arr 50 3 ((rowsOf encPrice lJ8).set 0 ((encPrice { lJ8[0]with to:=n5 }).map PV.v))) rfl (congrArg (AO.arr 50 3) pset)),trivial⟩,rfl,rfl⟩
     ·intro h6
      refine aK<|gT ?_
      refine⟨(_,_,lJ8),⟨by assumption,hwJ8,by dsimp only;omega⟩,⟨rfl,trivial⟩,⟨rfl,rfl,trivial⟩,rfl,rfl⟩
    ·intro h5
     refine lno Z<|lno Z<|lno Z<|lkZ Z<|nG<|aN Z<|aK<|gT ?_
     refine⟨(_,_,lJ8),⟨by assumption,hwJ8,by dsimp only;omega⟩,⟨rfl,trivial⟩,⟨rfl,rfl,trivial⟩,rfl,rfl⟩
   ·intro ⟨iJ10,qJ10,lJ10⟩ hJ10
    dsimp only
    obtain⟨hcJ10,hwJ10,hlJ10⟩:=hJ10
    simp only at hcJ10 hwJ10 hlJ10
    refine aJ [2,3,4,5] [50,2002] (D:=Nat×Int×Book) (fun d=>[]) (fun d=>[(0,curO g code d.1 d.2.1),(2004,.box 27 none [int d.2.2.tick,int d.2.2.next,int d.2.2.wallet,.p (.lst 57 7 (rowsOf encChan d.2.2.chans)),.p (.lst 101 7 (rowsOf encHtlc d.2.2.htlcs)),.p (.lst 103 5 (rowsOf encCircle d.2.2.circles))])]) (fun d=>CurOk code d.1∧BookWf d.2.2) ?_ ?_
    ·refine sL<|lmI Z<|lbB Z<|nG ?_
     refine AW.cond rfl ?_ ?_
     ·intro h7
      refine aL<|lmP Z ?_
      refine lX [(0,0),(1,61),(2,62),(3,63)] [61,62,63] [0] Try.func38 (l07Any_e g code _ _ hcJ10) (⟨⟨0,rfl,rfl⟩,trivial⟩) (pins_curX) Z ?_
      intro xz6 oz6 hz6
      obtain⟨i6,q6,_,hc6,⟨aA,bA,cA,lA,xA,yA,hwA,rfl,rfl⟩,rfl⟩:=hz6
      refine AL.freeze 61 rfl ?_
      refine AL.freeze 62 rfl ?_
      refine AL.freeze 63 rfl ?_
      refine lst (zB 2004 ty.co27 ty.inf27 Z) Z<|nG ?_
      refine⟨(_,_,⟨aA,bA,cA,lA,xA,yA⟩),⟨by assumption,hwA⟩,trivial,⟨rfl,rfl,trivial⟩,rfl,rfl⟩
     ·intro h7
      refine aK<|gT ?_
      refine⟨(_,_,⟨aB,bB,cB,lB,xB,yB⟩),⟨by assumption,hwB⟩,trivial,⟨rfl,rfl,trivial⟩,rfl,rfl⟩
    ·intro ⟨iK,qK,bK⟩ hK
     dsimp only
     obtain⟨hcK,hwK⟩:=hK
     simp only at hcK hwK
     refine sL<|loX (.agg [vI _ _,vI _ _,vI _ _,vL _ _ _,vL _ _ _,vL _ _ _]) ty.kd27 Z<|lmO Z<|lst (zB 2002 ty.co27 ty.inf27 Z) Z<|laO Z<|nG<|aR ?_
     refine end_xret ((.tup [bookV bK,.own 50])) [(0,curO g code _ _),(50,.arr 50 3 (rowsOf encPrice lJ10))] ?_ rfl ⟨rfl,rfl,trivial⟩
     exact⟨_,_,_,hcK,⟨bK,lJ10,hwK,hwJ10,hlJ10,rfl,rfl⟩,rfl⟩
theorem l09Draw_e(g:Value)(code:List Int)(i:Nat)(h:Int)(hc:CurOk code i):GX Try.prog 10 [.ptr 0 0 0] [(0,curO g code i h)] (DrX g code DrM):=by
 refine GX.intro (rs:=[.cell 2 27 (some 6),.tmp 3,.tmp 4,.tmp 5,.tmp 6]) Try.func10 rfl Try.ntmps10 (Nat.le_of_ble_eq_true rfl) ⟨rfl,rfl,ty.kd27,rfl,rfl,rfl,rfl,trivial⟩ ?_
 intro L O w0
 refine sL<|lst (zA 2002 ty.ze27 Z) Z<|laI Z<|laI Z<|laI Z<|laV Z<|nA<|lmP Z ?_
 refine lX [(0,0),(50,50)] [50] [0] Try.func19 (l09Any_e g code _ _ hc) (⟨⟨0,rfl,rfl⟩,trivial⟩) (pins_curX) Z ?_
 intro xz1 oz1 hz1
 obtain⟨i1,q1,_,hc1,⟨bk,ps,hwB,hwP,hlP,rfl,rfl⟩,rfl⟩:=hz1
 refine lmX (.tup [.agg [vI _ _,vI _ _,vI _ _,vL _ _ _,vL _ _ _,vL _ _ _],.own _]) Z<|lxX (.agg [vI _ _,vI _ _,vI _ _,vL _ _ _,vL _ _ _,vL _ _ _]) Z<|lxO Z<|lst (zA 2007 ty.ze27 Z) Z<|lst (zB 2007 ty.co27 ty.inf27 Z) Z<|laO Z<|nA<|lmP Z ?_
 refine lX [(0,0)] [] [0] Try.func20 (l01Below_e g code _ _ _ hc1) (⟨⟨0,rfl,rfl⟩,trivial⟩) (pins_cur) Z ?_
 intro xz2 oz2 hz2
 obtain⟨i2,q2,hc2,⟨n2,⟨na2,nb2⟩,rfl⟩,rfl⟩:=hz2
 refine lT [0,2,3,4,5,6,7,8,19] [0,50,2002,2007] ?_
 refine lgI Z<|laI Z<|nA<|lmI Z<|lmP Z ?_
 refine lX [(0,0)] [] [0] Try.func20 (l01Below_e g code _ _ _ hc2) (⟨⟨0,rfl,rfl⟩,trivial⟩) (pins_cur) Z ?_
 intro xz3 oz3 hz3
 obtain⟨i3,q3,hc3,⟨n3,⟨na3,nb3⟩,rfl⟩,rfl⟩:=hz3
 refine lgI Z<|laI Z<|nA<|lmP Z ?_
 refine lX [(0,0)] [] [0] Try.func20 (l01Below_e g code _ _ _ hc3) (⟨⟨0,rfl,rfl⟩,trivial⟩) (pins_cur) Z ?_
 intro xz4 oz4 hz4
 obtain⟨i4,q4,hc4,⟨n4,⟨na4,nb4⟩,rfl⟩,rfl⟩:=hz4
 refine laI Z<|nA<|lmP Z ?_
 refine lX [(0,0)] [] [0] Try.func20 (l01Below_e g code _ _ _ hc4) (⟨⟨0,rfl,rfl⟩,trivial⟩) (pins_cur) Z ?_
 intro xz5 oz5 hz5
 obtain⟨i5,q5,hc5,⟨n5,⟨na5,nb5⟩,rfl⟩,rfl⟩:=hz5
 refine laI Z<|nG ?_
 refine aJ [0,2,3,4,5,6,7,8,10,11,12] [50,2002,2007] (D:=Nat×Int×Int) (fun d=>[(9,int d.2.2)]) (fun d=>[(0,curO g code d.1 d.2.1)]) (fun d=>CurOk code d.1) ?_ ?_
 ·refine sL<|lmI Z<|lbB Z<|nG ?_
  refine AW.cond rfl ?_ ?_
  ·intro h1
   refine aL<|lmP Z ?_
   refine lX [(0,0)] [] [0] Try.func21 (l01Raw_e g code _ _ hc5) (⟨⟨0,rfl,rfl⟩,trivial⟩) (pins_cur) Z ?_
   intro xz6 oz6 hz6
   obtain⟨i6,q6,hc6,⟨n6,hn6,rfl⟩,rfl⟩:=hz6
   refine lT [0,2,3,4,5,6,7,8,9,10,11,12,32] [0,50,2002,2007] ?_
   refine laI Z<|nG ?_
   refine⟨(_,_,_),(by assumption),⟨rfl,trivial⟩,⟨rfl,trivial⟩,rfl,rfl⟩
  ·intro h1
   refine aK<|gT ?_
   refine⟨(_,_,_),(by assumption),⟨rfl,trivial⟩,⟨rfl,trivial⟩,rfl,rfl⟩
 ·intro ⟨iJ8,qJ8,vJ8⟩ hJ8
  dsimp only
  have hcJ8:=hJ8
  replace hcJ8:CurOk code iJ8:=hcJ8
  refine aJ [0,2,3,4,5,6,7,8,9,11,12] [50,2002,2007] (D:=Nat×Int×Int) (fun d=>[(10,int d.2.2)]) (fun d=>[(0,curO g code d.1 d.2.1)]) (fun d=>CurOk code d.1) ?_ ?_
  ·refine sL<|lmI Z<|lbB Z<|nG ?_
   refine AW.cond rfl ?_ ?_
   ·intro h2
    refine aL<|lmP Z ?_
    refine lX [(0,0)] [] [0] Try.func21 (l01Raw_e g code _ _ hcJ8) (⟨⟨0,rfl,rfl⟩,trivial⟩) (pins_cur) Z ?_
    intro xz7 oz7 hz7
    obtain⟨i7,q7,hc7,⟨n7,hn7,rfl⟩,rfl⟩:=hz7
    refine laI Z<|nG ?_
    refine⟨(_,_,_),(by assumption),⟨rfl,trivial⟩,⟨rfl,trivial⟩,rfl,rfl⟩
   ·intro h2
    refine aK<|gT ?_
    refine⟨(_,_,_),(by assumption),⟨rfl,trivial⟩,⟨rfl,trivial⟩,rfl,rfl⟩
  ·intro ⟨iJ10,qJ10,vJ10⟩ hJ10
   dsimp only
   have hcJ10:=hJ10
   replace hcJ10:CurOk code iJ10:=hcJ10
   refine aJ [2,3,4,5,6,7,8,9,10] [50,2002,2007] (D:=Nat×Int×Int) (fun d=>[(11,int d.2.2)]) (fun d=>[(0,curO g code d.1 d.2.1)]) (fun d=>CurOk code d.1) ?_ ?_
   ·refine sL<|lmI Z<|lbB Z<|nG ?_
    refine AW.cond rfl ?_ ?_
    ·intro h3
     refine aL<|lmP Z ?_
     refine lX [(0,0)] [] [0] Try.func21 (l01Raw_e g code _ _ hcJ10) (⟨⟨0,rfl,rfl⟩,trivial⟩) (pins_cur) Z ?_
     intro xz8 oz8 hz8
     obtain⟨i8,q8,hc8,⟨n8,hn8,rfl⟩,rfl⟩:=hz8
     refine laI Z<|nG ?_
     refine⟨(_,_,_),(by assumption),⟨rfl,trivial⟩,⟨rfl,trivial⟩,rfl,rfl⟩
    ·intro h3
     refine aK<|gT ?_
     refine⟨(_,_,_),(by assumption),⟨rfl,trivial⟩,⟨rfl,trivial⟩,rfl,rfl⟩
   ·intro ⟨iJ12,qJ12,vJ12⟩ hJ12
    dsimp only
    have hcJ12:=hJ12
    replace hcJ12:CurOk code iJ12:=hcJ12
    refine sL<|loX (.agg [vI _ _,vI _ _,vI _ _,vL _ _ _,vL _ _ _,vL _ _ _]) ty.kd27 Z<|lmI Z<|lmI Z<|lmI Z<|lmO Z<|lst (zB 2002 ty.co27 ty.inf27 Z) Z<|laI Z<|laI Z<|laI Z<|laO Z<|nG<|aR ?_
    refine end_xret ((.tup [bookV bk,int _,int _,int _,.own 50])) [(0,curO g code _ _),(50,.arr 50 3 (rowsOf encPrice ps))] ?_ rfl ⟨rfl,rfl,trivial⟩
    exact⟨_,_,_,hcJ12,⟨bk,_,_,_,ps,hwB,hwP,hlP,rfl,rfl⟩,rfl⟩
theorem drawMoves_e(code:List Int)(hm:code.length≤1048576):GX Try.prog 4 [.p (.lst 5 1 (rowsOf encU8 code))] [] (DrM):=by
 refine GX.intro (rs:=[.cell 2 27 (some 6),.tmp 3,.tmp 4,.tmp 5,.tmp 6]) Try.func4 rfl Try.ntmps4 (Nat.le_of_ble_eq_true rfl) ⟨rfl,rfl,ty.kd27,rfl,rfl,rfl,rfl,trivial⟩ ?_
 intro L O w0
 refine sL<|lst (zA 2002 ty.ze27 Z) Z<|laI Z<|laI Z<|laI Z<|laV Z<|nA<|lmL Z ?_
 refine lX [(31,0)] [0] [] Try.func9 (l01New_e code hm) (trivial) (fun _ _ _=>trivial) Z ?_
 intro xz1 oz1 hz1
 obtain⟨q1,rfl,rfl⟩:=hz1
 refine laP Z<|nA ?_
 refine AL.pinB 0 rfl ?_
 intro g
 have hc:CurOk code 0:=⟨Nat.zero_le _,hm⟩
 refine lmP rfl ?_
 refine lX [(0,0),(50,50)] [50] [0] Try.func10 (l09Draw_e g code _ _ hc) (⟨⟨0,rfl,rfl⟩,trivial⟩) (pins_curX) Z ?_
 intro xz2 oz2 hz2
 obtain⟨i2,q2,_,hc2,⟨bk,wlo,whi,wg,ps,hwB,hwP,hlP,rfl,rfl⟩,rfl⟩:=hz2
 refine lmX (.tup [.agg [vI _ _,vI _ _,vI _ _,vL _ _ _,vL _ _ _,vL _ _ _],vI _ _,vI _ _,vI _ _,.own _]) Z<|lxX (.agg [vI _ _,vI _ _,vI _ _,vL _ _ _,vL _ _ _,vL _ _ _]) Z<|lxI Z<|lxI Z<|lxI Z<|lxO Z<|lst (zA 2008 ty.ze27 Z) Z<|lT [2,3,4,5,6,8,18,19,20,21,22] [0,50,2002,2008] ?_
 refine lst (zB 2008 ty.co27 ty.inf27 Z) Z<|laI Z<|laI Z<|laI Z<|laO Z<|nA<|loX (.agg [vI _ _,vI _ _,vI _ _,vL _ _ _,vL _ _ _,vL _ _ _]) ty.kd27 Z<|lmI Z<|lmI Z<|lmI Z<|lmO Z<|lst (zB 2002 ty.co27 ty.inf27 Z) Z<|laI Z<|laI Z<|laI Z<|laO Z<|nG<|aR ?_
 refine end_xret ((.tup [bookV bk,int wlo,int whi,int wg,.own 50])) [(50,.arr 50 3 (rowsOf encPrice ps))] ?_ rfl ⟨rfl,trivial⟩
 exact⟨bk,wlo,whi,wg,ps,hwB,hwP,hlP,rfl,rfl⟩
theorem lack_take{es:List Edge}{k:Nat}(hk:k<es.length):lackOf (es.take (k+1))=lackOf (es.take k)+lackE es[k]:=by
 rw[List.take_succ_eq_append_getElem hk,lackOf_app]
 unfold lackOf
 simp
theorem lack_bd:∀(es:List Edge),(∀e∈es,0≤e.cap∧e.cap≤1000000000)→0≤lackOf es∧lackOf es≤1000000000*(es.length:Int)
 |[],_=>by simp[lackOf]
 |e::es,h=>by
  have h1:=h e (by simp)
  have h2:=lack_bd es (fun e he=>h e (by simp[he]))
  have e1:lackOf (e::es)=lackE e+lackOf es:=by unfold lackOf;simp
  have h3:0≤lackE e∧lackE e≤1000000000:=by unfold lackE;split<;>omega
  rw[e1,List.length_cons]
  omega
theorem plan_caps{x:Book}{lo hi gain:Int}{l:List Price}(h:movesOk x lo hi gain l=true):(∀e∈(planG x lo hi gain l).edges,0≤e.cap∧e.cap≤1000000000)∧(planG x lo hi gain l).edges.length≤60∧0≤gain∧gain≤1000000:=by
 unfold movesOk at h
 simp only[Bool.and_eq_true]at h
 have hc:=h.2
 unfold cheapOk at hc
 simp only[Bool.and_eq_true]at hc
 have hg:=hc.1
 unfold graphOk at hg
 simp only[Bool.and_eq_true,decide_eq_true_eq]at hg
 obtain⟨_,_,_,g1,g2⟩:=planOk_facts h.1
 exact⟨fun e he=>by have:=edgeOk_iff.1 (List.all_eq_true.1 hg.2 e he);omega,hg.1.2,g1,g2⟩
theorem plan_y{x:Book}{lo hi gain:Int}{l:List Price}(hw:BookWf x)(hl:PricesWf l)(hn:l.length≤1048576)(h:movesOk x lo hi gain l=true):GC Try.prog 7 [bookV x,int lo,int hi,int gain,pricesV l] [] (.tup [.agg [int (planG x lo hi gain l).n,.own 1],boo true]) [(1,eAr (planG x lo hi gain l).edges)]:=by
 have q:=plan_e x lo hi gain l hw hl hn
 rwa [(moves_gain h).1]at q
theorem moves_wf{x:Book}{lo hi gain:Int}{l:List Price}(hl:PricesWf l)(h:movesOk x lo hi gain l=true):∀m∈movesL x lo hi gain l,wfMove m:=by
 have hm:movesL x lo hi gain l=movesK (cheapL (planG x lo hi gain l)) ((cheapL (planG x lo hi gain l)).length-l.length) l l.length:=if_pos h
 rw[hm]
 unfold movesOk at h
 simp only[Bool.and_eq_true]at h
 have hg:graphOk (planG x lo hi gain l)=true:=by have:=h.2;unfold cheapOk at this;simp only[Bool.and_eq_true]at this;exact this.1
 have hb:=(cheapL_best h.2 (zero_flow hg)).1
 refine movesK_wf (fun y hy=>?_) hl _
 obtain⟨_,h2,h3⟩:=flowOk_parts hb
 obtain⟨i,hi5,rfl⟩:=List.getElem_of_mem hy
 have hz:i<((planG x lo hi gain l).edges.zip (cheapL (planG x lo hi gain l))).length:=by simp;omega
 have:=h3 _ (List.getElem_mem hz)
 rw[List.getElem_zip]at this
 dsimp only at this
 unfold i64;omega
theorem fnMoves_e(code:List Int):GC Try.prog 3 [.p (.lst 5 1 (rowsOf encU8 code))] [] (boo true) []:=by
 refine gi 2 Try.func3 rfl Try.ntmps3 rfl ?_
 intro L O w0
 refine sL<|laZ Z<|nG<|aS<|sL<|lmL Z<|lnI ty.sl22 Z<|lbB Z<|nG ?_
 refine AW.cond rfl ?_ ?_
 ·intro h1
  refine sL<|laT Z<|nG<|aR<|rT ?_
  refine eBo trivial ?_
  rfl
 ·intro h1
  refine aK<|gA ?_
  have hm:code.length≤1048576:=by have h:=h1;simp[length_rowsOf]at h;omega
  refine lmL rfl ?_
  refine lX [(50,50)] [50] [] Try.func4 (drawMoves_e code hm) (trivial) (fun _ _ _=>trivial) Z ?_
  intro xz1 oz1 hz1
  obtain⟨bk,wlo,whi,wg,ps,hwB,hwP,hlP,rfl,rfl⟩:=hz1
  refine lmX (.tup [.agg [vI _ _,vI _ _,vI _ _,vL _ _ _,vL _ _ _,vL _ _ _],vI _ _,vI _ _,vI _ _,.own _]) Z<|lxX (.agg [vI _ _,vI _ _,vI _ _,vL _ _ _,vL _ _ _,vL _ _ _]) Z<|lxI Z<|lxI Z<|lxI Z<|lxO Z<|lst (zA 2003 ty.ze27 Z) Z<|lT [2,3,23,24,25,26,27] [50,2003] ?_
  refine lst (zB 2003 ty.co27 ty.inf27 Z) Z<|laI Z<|laI Z<|laI Z<|laO Z<|nA ?_
  refine AL.freeze 50 rfl ?_
  refine loX (.agg [vI _ _,vI _ _,vI _ _,vL _ _ _,vL _ _ _,vL _ _ _]) ty.kd27 Z<|lmI Z<|lmI Z<|lmI Z<|lmL Z<|lst (zC [(1,71)] [71] [] Try.func5 (moves_e bk wlo whi wg ps hwB hwP (by omega)) (trivial) rfl rfl) Z<|lmX (.tup [.own _,vB _]) Z<|lxO Z<|lxB Z<|laO Z<|laB Z<|nA ?_
  refine AL.freeze 71 rfl ?_
  refine loX (.agg [vI _ _,vI _ _,vI _ _,vL _ _ _,vL _ _ _,vL _ _ _]) ty.kd27 Z<|lmI Z<|lmI Z<|lmI Z<|lmL Z<|lst (zC [(1,72)] [72] [] Try.func6 (smoves_e bk wlo whi wg ps hwB hwP (by omega)) (trivial) rfl rfl) Z<|lT [2,3,4,5,6,7,8,9,43] [72,2003] ?_
  refine lmX (.tup [.own _,vB _]) Z<|lxO Z<|lxB Z<|laO Z<|laB Z<|nG<|aS<|sL<|lmB Z<|lmB Z<|lq (rd (x:=vB _) (rd_neB Z Z Z Try.underlying4) Z)<|nG ?_
  refine AW.cond rfl ?_ ?_
  ·intro h2
   refine sL<|laZ Z<|nG<|aR<|rT ?_
   refine eBo trivial ?_
   exfalso
   simp at h2
  ·intro h2
   refine aK<|gT<|aS<|sL<|lmB Z<|luB Z<|nG ?_
   refine AW.cond rfl ?_ ?_
   ·intro h3
    refine sL<|lmL Z<|lnI ty.sl31 Z<|lbB Z<|laB Z<|nG<|aR<|rT ?_
    refine eBo trivial ?_
    have hz:movesL bk wlo whi wg ps=[]:=if_neg (by simpa using h3)
    rw[hz];rfl
   ·intro h3
    refine aK<|gA ?_
    have hok:movesOk bk wlo whi wg ps=true:=by simpa using h3
    obtain⟨hcap,hlen,hg1,hg2⟩:=plan_caps hok
    obtain⟨_,hgain,hml⟩:=moves_gain hok
    refine loX (.agg [vI _ _,vI _ _,vI _ _,vL _ _ _,vL _ _ _,vL _ _ _]) ty.kd27 Z<|lmI Z<|lmI Z<|lmI Z<|lmL Z<|lst (zC [(1,73)] [73] [] Try.func7 (plan_y hwB hwP (by omega) hok) (trivial) rfl rfl) Z<|lT [2,6,7,8,60] [72,73,2003] ?_
    refine lmX (.tup [.agg [vI _ _,.own _],vB true]) Z<|lxX (.agg [vI _ _,.own _]) Z<|lxX (vB true) Z<|lst (zA 2012 ty.ze36 Z) Z<|lst (zB 2012 ty.co36 ty.inf36 Z) Z<|laT Z<|nA<|laI Z<|nG<|aS<|sL ?_
    refine AL.freeze 73 rfl ?_
    refine lf 1 ty.F36_1 Z<|loL ty.kd34 Z<|lnI ty.sl34 Z<|lmI Z<|nG<|aB ?_
    refine aW [2,6,7,8,13,64,65] [72,2003,2012] (D:=Nat×Int) (fun d=>[(66,int (d.1:Int)),(14,int d.2)]) (fun d=>[]) (fun d=>d.1≤(planG bk wlo whi wg ps).edges.length∧d.2=lackOf ((planG bk wlo whi wg ps).edges.take d.1)) (fun d=>(planG bk wlo whi wg ps).edges.length-d.1) ((0,0)) (⟨Nat.zero_le _,rfl⟩) ⟨rfl,rfl,trivial⟩ trivial ?_
    intro ⟨k,lk⟩ hI
    obtain⟨hkl,hlk⟩:=hI
    dsimp only at hkl hlk
    refine sL<|lbB Z<|nG<|aS ?_
    refine AW.cond rfl ?_ ?_
    ·intro h4
     refine aK<|gT<|aS<|aB<|aS ?_
     have hk:k<(planG bk wlo whi wg ps).edges.length:=by have h:=h4;rw[length_rowsOf]at h;simp only[decide_eq_true_eq]at h;omega
     have hbd:=lack_bd ((planG bk wlo whi wg ps).edges.take k) (fun e he=>hcap e (List.mem_of_mem_take he))
     rw[←hlk]at hbd
     have hb2:((planG bk wlo whi wg ps).edges.take k).length≤60:=by rw[List.length_take];omega
     have hce:=hcap _ (List.getElem_mem hk)
     refine aL<|li k ty.el34 Z (row_map hk)<|lrX (.agg [vI _ _,vI _ _,vI _ _,vI _ _]) ty.kd40 Z<|lst (zA 2016 ty.ze40 Z) Z<|lT [2,6,7,8,13,14,16,64,65,66,69] [72,2003,2012,2016] ?_
     refine lst (zB 2016 ty.co40 ty.inf40 Z) Z<|nA<|lf 1 ty.F40_1 Z<|loI ty.kd3 Z<|lbB Z<|nG ?_
     refine AW.cond rfl ?_ ?_
     ·intro h5
      refine aL<|lmI Z<|lf 2 ty.F40_2 Z<|loI ty.kd3 Z<|lgI Z<|laI Z<|lN<|gB<|gT<|aL<|lgI Z<|lmI Z<|nG ?_
      refine⟨(k+1,_),⟨hk,by dsimp only;rw[lack_take hk,hlk];unfold lackE;rw[if_pos (by simpa using h5)]⟩,by show (planG bk wlo whi wg ps).edges.length-(k+1)<(planG bk wlo whi wg ps).edges.length-k;omega,⟨(Eq.trans (b:=int _) rfl (congrArg int (by dsimp only;omega))),rfl,trivial⟩,trivial,rfl,rfl⟩
     ·intro h5
      refine aK<|gB<|gT<|aL<|lgI Z<|lmI Z<|nG ?_
      refine⟨(k+1,_),⟨hk,by dsimp only;rw[lack_take hk,hlk];unfold lackE;rw[if_neg (by simpa using h5)];omega⟩,by show (planG bk wlo whi wg ps).edges.length-(k+1)<(planG bk wlo whi wg ps).edges.length-k;omega,⟨(Eq.trans (b:=int _) rfl (congrArg int (by dsimp only;omega))),rfl,trivial⟩,trivial,rfl,rfl⟩
    ·intro h4
     refine aE<|eT<|eT<|eB<|gT<|aS ?_
     have hke:k=(planG bk wlo whi wg ps).edges.length:=by have h:=h4;rw[length_rowsOf]at h;simp only[decide_eq_false_iff_not]at h;omega
     subst hke
     rw[List.take_length]at hlk
     have hbd:=lack_bd (planG bk wlo whi wg ps).edges hcap
     rw[←hlk]at hbd hgain
     have hmul:0≤wg*lk∧wg*lk≤1000000*60000000000:=⟨Int.mul_nonneg hg1 hbd.1,Int.mul_le_mul hg2 (by omega) hbd.1 (by omega)⟩
     refine aL<|lmT Z<|lmT Z<|lmL Z<|lst (zC [] [] [] Try.func8 (movesCost_e _ (moves_wf hwP hok)) (trivial) Z Z) Z<|lT [2,6,7,8,14,79,81] [72,2003,2012] ?_
     refine lmI Z<|lmI Z ?_
     refine lhI rfl ⟨rfl,fits_i64 (by dsimp only;unfold i64;omega)⟩<|lbB Z<|lsB 85 true rfl (decide_eq_true hgain)<|lkT Z<|lmT Z<|lmL Z<|lnI ty.sl31 Z<|lmL Z<|lnI ty.sl28 Z<|lbB Z<|lkB Z<|laB Z<|nG<|aR ?_
     refine eBo trivial ?_
     exact decide_eq_true (by rw[length_rowsOf,length_rowsOf];omega)

theorem FnMoves_walk(l:List Int)(a:Option Addr)(c:Nat)(w:World)(h0:SlR 1 repByte w 0 w.heap.size (.slice a l.length c) l) :
 Calls Try.prog 3 #[.slice a l.length c] w fun r w'=>r=.returned (.bool true)∧Grow w w':=
 GC.calls (cs:=[_]) rfl (fnMoves_e l) (by
  simp only[RVL]
  exact⟨_,_,rfl,RV.of_slr (enc:=encU8) h0 (fun _ _ h=>h.1) (fun _=>rfl) (by intro c u hu;simp[encU8]at hu;subst hu;rfl) (Nat.le_refl _) (fun _ _ _=>no_live),rfl⟩)
end Go.Proofs.Ytnlpbgljaecdmaa

namespace Go.Proofs.Ytnlpbgljaecdmaa.fnMoves
open Go.ChangeShapes Go.WideShapes Go.ChangeAt Go.RowKit Go.Proofs.Ytnlpbgljaecdmaa
set_option maxHeartbeats 16000000
set_option maxRecDepth 100000
set_option linter.unusedVariables false
theorem own:ownKnob Try.prog.godebug=none:=by kernel_rfl
theorem laid:laidOutB Try.prog=true:=by kernel_rfl
theorem readable:∀t∈[22],Try.prog.readableRec t=true∧t<Try.prog.types.size:=by
 intro t ht
 simp only[List.mem_cons,List.not_mem_nil,or_false]at ht
 rcases ht with rfl
 all_goals exact⟨by kernel_rfl,of_decide_eq_true (by kernel_rfl)⟩
theorem lifted(os:Os)(started:os.Started)(H:Type)(enc:TypeId×Value→H) :
 ReturnsInHanded {} Try.checked os 3 .any (Rows.fnMovesSpec.pre6 enc Try.prog Try.f3 Rows.fnMovesRow.domain false) (Rows.fnMovesSpec.post enc Try.prog Try.f3 false true false false):=by
 refine returnsInHanded_of_change (C:=Try.checked) own started (by kernel_rfl) Try.func3
  (ChangeSpec.witness6 (enc:=enc) (C:=Try.checked) false ⟨#[],#[.slice none 0 0],[]⟩ 8 (by kernel_rfl) (by kernel_rfl) (by kernel_rfl) (by kernel_rfl)) ?_
 intro W base args ds gs before hval0 hW hcnd _
 have hval:∀(j:Nat) t v,Try.f3.params[j]? = some t→args[j]? = some v→Value.okWide Try.prog W .any base t v:=hval0
 have hW':=hW
 obtain⟨p,q,hA0,hV,rfl,hfz,hnd⟩:=hW
 have hA:DataW.TrodAll enc Try.prog W 0 (fun _=>true) true Try.f3.params.toList args.toList ds p:=hA0
 rw[Try.params3]at hA hval
 have hB:=hA
 obtain⟨v0,vs0,d0,ds0,p0,q0,hargs,rfl,rfl,h0,r0⟩:=trodAll_cons hA
 obtain⟨rfl,rfl,rfl⟩:=trodAll_nil r0
 obtain rfl:args=#[v0]:=by cases args;simp_all
 obtain⟨rfl,rfl⟩:=trodVars_none hV
 obtain⟨a0,l0,c0,rfl⟩:=okWide_slice Try.underlying22 (hval 0 22 v0 rfl rfl)
 obtain⟨fu0,t0⟩:=h0
 obtain⟨x0,s0⟩:=SlR.of_trod (rep:=repByte) Try.underlying22 cellsByte (by decide) (fun _ _ _ h=>trodByte h) t0
 obtain rfl:l0=x0.length:=by obtain⟨_,_,he,_⟩:=s0;injection he
 clear hA0 hval0
 simp only[List.append_nil]at hW'
 refine(FnMoves_walk x0 a0 c0 W s0).mono fun e W' ⟨he,hg⟩=>?_
 subst he
 exact⟨_,rfl,_,_,_,_,_,[],hW',trodAll_mk1 (shut_bool Try.underlying4 true),
  trodAll_below laid hg.below (readable) hB,rfl,hg.below.frame _,fun h=>by cases h⟩
theorem over:Rows.fnMovesRow.holds Try.pinned (OpenSpec.ofChange Rows.fnMovesSpec):=
 OpenClaim.holds_of_wide 3 Try.f3 rfl rfl rfl rfl rfl rfl rfl ⟨rfl,rfl,rfl,rfl,rfl⟩ rfl rfl rfl rfl rfl (by kernel_rfl) Try.func3 (by kernel_rfl)
  (of_decide_eq_true (by kernel_rfl)) (by unfold Func.isWrapper;first|(rw[if_pos (by decide +kernel)];kernel_rfl)|(rw[if_neg (by decide +kernel)];exact⟨rfl,rfl⟩))
  (fun os started H enc _=>lifted os started H enc)
theorem proved:Rows.FnMovesSaid:=
 over
#print axioms proved
end Go.Proofs.Ytnlpbgljaecdmaa.fnMoves

