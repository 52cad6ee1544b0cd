/- Texts of the proof of FnLogEvents, joined: EA8, LogS, LogN, EO1, EO2. -/
import Derived.Test.YteblcdnhnckkaaaJLogEvents5
namespace Go.Proofs.Yteblcdnhnckkaaa
open Go.RowKit
set_option maxHeartbeats 16000000
set_option maxRecDepth 100000
set_option linter.unusedSimpArgs false
set_option linter.unusedVariables false
def encBool(b:Bool):List Value:=[.bool b]
def hK(k:Int):Bool:=!decide (k=1∨k=2∨k=3∨k=4∨k=8)
def hC(k:Int):Bool:=decide (k=2∨k=3∨k=4∨k=5∨k=9)
def hT(k:Int):Bool:=decide (k=5∨k=9)
def hA(k:Int):Bool:=decide (k=1∨k=2∨k=4∨k=5∨k=9)
def hF(k:Int):Bool:=decide (k=2∨k=3∨k=4∨k=9)
def hY(k:Int):Bool:=decide (k=5)
def fieldB(has:Bool)(n lo hi:Int):Bool:=if has then inB n lo hi else n==0
def eventOk(e:Event):Bool:=inB e.kind 1 11&&fieldB (hK e.kind) e.key 1 1000000&&fieldB (hC e.kind) e.ch 1 99&&fieldB (hT e.kind) e.to 1 99&&!(hT e.kind&&e.ch==e.to) &&
 fieldB (hA e.kind) e.amt (if e.kind=4 then 0 else 1) 1125899906842624&&fieldB (hF e.kind) e.fee 0 (if e.kind=4 then 1000000 else 1125899906842624)&&(hY e.kind||!e.yes)
theorem evAmt{e:Event}(h:eventOk e=true):amtOk e.amt=true∧amtOk e.fee=true:=by
 unfold eventOk at h
 simp only[Bool.and_eq_true]at h
 obtain⟨⟨⟨_,h1⟩,h2⟩,_⟩:=h
 rw[amtOk_true,amtOk_true]
 unfold fieldB at h1 h2
 constructor
 ·split at h1
  ·have:=inB_true.1 h1
   split at this<;>omega
  ·simp at h1;omega
 ·split at h2
  ·have:=inB_true.1 h2
   split at this<;>omega
  ·simp at h2;omega
theorem evNone{e:Event}(h:¬(1≤e.kind∧e.kind≤11)):eventOk e=false:=by
 unfold eventOk
 rw[show inB e.kind 1 11=false from by rw[inB_false];omega]
 rfl
theorem isKey_e(n:Int):GC Try.prog 96 [int n] [] (boo (keyOk n)) []:=GC.of_vals (r:=.bool (keyOk n)) (RV.v_mk rfl) rfl fun w=>(isKey_c n w).mono fun e w' h=>⟨h.1,h.2▸Grow.refl _⟩
theorem isChan_e(n:Int):GC Try.prog 95 [int n] [] (boo (chOk n)) []:=GC.of_vals (r:=.bool (chOk n)) (RV.v_mk rfl) rfl fun w=>(isChan_c n w).mono fun e w' h=>⟨h.1,h.2▸Grow.refl _⟩
theorem sfield_e(has:Bool)(n lo hi:Int):GC Try.prog 90 [boo has,int n,int lo,int hi] [] (boo (fieldB has n lo hi)) []:=by
 refine gi 8 Try.func90 rfl Try.ntmps90 rfl ?_
 intro L O w0
 refine sL<|laZ Z<|nG<|aS<|sL<|lmB Z<|luB Z<|nG ?_
 refine AW.cond rfl ?_ ?_
 ·intro h1
  refine sL<|lmI Z<|lbB Z<|laB Z<|nG<|aR<|rT ?_
  refine eBo trivial ?_
  unfold fieldB inB
  first|(simp_all;done)|(simp_all[dec_beq];done)|(simp_all;intros;omega)
 ·intro h1
  refine aK<|gA<|lmI Z<|lmI Z<|lbB Z<|lmB Z ?_
  refine AL.bool (t:=16) rfl ?_ ?_
  ·intro h2
   refine lmI Z<|lmI Z<|lbB Z<|lkB Z<|laB Z<|nG<|aR ?_
   refine eBo trivial ?_
   unfold fieldB inB
   first|(simp_all;done)|(simp_all[dec_beq];done)|(simp_all;intros;omega)
  ·intro h2
   refine lno Z<|lno Z<|lno Z<|lkZ Z<|laZ Z<|nG<|aR ?_
   refine eBo trivial ?_
   unfold fieldB inB
   first|(simp_all;done)|(simp_all[dec_beq];done)|(simp_all;intros;omega)
theorem shas_e(k:Int):GC Try.prog 89 [int k] [] (.own 60) [(60,.arr 4 1 (rowsOf encBool [hK k,hC k,hT k,hA k,hF k,hY k]))]:=by
 refine gi 2 Try.func89 rfl Try.ntmps89 rfl ?_
 intro L O w0
 refine sL<|laV Z<|nG<|aS<|sL<|lmI Z<|nG<|aB<|sL<|lbB Z<|laB Z<|nG ?_
 refine AW.cond rfl ?_ ?_
 ·intro h1
  refine sL<|lst (zS 60 (rowsOf encBool [false,false,false,true,false,false]) ty.el140 ty.ze4 rfl (by intro r hr;simp only[rowsOf,encBool,List.map_cons,List.map_nil,List.mem_cons,List.not_mem_nil,or_false]at hr;rcases hr with h|h|h|h|h|h<;>(subst h;rfl))) Z<|laO Z<|nG<|aR<|rB<|rT ?_
  refine end_ret ?_ ⟨(congrArg (fun l=>AO.arr 4 1 (rowsOf encBool l)) (by unfold hK hC hT hA hF hY;simp_all)),trivial⟩
  rfl
 ·intro h1
  refine aS<|sL<|lbB Z<|laB Z<|nG ?_
  refine AW.cond rfl ?_ ?_
  ·intro h2
   refine asB 7 true rfl h2<|aK<|gT<|aY Z<|sL<|lst (zS 60 (rowsOf encBool [false,true,false,true,true,false]) ty.el140 ty.ze4 rfl (by intro r hr;simp only[rowsOf,encBool,List.map_cons,List.map_nil,List.mem_cons,List.not_mem_nil,or_false]at hr;rcases hr with h|h|h|h|h|h<;>(subst h;rfl))) Z<|laO Z<|nG<|aR<|rB<|rT ?_
   refine end_ret ?_ ⟨(congrArg (fun l=>AO.arr 4 1 (rowsOf encBool l)) (by unfold hK hC hT hA hF hY;simp_all)),trivial⟩
   rfl
  ·intro h2
   refine asB 7 false Z h2<|aL<|lbB Z<|laB Z<|nG ?_
   refine AW.cond rfl ?_ ?_
   ·intro h3
    refine sL<|lst (zS 60 (rowsOf encBool [false,true,false,true,true,false]) ty.el140 ty.ze4 rfl (by intro r hr;simp only[rowsOf,encBool,List.map_cons,List.map_nil,List.mem_cons,List.not_mem_nil,or_false]at hr;rcases hr with h|h|h|h|h|h<;>(subst h;rfl))) Z<|laO Z<|nG<|aR<|rB<|rT ?_
    refine end_ret ?_ ⟨(congrArg (fun l=>AO.arr 4 1 (rowsOf encBool l)) (by unfold hK hC hT hA hF hY;simp_all)),trivial⟩
    rfl
   ·intro h3
    refine sL<|lbB Z<|laB Z<|nG ?_
    refine AW.cond rfl ?_ ?_
    ·intro h4
     refine sL<|lst (zS 60 (rowsOf encBool [false,true,false,false,true,false]) ty.el140 ty.ze4 rfl (by intro r hr;simp only[rowsOf,encBool,List.map_cons,List.map_nil,List.mem_cons,List.not_mem_nil,or_false]at hr;rcases hr with h|h|h|h|h|h<;>(subst h;rfl))) Z<|lT [2,13] [60] ?_
     refine laO Z<|nG<|aR<|rB<|rT ?_
     refine end_ret ?_ ⟨(congrArg (fun l=>AO.arr 4 1 (rowsOf encBool l)) (by unfold hK hC hT hA hF hY;simp_all)),trivial⟩
     rfl
    ·intro h4
     refine sL<|lbB Z<|laB Z<|nG ?_
     refine AW.cond rfl ?_ ?_
     ·intro h5
      refine sL<|lst (zS 60 (rowsOf encBool [true,true,true,true,false,true]) ty.el140 ty.ze4 rfl (by intro r hr;simp only[rowsOf,encBool,List.map_cons,List.map_nil,List.mem_cons,List.not_mem_nil,or_false]at hr;rcases hr with h|h|h|h|h|h<;>(subst h;rfl))) Z<|laO Z<|nG<|aR<|rB<|rT ?_
      refine end_ret ?_ ⟨(congrArg (fun l=>AO.arr 4 1 (rowsOf encBool l)) (by unfold hK hC hT hA hF hY;simp_all)),trivial⟩
      rfl
     ·intro h5
      refine sL<|lbB Z<|laB Z<|nG ?_
      refine AW.cond rfl ?_ ?_
      ·intro h6
       refine sL<|lst (zS 60 (rowsOf encBool [true,true,true,true,true,false]) ty.el140 ty.ze4 rfl (by intro r hr;simp only[rowsOf,encBool,List.map_cons,List.map_nil,List.mem_cons,List.not_mem_nil,or_false]at hr;rcases hr with h|h|h|h|h|h<;>(subst h;rfl))) Z<|laO Z<|nG<|aR<|rB<|rT ?_
       refine end_ret ?_ ⟨(congrArg (fun l=>AO.arr 4 1 (rowsOf encBool l)) (by unfold hK hC hT hA hF hY;simp_all)),trivial⟩
       rfl
      ·intro h6
       refine sL<|lbB Z<|laB Z<|nG ?_
       refine AW.cond rfl ?_ ?_
       ·intro h7
        refine sL<|lst (zS 60 (rowsOf encBool [false,false,false,false,false,false]) ty.el140 ty.ze4 rfl (by intro r hr;simp only[rowsOf,encBool,List.map_cons,List.map_nil,List.mem_cons,List.not_mem_nil,or_false]at hr;rcases hr with h|h|h|h|h|h<;>(subst h;rfl))) Z<|laO Z<|nG<|aR<|rB<|rT ?_
        refine end_ret ?_ ⟨(congrArg (fun l=>AO.arr 4 1 (rowsOf encBool l)) (by unfold hK hC hT hA hF hY;simp_all)),trivial⟩
        rfl
       ·intro h7
        refine aK<|gB<|gA<|lst (zS 60 (rowsOf encBool [true,false,false,false,false,false]) ty.el140 ty.ze4 rfl (by intro r hr;simp only[rowsOf,encBool,List.map_cons,List.map_nil,List.mem_cons,List.not_mem_nil,or_false]at hr;rcases hr with h|h|h|h|h|h<;>(subst h;rfl))) Z<|lT [2,23] [60] ?_
        refine laO Z<|nG<|aR ?_
        refine end_ret ?_ ⟨(congrArg (fun l=>AO.arr 4 1 (rowsOf encBool l)) (by unfold hK hC hT hA hF hY;simp_all)),trivial⟩
        rfl
theorem seventOk_e(e:Event):GC Try.prog 42 [evV e] [] (boo (eventOk e)) []:=by
 refine gi 2 Try.func42 rfl Try.ntmps42 rfl ?_
 intro L O w0
 refine sL<|lst (zX 2001 Z) Z<|laZ Z<|nG<|aS<|sL<|lf 0 ty.F40_0 Z<|loI ty.kd3 Z<|lbB Z<|lmB Z ?_
 refine AL.bool (t:=9) rfl ?_ ?_
 ·intro h1
  refine lno Z<|lno Z<|lno Z<|lkT Z<|nG<|aY Z<|sL<|laZ Z<|nG<|aR<|rT ?_
  refine eBo trivial ?_
  unfold eventOk
  first
  |(simp_all;done)
  |(simp_all[inB];done)
  |(simp_all[inB];intros;omega)
 ·intro h1
  refine lf 0 ty.F40_0 Z<|loI ty.kd3 Z<|lbB Z<|lkB Z<|nG ?_
  refine AW.cond rfl ?_ ?_
  ·intro h2
   refine sL<|laZ Z<|nG<|aR<|rT ?_
   refine eBo trivial ?_
   unfold eventOk
   first
   |(simp_all;done)
   |(simp_all[inB];done)
   |(simp_all[inB];intros;omega)
  ·intro h2
   refine aK<|gA<|lf 0 ty.F40_0 Z<|loI ty.kd3 Z<|lst (zC [(60,60)] [60] [] Try.func89 (shas_e _) (trivial) Z Z) Z<|lT [1,2,16] [60,2001] ?_
   refine laO Z<|nA<|laI Z<|nA<|laI Z<|nG ?_
   refine aJ [1,2,3] [60,2001] (D:=Unit) (fun jd=>[(4,int (if e.kind=4 then 0 else 1)),(5,int (if e.kind=4 then 1000000 else 1125899906842624))]) (fun jd=>[]) (fun jd=>True) ?_ ?_
   ·refine sL<|lf 0 ty.F40_0 Z<|loI ty.kd3 Z<|lbB Z<|nG ?_
    refine AW.cond rfl ?_ ?_
    ·intro h3
     refine sL<|laI Z<|nG<|aL<|laI Z<|nG ?_
     refine⟨(),trivial,⟨(Eq.trans (b:=int _) rfl (congrArg int (by rw[if_pos (by simpa using h3)]))),(Eq.trans (b:=int _) rfl (congrArg int (by rw[if_pos (by simpa using h3)]))),trivial⟩,trivial,rfl,rfl⟩
    ·intro h3
     refine aK<|gT ?_
     refine⟨(),trivial,⟨(Eq.trans (b:=int _) rfl (congrArg int (by rw[if_neg (by simpa using h3)]))),(Eq.trans (b:=int _) rfl (congrArg int (by rw[if_neg (by simpa using h3)]))),trivial⟩,trivial,rfl,rfl⟩
   ·intro jd hJ
    refine aS<|aS<|aG 36 []<|tq 0 (rmO rfl)<|tq 1 (rj 0 ty.el140 rfl (by show 0<6;decide))<|tq 2 (rd (x:=vB _) (rd_load_arr rfl ty.kd4 rfl rfl rfl (rfl) rfl) rfl)<|yq 3 (rf 1 ty.F40_1 rfl)<|yq 4 (roI ty.kd3 rfl)<|yst 5 rfl (zL Try.func90 (sfield_e _ _ _ _) rfl)<|yq 6 (ruB rfl)<|yq 7 (rmB rfl) ?_
    refine AG.bool (t:=27) rfl ?_ ?_
    ·intro h4
     refine tno 8 Z<|tno 9 Z<|tno 10 Z<|yno 11 Z<|yno 12 Z<|yno 13 Z<|yno 14 Z<|yq 15 (rkT Z)<|yq 16 (rmT Z)<|tno 17 Z<|tno 18 Z<|tno 19 Z<|yno 20 Z<|yno 21 Z<|yno 22 Z<|yno 23 Z<|yq 24 (rkT Z)<|yq 25 (rmT Z)<|yno 26 Z<|yno 27 Z<|yno 28 Z<|yno 29 Z<|tno 30 Z<|tno 31 Z<|yno 32 Z<|yno 33 Z<|yno 34 Z<|yno 35 Z<|yq 36 (rkT Z)<|gD ?_
     refine gT<|aY Z<|sL<|laZ Z<|nG<|aR<|rT ?_
     refine eBo trivial ?_
     unfold eventOk
     first
     |(simp_all;done)
     |(simp_all[inB];done)
     |(simp_all[inB];intros;omega)
    ·intro h4
     refine tq 8 (rmO rfl)<|tq 9 (rj 1 ty.el140 rfl (by show 1<6;decide))<|tq 10 (rd (x:=vB _) (rd_load_arr rfl ty.kd4 rfl rfl rfl (rfl) rfl) rfl)<|yq 11 (rf 2 ty.F40_2 rfl)<|yq 12 (roI ty.kd3 rfl)<|yst 13 rfl (zL Try.func90 (sfield_e _ _ _ _) rfl)<|gX [1,2,3,4,5,27,33] [60,2001] ?_
     refine yq 14 (ruB Z)<|yq 15 (rkB Z)<|yq 16 (rmB Z) ?_
     refine AG.bool (t:=36) rfl ?_ ?_
     ·intro h5
      refine tno 17 Z<|tno 18 Z<|tno 19 Z<|yno 20 Z<|yno 21 Z<|yno 22 Z<|yno 23 Z<|yq 24 (rkT Z)<|yq 25 (rmT Z)<|yno 26 Z<|yno 27 Z<|yno 28 Z<|yno 29 Z<|tno 30 Z<|tno 31 Z<|yno 32 Z<|yno 33 Z<|yno 34 Z<|yno 35 Z<|yq 36 (rkT Z)<|gD<|gT<|aY Z<|sL<|laZ Z<|nG<|aR<|rT ?_
      refine eBo trivial ?_
      unfold eventOk
      first
      |(simp_all;done)
      |(simp_all[inB];done)
      |(simp_all[inB];intros;omega)
     ·intro h5
      refine tq 17 (rmO rfl)<|tq 18 (rj 2 ty.el140 rfl (by show 2<6;decide))<|tq 19 (rd (x:=vB _) (rd_load_arr rfl ty.kd4 rfl rfl rfl (rfl) rfl) rfl)<|yq 20 (rf 3 ty.F40_3 rfl)<|yq 21 (roI ty.kd3 rfl)<|yst 22 rfl (zL Try.func90 (sfield_e _ _ _ _) rfl)<|yq 23 (ruB rfl)<|yq 24 (rkB rfl)<|yq 25 (rmB rfl) ?_
      refine AG.bool (t:=45) rfl ?_ ?_
      ·intro h6
       refine yno 26 Z<|yno 27 Z<|yno 28 Z<|yno 29 Z<|tno 30 Z<|tno 31 Z<|yno 32 Z<|yno 33 Z<|yno 34 Z<|yno 35 Z<|yq 36 (rkT Z)<|gD<|gT<|aY Z<|sL<|laZ Z<|nG<|aR<|rT ?_
       refine eBo trivial ?_
       unfold eventOk
       first
       |(simp_all;done)
       |(simp_all[inB];done)
       |(simp_all[inB];intros;omega)
      ·intro h6
       refine yq 26 (rmO rfl)<|yq 27 (rj 2 ty.el140 rfl (by show 2<6;decide))<|yq 28 (rd (x:=vB _) (rd_load_arr rfl ty.kd4 rfl rfl rfl (rfl) rfl) rfl)<|yq 29 (rmB rfl) ?_
       refine AG.bool (t:=49) rfl ?_ ?_
       ·intro h7
        refine tq 30 (rf 2 ty.F40_2 Z)<|tq 31 (roI ty.kd3 Z)<|yq 32 (rf 3 ty.F40_3 Z)<|yq 33 (roI ty.kd3 Z)<|yq 34 (rbB Z)<|yq 35 (rkB Z)<|yq 36 (rkB Z)<|gD<|gT ?_
        refine AW.cond rfl ?_ ?_
        ·intro h8
         refine sL<|laZ Z<|lT [1,2,3,4,5] [60,2001] ?_
         refine nG<|aR<|rT ?_
         refine eBo trivial ?_
         unfold eventOk
         first
         |(simp_all;done)
         |(simp_all[inB];done)
         |(simp_all[inB];intros;omega)
        ·intro h8
         refine aK<|gT<|aS<|aG 26 []<|tq 0 (rmO rfl)<|tq 1 (rj 3 ty.el140 rfl (by show 3<6;decide))<|tq 2 (rd (x:=vB _) (rd_load_arr rfl ty.kd4 rfl rfl rfl (rfl) rfl) rfl)<|tq 3 (rf 4 ty.F40_4 rfl)<|tq 4 (roI ty.kd3 rfl)<|yq 5 (rmI rfl)<|yst 6 rfl (zL Try.func90 (sfield_e _ _ _ _) rfl)<|yq 7 (rmB rfl) ?_
         refine AG.bool (t:=64) rfl ?_ ?_
         ·intro h9
          refine tq 8 (rmO rfl)<|tq 9 (rj 4 ty.el140 rfl (by show 4<6;decide))<|tq 10 (rd (x:=vB _) (rd_load_arr rfl ty.kd4 rfl rfl rfl (rfl) rfl) rfl)<|tq 11 (rf 5 ty.F40_5 rfl)<|tq 12 (roI ty.kd3 rfl)<|yq 13 (rmI rfl)<|yst 14 rfl (zL Try.func90 (sfield_e _ _ _ _) rfl)<|gX [1,2,3,64,71] [60,2001] ?_
          refine yq 15 (rkB Z)<|yq 16 (rmB Z) ?_
          refine AG.bool (t:=73) rfl ?_ ?_
          ·intro h10
           refine yq 17 (rmO rfl)<|yq 18 (rj 5 ty.el140 rfl (by show 5<6;decide))<|yq 19 (rd (x:=vB _) (rd_load_arr rfl ty.kd4 rfl rfl rfl (rfl) rfl) rfl)<|yq 20 (rmB rfl) ?_
           refine AG.bool (t:=77) rfl ?_ ?_
           ·intro h11
            refine yno 21 Z<|yno 22 Z<|yno 23 Z<|yq 24 (rkT Z)<|yq 25 (rkT Z)<|yq 26 (raT Z)<|gD<|gT<|aR ?_
            refine eBo trivial ?_
            unfold eventOk
            first
            |(simp_all;done)
            |(simp_all[inB];done)
            |(simp_all[inB];intros;omega)
           ·intro h11
            refine yq 21 (rf 6 ty.F40_6 Z)<|yq 22 (roB ty.kd4 Z)<|yq 23 (ruB Z)<|yq 24 (rkB Z)<|yq 25 (rkB Z)<|yq 26 (raB Z)<|gD<|gT<|aR ?_
            refine eBo trivial ?_
            unfold eventOk
            first
            |(simp_all;done)
            |(simp_all[inB];done)
            |(simp_all[inB];intros;omega)
          ·intro h10
           refine yno 17 Z<|yno 18 Z<|yno 19 Z<|yno 20 Z<|yno 21 Z<|yno 22 Z<|yno 23 Z<|yno 24 Z<|yq 25 (rkZ Z)<|yq 26 (raZ Z)<|gD<|gT<|aR ?_
           refine eBo trivial ?_
           unfold eventOk
           first
           |(simp_all;done)
           |(simp_all[inB];done)
           |(simp_all[inB];intros;omega)
         ·intro h9
          refine tno 8 Z<|tno 9 Z<|tno 10 Z<|tno 11 Z<|tno 12 Z<|yno 13 Z<|yno 14 Z<|yq 15 (rkZ Z)<|yq 16 (rmZ Z)<|yno 17 Z<|yno 18 Z<|yno 19 Z<|yno 20 Z<|yno 21 Z<|yno 22 Z<|yno 23 Z<|yno 24 Z<|yq 25 (rkZ Z)<|yq 26 (raZ Z)<|gD<|gT<|aR ?_
          refine eBo trivial ?_
          unfold eventOk
          first
          |(simp_all;done)
          |(simp_all[inB];done)
          |(simp_all[inB];intros;omega)
       ·intro h7
        refine tno 30 Z<|tno 31 Z<|yno 32 Z<|yno 33 Z<|yno 34 Z<|yq 35 (rkZ rfl)<|yq 36 (rkZ rfl)<|gD<|gT<|aN Z<|aK<|gT<|aS<|aG 26 []<|tq 0 (rmO rfl)<|tq 1 (rj 3 ty.el140 rfl (by show 3<6;decide))<|tq 2 (rd (x:=vB _) (rd_load_arr rfl ty.kd4 rfl rfl rfl (rfl) rfl) rfl)<|tq 3 (rf 4 ty.F40_4 rfl)<|tq 4 (roI ty.kd3 rfl)<|yq 5 (rmI rfl)<|yst 6 rfl (zL Try.func90 (sfield_e _ _ _ _) rfl)<|gX [1,2,3,5,63] [60,2001] ?_
        refine yq 7 (rmB rfl) ?_
        refine AG.bool (t:=64) rfl ?_ ?_
        ·intro h12
         refine tq 8 (rmO rfl)<|tq 9 (rj 4 ty.el140 rfl (by show 4<6;decide))<|tq 10 (rd (x:=vB _) (rd_load_arr rfl ty.kd4 rfl rfl rfl (rfl) rfl) rfl)<|tq 11 (rf 5 ty.F40_5 rfl)<|tq 12 (roI ty.kd3 rfl)<|yq 13 (rmI rfl)<|yst 14 rfl (zL Try.func90 (sfield_e _ _ _ _) rfl)<|yq 15 (rkB rfl)<|yq 16 (rmB rfl) ?_
         refine AG.bool (t:=73) rfl ?_ ?_
         ·intro h13
          refine yq 17 (rmO rfl)<|yq 18 (rj 5 ty.el140 rfl (by show 5<6;decide))<|yq 19 (rd (x:=vB _) (rd_load_arr rfl ty.kd4 rfl rfl rfl (rfl) rfl) rfl)<|yq 20 (rmB rfl) ?_
          refine AG.bool (t:=77) rfl ?_ ?_
          ·intro h14
           refine yno 21 Z<|yno 22 Z<|yno 23 Z<|yq 24 (rkT Z)<|yq 25 (rkT Z)<|yq 26 (raT Z)<|gD<|gT<|aR ?_
           refine eBo trivial ?_
           unfold eventOk
           first
           |(simp_all;done)
           |(simp_all[inB];done)
           |(simp_all[inB];intros;omega)
          ·intro h14
           refine yq 21 (rf 6 ty.F40_6 Z)<|yq 22 (roB ty.kd4 Z)<|yq 23 (ruB Z)<|yq 24 (rkB Z)<|yq 25 (rkB Z)<|yq 26 (raB Z)<|gD<|gT<|aR ?_
           refine eBo trivial ?_
           unfold eventOk
           first
           |(simp_all;done)
           |(simp_all[inB];done)
           |(simp_all[inB];intros;omega)
         ·intro h13
          refine yno 17 Z<|yno 18 Z<|yno 19 Z<|yno 20 Z<|yno 21 Z<|yno 22 Z<|yno 23 Z<|yno 24 Z<|yq 25 (rkZ Z)<|yq 26 (raZ Z)<|gD<|gT<|aR ?_
          refine eBo trivial ?_
          unfold eventOk
          first
          |(simp_all;done)
          |(simp_all[inB];done)
          |(simp_all[inB];intros;omega)
        ·intro h12
         refine tno 8 Z<|tno 9 Z<|tno 10 Z<|tno 11 Z<|tno 12 Z<|yno 13 Z<|yno 14 Z<|yq 15 (rkZ Z)<|yq 16 (rmZ Z)<|yno 17 Z<|yno 18 Z<|yno 19 Z<|yno 20 Z<|yno 21 Z<|yno 22 Z<|yno 23 Z<|yno 24 Z<|yq 25 (rkZ Z)<|yq 26 (raZ Z)<|gD<|gT<|aR ?_
         refine eBo trivial ?_
         unfold eventOk
         first
         |(simp_all;done)
         |(simp_all[inB];done)
         |(simp_all[inB];intros;omega)
theorem eventOk_e(e:Event):GC Try.prog 48 [evV e] [] (boo (eventOk e)) []:=by
 refine gi 2 Try.func48 rfl Try.ntmps48 rfl ?_
 intro L O w0
 refine sL<|lst (zX 2001 Z) Z<|laZ Z<|nG<|aS<|sL<|lf 4 ty.F40_4 Z<|loI ty.kd3 Z<|lst (zL Try.func94 (amtOk_e _) Z) Z<|luB Z<|lmB Z ?_
 refine AL.bool (t:=9) rfl ?_ ?_
 ·intro h1
  refine lno Z<|lno Z<|lno Z<|lno Z<|lkT Z<|nG<|aY Z<|sL<|laZ Z<|nG<|aR<|rT ?_
  refine eBo trivial ?_
  rcases hq:eventOk e with _|_
  ·rfl
  ·have:=evAmt hq;simp_all
 ·intro h1
  refine lf 5 ty.F40_5 Z<|loI ty.kd3 Z<|lst (zL Try.func94 (amtOk_e _) Z) Z<|luB Z<|lkB Z<|nG ?_
  refine AW.cond rfl ?_ ?_
  ·intro h2
   refine sL<|laZ Z<|nG<|aR<|rT ?_
   refine eBo trivial ?_
   rcases hq:eventOk e with _|_
   ·rfl
   ·have:=evAmt hq;simp_all
  ·intro h2
   refine aK<|gA<|lf 0 ty.F40_0 Z<|loI ty.kd3 Z<|lq (rd (x:=.agg [vI _ _,vI _ _,vI _ _,vI _ _,vI _ _,vI _ _,vB false]) (rd_build Z ty.sa40 Z Z Z) Z)<|lst (zA 2003 ty.ze40 Z) Z<|lT [1,2,3,17] [2001,2003] ?_
   refine lst (zB 2003 ty.co40 ty.inf40 Z) Z<|nA<|laT Z<|nG<|aS<|sL<|lf 0 ty.F40_0 Z<|loI ty.kd3 Z<|nG<|aB<|sL<|lbB Z<|laB Z<|nG ?_
   refine AW.cond rfl ?_ ?_
   ·intro h3
    refine sL<|lf 4 ty.F40_4 Z<|loI ty.kd3 Z<|lf 4 ty.F40_4 Z<|lst (zB 2003 ty.co3 ty.inf3 Z) Z<|nG<|aL<|lf 4 ty.F40_4 Z<|loI ty.kd3 Z<|lbB Z<|laB Z<|lN<|gB<|gA<|lmB Z<|lmB Z ?_
    refine AL.bool (t:=175) rfl ?_ ?_
    ·intro h4
     refine loX (.agg [vI _ _,vI _ _,vI _ _,vI _ _,vI _ _,vI _ _,vB _]) ty.kd40 Z<|loX (.agg [vI _ _,vI _ _,vI _ _,vI _ _,vI _ _,vI _ _,vB false]) ty.kd40 Z<|lq (rd (x:=vB _) (rd_eqS rfl (.inl rfl) rfl rfl ty.sf40 ty.su40 ty.sh40 ty.sg40 ?hn1) rfl) ?_
     case hn1=>exact⟨rfl,by decide,rfl,⟨_,Try.underlying3⟩,rfl,by decide,rfl,⟨_,Try.underlying3⟩,rfl,by decide,rfl,⟨_,Try.underlying3⟩,rfl,by decide,rfl,⟨_,Try.underlying3⟩,rfl,by decide,rfl,⟨_,Try.underlying3⟩,rfl,by decide,rfl,⟨_,Try.underlying3⟩,by decide,rfl,Try.underlying4,trivial⟩
     refine lkB Z<|laB Z<|nG<|aR ?_
     refine eBo trivial ?_
     have hkd:e.kind=1:=by simpa using h3
     have ha1:amtOk e.amt=true:=by simpa using h1
     have ha2:amtOk e.fee=true:=by simpa using h2
     clear h1 h2 h3
     unfold eventOk
     rw[hkd]
     rcases hy:e.yes with _|_<;>refine Bool.eq_iff_iff.2 ?_<;>simp[fieldB,hK,hC,hT,hA,hF,hY,inB,eqVals,amtOk,keyOk,chOk]at * <;> omega
    ·intro h4
     refine lno Z<|lno Z<|lno Z<|lkZ Z<|laZ Z<|nG<|aR ?_
     refine eBo trivial ?_
     have hkd:e.kind=1:=by simpa using h3
     have ha1:amtOk e.amt=true:=by simpa using h1
     have ha2:amtOk e.fee=true:=by simpa using h2
     clear h1 h2 h3
     unfold eventOk
     rw[hkd]
     rcases hy:e.yes with _|_<;>refine Bool.eq_iff_iff.2 ?_<;>simp[fieldB,hK,hC,hT,hA,hF,hY,inB,eqVals,amtOk,keyOk,chOk]at * <;> omega
   ·intro h3
    refine sL<|lbB Z<|laB Z<|nG ?_
    refine AW.cond rfl ?_ ?_
    ·intro h5
     refine aS<|aG 11 [2003]<|tq 0 (rf 2 ty.F40_2 Z)<|tq 1 (roI ty.kd3 Z)<|tq 2 (rf 4 ty.F40_4 Z)<|tq 3 (roI ty.kd3 Z)<|tq 4 (rf 5 ty.F40_5 Z)<|gX [1,2,3,4,31,33,34] [2001,2003] ?_
     refine tq 5 (roI ty.kd3 Z)<|yq 6 (rf 2 ty.F40_2 Z)<|yst 7 Z (zB 2003 ty.co3 ty.inf3 Z)<|yq 8 (rf 4 ty.F40_4 Z)<|yst 9 Z (zB 2003 ty.co3 ty.inf3 Z)<|yq 10 (rf 5 ty.F40_5 Z)<|yl Z (zB 2003 ty.co3 ty.inf3 Z)<|gT<|aL<|lf 2 ty.F40_2 Z<|loI ty.kd3 Z<|lst (zL Try.func95 (isChan_e _) Z) Z<|lmB Z ?_
     refine AL.bool (t:=42) rfl ?_ ?_
     ·intro h6
      refine lf 4 ty.F40_4 Z<|loI ty.kd3 Z<|lbB Z<|lkB Z<|laB Z<|lN<|gB<|gA<|lmB Z<|lmB Z ?_
      refine AL.bool (t:=175) rfl ?_ ?_
      ·intro h7
       refine loX (.agg [vI _ _,vI _ _,vI _ _,vI _ _,vI _ _,vI _ _,vB _]) ty.kd40 Z<|loX (.agg [vI _ _,vI _ _,vI _ _,vI _ _,vI _ _,vI _ _,vB false]) ty.kd40 Z<|lq (rd (x:=vB _) (rd_eqS rfl (.inl rfl) rfl rfl ty.sf40 ty.su40 ty.sh40 ty.sg40 ?hn2) rfl) ?_
       case hn2=>exact⟨rfl,by decide,rfl,⟨_,Try.underlying3⟩,rfl,by decide,rfl,⟨_,Try.underlying3⟩,rfl,by decide,rfl,⟨_,Try.underlying3⟩,rfl,by decide,rfl,⟨_,Try.underlying3⟩,rfl,by decide,rfl,⟨_,Try.underlying3⟩,rfl,by decide,rfl,⟨_,Try.underlying3⟩,by decide,rfl,Try.underlying4,trivial⟩
       refine lkB Z<|laB Z<|nG<|aR ?_
       refine eBo trivial ?_
       have hkd:e.kind=2:=by simpa using h5
       have ha1:amtOk e.amt=true:=by simpa using h1
       have ha2:amtOk e.fee=true:=by simpa using h2
       clear h1 h2 h3 h5
       unfold eventOk
       rw[hkd]
       rcases hy:e.yes with _|_<;>refine Bool.eq_iff_iff.2 ?_<;>simp[fieldB,hK,hC,hT,hA,hF,hY,inB,eqVals,amtOk,keyOk,chOk]at * <;> omega
      ·intro h7
       refine lno Z<|lno Z<|lno Z<|lkZ Z<|laZ Z<|nG<|aR ?_
       refine eBo trivial ?_
       have hkd:e.kind=2:=by simpa using h5
       have ha1:amtOk e.amt=true:=by simpa using h1
       have ha2:amtOk e.fee=true:=by simpa using h2
       clear h1 h2 h3 h5
       unfold eventOk
       rw[hkd]
       rcases hy:e.yes with _|_<;>refine Bool.eq_iff_iff.2 ?_<;>simp[fieldB,hK,hC,hT,hA,hF,hY,inB,eqVals,amtOk,keyOk,chOk]at * <;> omega
     ·intro h6
      refine lno Z<|lno Z<|lno Z<|lkZ Z<|laZ Z<|lN<|gB<|gA<|lmZ Z<|lmZ Z<|lno Z<|lno Z<|lno Z<|lkZ Z<|lT [2,179] [2001,2003] ?_
      refine laZ Z<|nG<|aR ?_
      refine eBo trivial ?_
      have hkd:e.kind=2:=by simpa using h5
      have ha1:amtOk e.amt=true:=by simpa using h1
      have ha2:amtOk e.fee=true:=by simpa using h2
      clear h1 h2 h3 h5
      unfold eventOk
      rw[hkd]
      rcases hy:e.yes with _|_<;>refine Bool.eq_iff_iff.2 ?_<;>simp[fieldB,hK,hC,hT,hA,hF,hY,inB,eqVals,amtOk,keyOk,chOk]at * <;> omega
    ·intro h5
     refine sL<|lbB Z<|laB Z<|nG ?_
     refine AW.cond rfl ?_ ?_
     ·intro h8
      refine aS<|aG 7 [2003]<|tq 0 (rf 2 ty.F40_2 Z)<|tq 1 (roI ty.kd3 Z)<|tq 2 (rf 5 ty.F40_5 Z)<|tq 3 (roI ty.kd3 Z)<|yq 4 (rf 2 ty.F40_2 Z)<|yst 5 Z (zB 2003 ty.co3 ty.inf3 Z)<|yq 6 (rf 5 ty.F40_5 Z)<|yl Z (zB 2003 ty.co3 ty.inf3 Z)<|gT<|aL<|lf 2 ty.F40_2 Z<|loI ty.kd3 Z<|lst (zL Try.func95 (isChan_e _) Z) Z<|lT [1,2,3,4,57] [2001,2003] ?_
      refine laB Z<|lN<|gB<|gA<|lmB Z<|lmB Z ?_
      refine AL.bool (t:=175) rfl ?_ ?_
      ·intro h9
       refine loX (.agg [vI _ _,vI _ _,vI _ _,vI _ _,vI _ _,vI _ _,vB _]) ty.kd40 Z<|loX (.agg [vI _ _,vI _ _,vI _ _,vI _ _,vI _ _,vI _ _,vB false]) ty.kd40 Z<|lq (rd (x:=vB _) (rd_eqS rfl (.inl rfl) rfl rfl ty.sf40 ty.su40 ty.sh40 ty.sg40 ?hn3) rfl) ?_
       case hn3=>exact⟨rfl,by decide,rfl,⟨_,Try.underlying3⟩,rfl,by decide,rfl,⟨_,Try.underlying3⟩,rfl,by decide,rfl,⟨_,Try.underlying3⟩,rfl,by decide,rfl,⟨_,Try.underlying3⟩,rfl,by decide,rfl,⟨_,Try.underlying3⟩,rfl,by decide,rfl,⟨_,Try.underlying3⟩,by decide,rfl,Try.underlying4,trivial⟩
       refine lkB Z<|laB Z<|nG<|aR ?_
       refine eBo trivial ?_
       have hkd:e.kind=3:=by simpa using h8
       have ha1:amtOk e.amt=true:=by simpa using h1
       have ha2:amtOk e.fee=true:=by simpa using h2
       clear h1 h2 h3 h5 h8
       unfold eventOk
       rw[hkd]
       rcases hy:e.yes with _|_<;>refine Bool.eq_iff_iff.2 ?_<;>simp[fieldB,hK,hC,hT,hA,hF,hY,inB,eqVals,amtOk,keyOk,chOk]at * <;> omega
      ·intro h9
       refine lno Z<|lno Z<|lno Z<|lkZ Z<|laZ Z<|nG<|aR ?_
       refine eBo trivial ?_
       have hkd:e.kind=3:=by simpa using h8
       have ha1:amtOk e.amt=true:=by simpa using h1
       have ha2:amtOk e.fee=true:=by simpa using h2
       clear h1 h2 h3 h5 h8
       unfold eventOk
       rw[hkd]
       rcases hy:e.yes with _|_<;>refine Bool.eq_iff_iff.2 ?_<;>simp[fieldB,hK,hC,hT,hA,hF,hY,inB,eqVals,amtOk,keyOk,chOk]at * <;> omega
     ·intro h8
      refine sL<|lbB Z<|laB Z<|nG ?_
      refine AW.cond rfl ?_ ?_
      ·intro h10
       refine aS<|aG 11 [2003]<|tq 0 (rf 2 ty.F40_2 Z)<|tq 1 (roI ty.kd3 Z)<|tq 2 (rf 4 ty.F40_4 Z)<|tq 3 (roI ty.kd3 Z)<|tq 4 (rf 5 ty.F40_5 Z)<|tq 5 (roI ty.kd3 Z)<|yq 6 (rf 2 ty.F40_2 Z)<|yst 7 Z (zB 2003 ty.co3 ty.inf3 Z)<|gX [1,2,3,4,63,65] [2001,2003] ?_
       refine yq 8 (rf 4 ty.F40_4 Z)<|yst 9 Z (zB 2003 ty.co3 ty.inf3 Z)<|yq 10 (rf 5 ty.F40_5 Z)<|yl Z (zB 2003 ty.co3 ty.inf3 Z)<|gT<|aL<|lf 2 ty.F40_2 Z<|loI ty.kd3 Z<|lst (zL Try.func95 (isChan_e _) Z) Z<|lmB Z ?_
       refine AL.bool (t:=72) rfl ?_ ?_
       ·intro h11
        refine lf 5 ty.F40_5 Z<|loI ty.kd3 Z<|lbB Z<|lkB Z<|laB Z<|lN<|gB<|gA<|lmB Z<|lmB Z ?_
        refine AL.bool (t:=175) rfl ?_ ?_
        ·intro h12
         refine loX (.agg [vI _ _,vI _ _,vI _ _,vI _ _,vI _ _,vI _ _,vB _]) ty.kd40 Z<|loX (.agg [vI _ _,vI _ _,vI _ _,vI _ _,vI _ _,vI _ _,vB false]) ty.kd40 Z<|lq (rd (x:=vB _) (rd_eqS rfl (.inl rfl) rfl rfl ty.sf40 ty.su40 ty.sh40 ty.sg40 ?hn4) rfl) ?_
         case hn4=>exact⟨rfl,by decide,rfl,⟨_,Try.underlying3⟩,rfl,by decide,rfl,⟨_,Try.underlying3⟩,rfl,by decide,rfl,⟨_,Try.underlying3⟩,rfl,by decide,rfl,⟨_,Try.underlying3⟩,rfl,by decide,rfl,⟨_,Try.underlying3⟩,rfl,by decide,rfl,⟨_,Try.underlying3⟩,by decide,rfl,Try.underlying4,trivial⟩
         refine lkB Z<|laB Z<|nG<|aR ?_
         refine eBo trivial ?_
         have hkd:e.kind=4:=by simpa using h10
         have ha1:amtOk e.amt=true:=by simpa using h1
         have ha2:amtOk e.fee=true:=by simpa using h2
         clear h1 h2 h3 h5 h8 h10
         unfold eventOk
         rw[hkd]
         rcases hy:e.yes with _|_<;>refine Bool.eq_iff_iff.2 ?_<;>simp[fieldB,hK,hC,hT,hA,hF,hY,inB,eqVals,amtOk,keyOk,chOk]at * <;> omega
        ·intro h12
         refine lno Z<|lno Z<|lno Z<|lkZ Z<|laZ Z<|nG<|aR ?_
         refine eBo trivial ?_
         have hkd:e.kind=4:=by simpa using h10
         have ha1:amtOk e.amt=true:=by simpa using h1
         have ha2:amtOk e.fee=true:=by simpa using h2
         clear h1 h2 h3 h5 h8 h10
         unfold eventOk
         rw[hkd]
         rcases hy:e.yes with _|_<;>refine Bool.eq_iff_iff.2 ?_<;>simp[fieldB,hK,hC,hT,hA,hF,hY,inB,eqVals,amtOk,keyOk,chOk]at * <;> omega
       ·intro h11
        refine lno Z<|lno Z<|lno Z<|lkZ Z<|laZ Z<|lN<|gB<|gA<|lmZ Z<|lmZ Z<|lno Z<|lno Z<|lno Z<|lkZ Z<|laZ Z<|nG<|aR ?_
        refine eBo trivial ?_
        have hkd:e.kind=4:=by simpa using h10
        have ha1:amtOk e.amt=true:=by simpa using h1
        have ha2:amtOk e.fee=true:=by simpa using h2
        clear h1 h2 h3 h5 h8 h10
        unfold eventOk
        rw[hkd]
        rcases hy:e.yes with _|_<;>refine Bool.eq_iff_iff.2 ?_<;>simp[fieldB,hK,hC,hT,hA,hF,hY,inB,eqVals,amtOk,keyOk,chOk]at * <;> omega
      ·intro h10
       refine sL<|lbB Z<|laB Z<|lT [1,2,3,4,19,77] [2001,2003] ?_
       refine nG ?_
       refine AW.cond rfl ?_ ?_
       ·intro h13
        refine aS<|aG 19 [2003]<|tq 0 (rf 1 ty.F40_1 Z)<|tq 1 (roI ty.kd3 Z)<|tq 2 (rf 2 ty.F40_2 Z)<|tq 3 (roI ty.kd3 Z)<|tq 4 (rf 3 ty.F40_3 Z)<|tq 5 (roI ty.kd3 Z)<|tq 6 (rf 4 ty.F40_4 Z)<|tq 7 (roI ty.kd3 Z)<|tq 8 (rf 6 ty.F40_6 Z)<|tq 9 (roB ty.kd4 Z)<|yq 10 (rf 1 ty.F40_1 Z)<|yst 11 Z (zB 2003 ty.co3 ty.inf3 Z)<|yq 12 (rf 2 ty.F40_2 Z)<|yst 13 Z (zB 2003 ty.co3 ty.inf3 Z)<|gX [1,2,3,4,84,86,88] [2001,2003] ?_
        refine yq 14 (rf 3 ty.F40_3 Z)<|yst 15 Z (zB 2003 ty.co3 ty.inf3 Z)<|yq 16 (rf 4 ty.F40_4 Z)<|yst 17 Z (zB 2003 ty.co3 ty.inf3 Z)<|yq 18 (rf 6 ty.F40_6 Z)<|yl Z (zB 2003 ty.co4 ty.inf4 Z)<|gT<|aL<|lf 1 ty.F40_1 Z<|loI ty.kd3 Z<|lst (zL Try.func96 (isKey_e _) Z) Z<|lmB Z ?_
        refine AL.bool (t:=97) rfl ?_ ?_
        ·intro h14
         refine lf 2 ty.F40_2 Z<|loI ty.kd3 Z<|lst (zL Try.func95 (isChan_e _) Z) Z<|lkB Z<|lmB Z ?_
         refine AL.bool (t:=102) rfl ?_ ?_
         ·intro h15
          refine lf 3 ty.F40_3 Z<|loI ty.kd3 Z<|lst (zL Try.func95 (isChan_e _) Z) Z<|lT [1,2,3,4,102,105] [2001,2003] ?_
          refine lkB Z<|lmB Z ?_
          refine AL.bool (t:=107) rfl ?_ ?_
          ·intro h16
           refine lf 2 ty.F40_2 Z<|loI ty.kd3 Z<|lf 3 ty.F40_3 Z<|loI ty.kd3 Z<|lbB Z<|lkB Z<|lmB Z ?_
           refine AL.bool (t:=114) rfl ?_ ?_
           ·intro h17
            refine lf 4 ty.F40_4 Z<|loI ty.kd3 Z<|lbB Z<|lkB Z<|laB Z<|lN<|gB<|gA<|lmB Z<|lmB Z ?_
            refine AL.bool (t:=175) rfl ?_ ?_
            ·intro h18
             refine loX (.agg [vI _ _,vI _ _,vI _ _,vI _ _,vI _ _,vI _ _,vB _]) ty.kd40 Z<|loX (.agg [vI _ _,vI _ _,vI _ _,vI _ _,vI _ _,vI _ _,vB _]) ty.kd40 Z<|lq (rd (x:=vB _) (rd_eqS rfl (.inl rfl) rfl rfl ty.sf40 ty.su40 ty.sh40 ty.sg40 ?hn5) rfl) ?_
             case hn5=>exact⟨rfl,by decide,rfl,⟨_,Try.underlying3⟩,rfl,by decide,rfl,⟨_,Try.underlying3⟩,rfl,by decide,rfl,⟨_,Try.underlying3⟩,rfl,by decide,rfl,⟨_,Try.underlying3⟩,rfl,by decide,rfl,⟨_,Try.underlying3⟩,rfl,by decide,rfl,⟨_,Try.underlying3⟩,by decide,rfl,Try.underlying4,trivial⟩
             refine lkB Z<|laB Z<|nG<|aR ?_
             refine eBo trivial ?_
             have hkd:e.kind=5:=by simpa using h13
             have ha1:amtOk e.amt=true:=by simpa using h1
             have ha2:amtOk e.fee=true:=by simpa using h2
             clear h1 h2 h3 h5 h8 h10 h13
             unfold eventOk
             rw[hkd]
             rcases hy:e.yes with _|_<;>refine Bool.eq_iff_iff.2 ?_<;>simp[fieldB,hK,hC,hT,hA,hF,hY,inB,eqVals,amtOk,keyOk,chOk]at * <;> omega
            ·intro h18
             refine lno Z<|lno Z<|lno Z<|lkZ Z<|laZ Z<|nG<|aR ?_
             refine eBo trivial ?_
             have hkd:e.kind=5:=by simpa using h13
             have ha1:amtOk e.amt=true:=by simpa using h1
             have ha2:amtOk e.fee=true:=by simpa using h2
             clear h1 h2 h3 h5 h8 h10 h13
             unfold eventOk
             rw[hkd]
             rcases hy:e.yes with _|_<;>refine Bool.eq_iff_iff.2 ?_<;>simp[fieldB,hK,hC,hT,hA,hF,hY,inB,eqVals,amtOk,keyOk,chOk]at * <;> omega
           ·intro h17
            refine lno Z<|lno Z<|lno Z<|lkZ Z<|laZ Z<|lN<|gB<|gA<|lmZ Z<|lmZ Z<|lno Z<|lno Z<|lno Z<|lkZ Z<|laZ Z<|nG<|aR ?_
            refine eBo trivial ?_
            have hkd:e.kind=5:=by simpa using h13
            have ha1:amtOk e.amt=true:=by simpa using h1
            have ha2:amtOk e.fee=true:=by simpa using h2
            clear h1 h2 h3 h5 h8 h10 h13
            unfold eventOk
            rw[hkd]
            rcases hy:e.yes with _|_<;>refine Bool.eq_iff_iff.2 ?_<;>simp[fieldB,hK,hC,hT,hA,hF,hY,inB,eqVals,amtOk,keyOk,chOk]at * <;> omega
          ·intro h16
           refine lno Z<|lno Z<|lno Z<|lno Z<|lno Z<|lkZ Z<|lT [1,2,3,4,113] [2001,2003] ?_
           refine lmZ Z<|lno Z<|lno Z<|lno Z<|lkZ Z<|laZ Z<|lN<|gB<|gA<|lmZ Z<|lmZ Z<|lno Z<|lno Z<|lno Z<|lkZ Z<|laZ Z<|nG<|aR ?_
           refine eBo trivial ?_
           have hkd:e.kind=5:=by simpa using h13
           have ha1:amtOk e.amt=true:=by simpa using h1
           have ha2:amtOk e.fee=true:=by simpa using h2
           clear h1 h2 h3 h5 h8 h10 h13
           unfold eventOk
           rw[hkd]
           rcases hy:e.yes with _|_<;>refine Bool.eq_iff_iff.2 ?_<;>simp[fieldB,hK,hC,hT,hA,hF,hY,inB,eqVals,amtOk,keyOk,chOk]at * <;> omega
         ·intro h15
          refine lno Z<|lno Z<|lno Z<|lkZ Z<|lmZ Z<|lno Z<|lno Z<|lno Z<|lno Z<|lno Z<|lkZ Z<|lmZ Z<|lno Z<|lno Z<|lno Z<|lkZ Z<|laZ Z<|lN<|gB<|gA<|lmZ Z<|lmZ Z<|lno Z<|lno Z<|lno Z<|lkZ Z<|laZ Z<|lN ?_
          refine gT<|aR ?_
          refine eBo trivial ?_
          have hkd:e.kind=5:=by simpa using h13
          have ha1:amtOk e.amt=true:=by simpa using h1
          have ha2:amtOk e.fee=true:=by simpa using h2
          clear h1 h2 h3 h5 h8 h10 h13
          unfold eventOk
          rw[hkd]
          rcases hy:e.yes with _|_<;>refine Bool.eq_iff_iff.2 ?_<;>simp[fieldB,hK,hC,hT,hA,hF,hY,inB,eqVals,amtOk,keyOk,chOk]at * <;> omega
        ·intro h14
         refine lno Z<|lno Z<|lno Z<|lkZ Z<|lmZ Z<|lno Z<|lno Z<|lno Z<|lkZ Z<|lmZ Z<|lno Z<|lno Z<|lno Z<|lno Z<|lno Z<|lkZ Z<|lmZ Z<|lno Z<|lno Z<|lno Z<|lkZ Z<|laZ Z<|lN<|gB<|gA<|lmZ Z<|lmZ Z<|lno Z ?_
         refine lno Z<|lno Z<|lkZ Z<|laZ Z<|nG<|aR ?_
         refine eBo trivial ?_
         have hkd:e.kind=5:=by simpa using h13
         have ha1:amtOk e.amt=true:=by simpa using h1
         have ha2:amtOk e.fee=true:=by simpa using h2
         clear h1 h2 h3 h5 h8 h10 h13
         unfold eventOk
         rw[hkd]
         rcases hy:e.yes with _|_<;>refine Bool.eq_iff_iff.2 ?_<;>simp[fieldB,hK,hC,hT,hA,hF,hY,inB,eqVals,amtOk,keyOk,chOk]at * <;> omega
       ·intro h13
        refine sL<|lbB Z<|lT [1,2,3,4,19,120] [2001,2003] ?_
        refine laB Z<|nG ?_
        refine AW.cond rfl ?_ ?_
        ·intro h19
         refine aS<|aG 19 [2003]<|tq 0 (rf 1 ty.F40_1 Z)<|tq 1 (roI ty.kd3 Z)<|tq 2 (rf 2 ty.F40_2 Z)<|tq 3 (roI ty.kd3 Z)<|tq 4 (rf 3 ty.F40_3 Z)<|tq 5 (roI ty.kd3 Z)<|tq 6 (rf 4 ty.F40_4 Z)<|tq 7 (roI ty.kd3 Z)<|tq 8 (rf 5 ty.F40_5 Z)<|tq 9 (roI ty.kd3 Z)<|yq 10 (rf 1 ty.F40_1 Z)<|yst 11 Z (zB 2003 ty.co3 ty.inf3 Z)<|yq 12 (rf 2 ty.F40_2 Z)<|yst 13 Z (zB 2003 ty.co3 ty.inf3 Z)<|gX [1,2,3,4,126,128,130] [2001,2003] ?_
         refine yq 14 (rf 3 ty.F40_3 Z)<|yst 15 Z (zB 2003 ty.co3 ty.inf3 Z)<|yq 16 (rf 4 ty.F40_4 Z)<|yst 17 Z (zB 2003 ty.co3 ty.inf3 Z)<|yq 18 (rf 5 ty.F40_5 Z)<|yl Z (zB 2003 ty.co3 ty.inf3 Z)<|gT<|aL<|lf 1 ty.F40_1 Z<|loI ty.kd3 Z<|lst (zL Try.func96 (isKey_e _) Z) Z<|lmB Z ?_
         refine AL.bool (t:=139) rfl ?_ ?_
         ·intro h20
          refine lf 2 ty.F40_2 Z<|loI ty.kd3 Z<|lst (zL Try.func95 (isChan_e _) Z) Z<|lkB Z<|lmB Z ?_
          refine AL.bool (t:=144) rfl ?_ ?_
          ·intro h21
           refine lf 3 ty.F40_3 Z<|loI ty.kd3 Z<|lst (zL Try.func95 (isChan_e _) Z) Z<|lT [1,2,3,4,144,147] [2001,2003] ?_
           refine lkB Z<|lmB Z ?_
           refine AL.bool (t:=149) rfl ?_ ?_
           ·intro h22
            refine lf 2 ty.F40_2 Z<|loI ty.kd3 Z<|lf 3 ty.F40_3 Z<|loI ty.kd3 Z<|lbB Z<|lkB Z<|lmB Z ?_
            refine AL.bool (t:=156) rfl ?_ ?_
            ·intro h23
             refine lf 4 ty.F40_4 Z<|loI ty.kd3 Z<|lbB Z<|lkB Z<|laB Z<|lN<|gB<|gA<|lmB Z<|lmB Z ?_
             refine AL.bool (t:=175) rfl ?_ ?_
             ·intro h24
              refine loX (.agg [vI _ _,vI _ _,vI _ _,vI _ _,vI _ _,vI _ _,vB _]) ty.kd40 Z<|loX (.agg [vI _ _,vI _ _,vI _ _,vI _ _,vI _ _,vI _ _,vB false]) ty.kd40 Z<|lq (rd (x:=vB _) (rd_eqS rfl (.inl rfl) rfl rfl ty.sf40 ty.su40 ty.sh40 ty.sg40 ?hn6) rfl) ?_
              case hn6=>exact⟨rfl,by decide,rfl,⟨_,Try.underlying3⟩,rfl,by decide,rfl,⟨_,Try.underlying3⟩,rfl,by decide,rfl,⟨_,Try.underlying3⟩,rfl,by decide,rfl,⟨_,Try.underlying3⟩,rfl,by decide,rfl,⟨_,Try.underlying3⟩,rfl,by decide,rfl,⟨_,Try.underlying3⟩,by decide,rfl,Try.underlying4,trivial⟩
              refine lkB Z<|laB Z<|nG<|aR ?_
              refine eBo trivial ?_
              have hkd:e.kind=9:=by simpa using h19
              have ha1:amtOk e.amt=true:=by simpa using h1
              have ha2:amtOk e.fee=true:=by simpa using h2
              clear h1 h2 h3 h5 h8 h10 h13 h19
              unfold eventOk
              rw[hkd]
              rcases hy:e.yes with _|_<;>refine Bool.eq_iff_iff.2 ?_<;>simp[fieldB,hK,hC,hT,hA,hF,hY,inB,eqVals,amtOk,keyOk,chOk]at * <;> omega
             ·intro h24
              refine lno Z<|lno Z<|lno Z<|lkZ Z<|laZ Z<|nG<|aR ?_
              refine eBo trivial ?_
              have hkd:e.kind=9:=by simpa using h19
              have ha1:amtOk e.amt=true:=by simpa using h1
              have ha2:amtOk e.fee=true:=by simpa using h2
              clear h1 h2 h3 h5 h8 h10 h13 h19
              unfold eventOk
              rw[hkd]
              rcases hy:e.yes with _|_<;>refine Bool.eq_iff_iff.2 ?_<;>simp[fieldB,hK,hC,hT,hA,hF,hY,inB,eqVals,amtOk,keyOk,chOk]at * <;> omega
            ·intro h23
             refine lno Z<|lno Z<|lno Z<|lkZ Z<|laZ Z<|lN<|gB<|gA<|lmZ Z<|lmZ Z<|lno Z<|lno Z<|lno Z<|lkZ Z<|laZ Z<|nG<|aR ?_
             refine eBo trivial ?_
             have hkd:e.kind=9:=by simpa using h19
             have ha1:amtOk e.amt=true:=by simpa using h1
             have ha2:amtOk e.fee=true:=by simpa using h2
             clear h1 h2 h3 h5 h8 h10 h13 h19
             unfold eventOk
             rw[hkd]
             rcases hy:e.yes with _|_<;>refine Bool.eq_iff_iff.2 ?_<;>simp[fieldB,hK,hC,hT,hA,hF,hY,inB,eqVals,amtOk,keyOk,chOk]at * <;> omega
           ·intro h22
            refine lno Z<|lno Z<|lno Z<|lno Z<|lno Z<|lkZ Z<|lT [1,2,3,4,155] [2001,2003] ?_
            refine lmZ Z<|lno Z<|lno Z<|lno Z<|lkZ Z<|laZ Z<|lN<|gB<|gA<|lmZ Z<|lmZ Z<|lno Z<|lno Z<|lno Z<|lkZ Z<|laZ Z<|nG<|aR ?_
            refine eBo trivial ?_
            have hkd:e.kind=9:=by simpa using h19
            have ha1:amtOk e.amt=true:=by simpa using h1
            have ha2:amtOk e.fee=true:=by simpa using h2
            clear h1 h2 h3 h5 h8 h10 h13 h19
            unfold eventOk
            rw[hkd]
            rcases hy:e.yes with _|_<;>refine Bool.eq_iff_iff.2 ?_<;>simp[fieldB,hK,hC,hT,hA,hF,hY,inB,eqVals,amtOk,keyOk,chOk]at * <;> omega
          ·intro h21
           refine lno Z<|lno Z<|lno Z<|lkZ Z<|lmZ Z<|lno Z<|lno Z<|lno Z<|lno Z<|lno Z<|lkZ Z<|lmZ Z<|lno Z<|lno Z<|lno Z<|lkZ Z<|laZ Z<|lN<|gB<|gA<|lmZ Z<|lmZ Z<|lno Z<|lno Z<|lno Z<|lkZ Z<|laZ Z<|lN ?_
           refine gT<|aR ?_
           refine eBo trivial ?_
           have hkd:e.kind=9:=by simpa using h19
           have ha1:amtOk e.amt=true:=by simpa using h1
           have ha2:amtOk e.fee=true:=by simpa using h2
           clear h1 h2 h3 h5 h8 h10 h13 h19
           unfold eventOk
           rw[hkd]
           rcases hy:e.yes with _|_<;>refine Bool.eq_iff_iff.2 ?_<;>simp[fieldB,hK,hC,hT,hA,hF,hY,inB,eqVals,amtOk,keyOk,chOk]at * <;> omega
         ·intro h20
          refine lno Z<|lno Z<|lno Z<|lkZ Z<|lmZ Z<|lno Z<|lno Z<|lno Z<|lkZ Z<|lmZ Z<|lno Z<|lno Z<|lno Z<|lno Z<|lno Z<|lkZ Z<|lmZ Z<|lno Z<|lno Z<|lno Z<|lkZ Z<|laZ Z<|lN<|gB<|gA<|lmZ Z<|lmZ Z<|lno Z ?_
          refine lno Z<|lno Z<|lkZ Z<|laZ Z<|nG<|aR ?_
          refine eBo trivial ?_
          have hkd:e.kind=9:=by simpa using h19
          have ha1:amtOk e.amt=true:=by simpa using h1
          have ha2:amtOk e.fee=true:=by simpa using h2
          clear h1 h2 h3 h5 h8 h10 h13 h19
          unfold eventOk
          rw[hkd]
          rcases hy:e.yes with _|_<;>refine Bool.eq_iff_iff.2 ?_<;>simp[fieldB,hK,hC,hT,hA,hF,hY,inB,eqVals,amtOk,keyOk,chOk]at * <;> omega
        ·intro h19
         refine aS<|sL<|lbB Z<|lT [1,2,3,4,19,162] [2001,2003] ?_
         refine laB Z<|nG ?_
         refine AW.cond rfl ?_ ?_
         ·intro h25
          refine asB 161 true Z h25<|aK<|gT<|aY Z<|sL<|lf 1 ty.F40_1 Z<|loI ty.kd3 Z<|lf 1 ty.F40_1 Z<|lst (zB 2003 ty.co3 ty.inf3 Z) Z<|nG<|aL<|lf 1 ty.F40_1 Z<|loI ty.kd3 Z<|lst (zL Try.func96 (isKey_e _) Z) Z<|laB Z<|lN<|gB<|gA<|lmB Z<|lmB Z ?_
          refine AL.bool (t:=175) rfl ?_ ?_
          ·intro h26
           refine loX (.agg [vI _ _,vI _ _,vI _ _,vI _ _,vI _ _,vI _ _,vB _]) ty.kd40 Z<|loX (.agg [vI _ _,vI _ _,vI _ _,vI _ _,vI _ _,vI _ _,vB false]) ty.kd40 Z<|lq (rd (x:=vB _) (rd_eqS rfl (.inl rfl) rfl rfl ty.sf40 ty.su40 ty.sh40 ty.sg40 ?hn7) rfl) ?_
           case hn7=>exact⟨rfl,by decide,rfl,⟨_,Try.underlying3⟩,rfl,by decide,rfl,⟨_,Try.underlying3⟩,rfl,by decide,rfl,⟨_,Try.underlying3⟩,rfl,by decide,rfl,⟨_,Try.underlying3⟩,rfl,by decide,rfl,⟨_,Try.underlying3⟩,rfl,by decide,rfl,⟨_,Try.underlying3⟩,by decide,rfl,Try.underlying4,trivial⟩
           refine lkB Z<|laB Z<|nG<|aR ?_
           refine eBo trivial ?_
           have hkd:e.kind=6:=by simpa using h25
           have ha1:amtOk e.amt=true:=by simpa using h1
           have ha2:amtOk e.fee=true:=by simpa using h2
           clear h1 h2 h3 h5 h8 h10 h13 h19 h25
           unfold eventOk
           rw[hkd]
           rcases hy:e.yes with _|_<;>refine Bool.eq_iff_iff.2 ?_<;>simp[fieldB,hK,hC,hT,hA,hF,hY,inB,eqVals,amtOk,keyOk,chOk]at * <;> omega
          ·intro h26
           refine lno Z<|lno Z<|lno Z<|lkZ Z<|laZ Z<|nG<|aR ?_
           refine eBo trivial ?_
           have hkd:e.kind=6:=by simpa using h25
           have ha1:amtOk e.amt=true:=by simpa using h1
           have ha2:amtOk e.fee=true:=by simpa using h2
           clear h1 h2 h3 h5 h8 h10 h13 h19 h25
           unfold eventOk
           rw[hkd]
           rcases hy:e.yes with _|_<;>refine Bool.eq_iff_iff.2 ?_<;>simp[fieldB,hK,hC,hT,hA,hF,hY,inB,eqVals,amtOk,keyOk,chOk]at * <;> omega
         ·intro h25
          refine asB 161 false Z h25<|sL<|lbB Z<|laB Z<|nG ?_
          refine AW.cond rfl ?_ ?_
          ·intro h27
           refine asB 161 true Z h27<|aK<|gT<|aY Z<|sL<|lf 1 ty.F40_1 Z<|loI ty.kd3 Z<|lf 1 ty.F40_1 Z<|lst (zB 2003 ty.co3 ty.inf3 Z) Z<|lT [1,2,3,4] [2001,2003] ?_
           refine nG<|aL<|lf 1 ty.F40_1 Z<|loI ty.kd3 Z<|lst (zL Try.func96 (isKey_e _) Z) Z<|laB Z<|lN<|gB<|gA<|lmB Z<|lmB Z ?_
           refine AL.bool (t:=175) rfl ?_ ?_
           ·intro h28
            refine loX (.agg [vI _ _,vI _ _,vI _ _,vI _ _,vI _ _,vI _ _,vB _]) ty.kd40 Z<|loX (.agg [vI _ _,vI _ _,vI _ _,vI _ _,vI _ _,vI _ _,vB false]) ty.kd40 Z<|lq (rd (x:=vB _) (rd_eqS rfl (.inl rfl) rfl rfl ty.sf40 ty.su40 ty.sh40 ty.sg40 ?hn8) rfl) ?_
            case hn8=>exact⟨rfl,by decide,rfl,⟨_,Try.underlying3⟩,rfl,by decide,rfl,⟨_,Try.underlying3⟩,rfl,by decide,rfl,⟨_,Try.underlying3⟩,rfl,by decide,rfl,⟨_,Try.underlying3⟩,rfl,by decide,rfl,⟨_,Try.underlying3⟩,rfl,by decide,rfl,⟨_,Try.underlying3⟩,by decide,rfl,Try.underlying4,trivial⟩
            refine lkB Z<|laB Z<|nG<|aR ?_
            refine eBo trivial ?_
            have hkd:e.kind=7:=by simpa using h27
            have ha1:amtOk e.amt=true:=by simpa using h1
            have ha2:amtOk e.fee=true:=by simpa using h2
            clear h1 h2 h3 h5 h8 h10 h13 h19 h25 h27
            unfold eventOk
            rw[hkd]
            rcases hy:e.yes with _|_<;>refine Bool.eq_iff_iff.2 ?_<;>simp[fieldB,hK,hC,hT,hA,hF,hY,inB,eqVals,amtOk,keyOk,chOk]at * <;> omega
           ·intro h28
            refine lno Z<|lno Z<|lno Z<|lkZ Z<|laZ Z<|nG<|aR ?_
            refine eBo trivial ?_
            have hkd:e.kind=7:=by simpa using h27
            have ha1:amtOk e.amt=true:=by simpa using h1
            have ha2:amtOk e.fee=true:=by simpa using h2
            clear h1 h2 h3 h5 h8 h10 h13 h19 h25 h27
            unfold eventOk
            rw[hkd]
            rcases hy:e.yes with _|_<;>refine Bool.eq_iff_iff.2 ?_<;>simp[fieldB,hK,hC,hT,hA,hF,hY,inB,eqVals,amtOk,keyOk,chOk]at * <;> omega
          ·intro h27
           refine asB 161 false Z h27<|sL<|lbB Z<|laB Z<|nG ?_
           refine AW.cond rfl ?_ ?_
           ·intro h29
            refine asB 161 true Z h29<|aK<|gT<|aY Z<|sL<|lf 1 ty.F40_1 Z<|loI ty.kd3 Z<|lf 1 ty.F40_1 Z<|lst (zB 2003 ty.co3 ty.inf3 Z) Z<|lT [1,2,3,4] [2001,2003] ?_
            refine nG<|aL<|lf 1 ty.F40_1 Z<|loI ty.kd3 Z<|lst (zL Try.func96 (isKey_e _) Z) Z<|laB Z<|lN<|gB<|gA<|lmB Z<|lmB Z ?_
            refine AL.bool (t:=175) rfl ?_ ?_
            ·intro h30
             refine loX (.agg [vI _ _,vI _ _,vI _ _,vI _ _,vI _ _,vI _ _,vB _]) ty.kd40 Z<|loX (.agg [vI _ _,vI _ _,vI _ _,vI _ _,vI _ _,vI _ _,vB false]) ty.kd40 Z<|lq (rd (x:=vB _) (rd_eqS rfl (.inl rfl) rfl rfl ty.sf40 ty.su40 ty.sh40 ty.sg40 ?hn9) rfl) ?_
             case hn9=>exact⟨rfl,by decide,rfl,⟨_,Try.underlying3⟩,rfl,by decide,rfl,⟨_,Try.underlying3⟩,rfl,by decide,rfl,⟨_,Try.underlying3⟩,rfl,by decide,rfl,⟨_,Try.underlying3⟩,rfl,by decide,rfl,⟨_,Try.underlying3⟩,rfl,by decide,rfl,⟨_,Try.underlying3⟩,by decide,rfl,Try.underlying4,trivial⟩
             refine lkB Z<|laB Z<|nG<|aR ?_
             refine eBo trivial ?_
             have hkd:e.kind=10:=by simpa using h29
             have ha1:amtOk e.amt=true:=by simpa using h1
             have ha2:amtOk e.fee=true:=by simpa using h2
             clear h1 h2 h3 h5 h8 h10 h13 h19 h25 h27 h29
             unfold eventOk
             rw[hkd]
             rcases hy:e.yes with _|_<;>refine Bool.eq_iff_iff.2 ?_<;>simp[fieldB,hK,hC,hT,hA,hF,hY,inB,eqVals,amtOk,keyOk,chOk]at * <;> omega
            ·intro h30
             refine lno Z<|lno Z<|lno Z<|lkZ Z<|laZ Z<|nG<|aR ?_
             refine eBo trivial ?_
             have hkd:e.kind=10:=by simpa using h29
             have ha1:amtOk e.amt=true:=by simpa using h1
             have ha2:amtOk e.fee=true:=by simpa using h2
             clear h1 h2 h3 h5 h8 h10 h13 h19 h25 h27 h29
             unfold eventOk
             rw[hkd]
             rcases hy:e.yes with _|_<;>refine Bool.eq_iff_iff.2 ?_<;>simp[fieldB,hK,hC,hT,hA,hF,hY,inB,eqVals,amtOk,keyOk,chOk]at * <;> omega
           ·intro h29
            refine asB 161 false Z h29<|aL<|lbB Z<|laB Z<|nG ?_
            refine AW.cond rfl ?_ ?_
            ·intro h31
             refine sL<|lf 1 ty.F40_1 Z<|loI ty.kd3 Z<|lf 1 ty.F40_1 Z<|lst (zB 2003 ty.co3 ty.inf3 Z) Z<|lT [1,2,3,4] [2001,2003] ?_
             refine nG<|aL<|lf 1 ty.F40_1 Z<|loI ty.kd3 Z<|lst (zL Try.func96 (isKey_e _) Z) Z<|laB Z<|lN<|gB<|gA<|lmB Z<|lmB Z ?_
             refine AL.bool (t:=175) rfl ?_ ?_
             ·intro h32
              refine loX (.agg [vI _ _,vI _ _,vI _ _,vI _ _,vI _ _,vI _ _,vB _]) ty.kd40 Z<|loX (.agg [vI _ _,vI _ _,vI _ _,vI _ _,vI _ _,vI _ _,vB false]) ty.kd40 Z<|lq (rd (x:=vB _) (rd_eqS rfl (.inl rfl) rfl rfl ty.sf40 ty.su40 ty.sh40 ty.sg40 ?hn10) rfl) ?_
              case hn10=>exact⟨rfl,by decide,rfl,⟨_,Try.underlying3⟩,rfl,by decide,rfl,⟨_,Try.underlying3⟩,rfl,by decide,rfl,⟨_,Try.underlying3⟩,rfl,by decide,rfl,⟨_,Try.underlying3⟩,rfl,by decide,rfl,⟨_,Try.underlying3⟩,rfl,by decide,rfl,⟨_,Try.underlying3⟩,by decide,rfl,Try.underlying4,trivial⟩
              refine lkB Z<|laB Z<|nG<|aR ?_
              refine eBo trivial ?_
              have hkd:e.kind=11:=by simpa using h31
              have ha1:amtOk e.amt=true:=by simpa using h1
              have ha2:amtOk e.fee=true:=by simpa using h2
              clear h1 h2 h3 h5 h8 h10 h13 h19 h25 h27 h29 h31
              unfold eventOk
              rw[hkd]
              rcases hy:e.yes with _|_<;>refine Bool.eq_iff_iff.2 ?_<;>simp[fieldB,hK,hC,hT,hA,hF,hY,inB,eqVals,amtOk,keyOk,chOk]at * <;> omega
             ·intro h32
              refine lno Z<|lno Z<|lno Z<|lkZ Z<|laZ Z<|nG<|aR ?_
              refine eBo trivial ?_
              have hkd:e.kind=11:=by simpa using h31
              have ha1:amtOk e.amt=true:=by simpa using h1
              have ha2:amtOk e.fee=true:=by simpa using h2
              clear h1 h2 h3 h5 h8 h10 h13 h19 h25 h27 h29 h31
              unfold eventOk
              rw[hkd]
              rcases hy:e.yes with _|_<;>refine Bool.eq_iff_iff.2 ?_<;>simp[fieldB,hK,hC,hT,hA,hF,hY,inB,eqVals,amtOk,keyOk,chOk]at * <;> omega
            ·intro h31
             refine sL<|lbB Z<|laB Z<|nG ?_
             refine AW.cond rfl ?_ ?_
             ·intro h33
              refine aK<|gB<|gA<|lmT Z<|lmT Z<|loX (.agg [vI _ _,vI _ _,vI _ _,vI _ _,vI _ _,vI _ _,vB _]) ty.kd40 Z<|loX (.agg [vI _ _,vI _ _,vI _ _,vI _ _,vI _ _,vI _ _,vB false]) ty.kd40 Z<|lq (rd (x:=vB _) (rd_eqS rfl (.inl rfl) rfl rfl ty.sf40 ty.su40 ty.sh40 ty.sg40 ?hn11) rfl) ?_
              case hn11=>exact⟨rfl,by decide,rfl,⟨_,Try.underlying3⟩,rfl,by decide,rfl,⟨_,Try.underlying3⟩,rfl,by decide,rfl,⟨_,Try.underlying3⟩,rfl,by decide,rfl,⟨_,Try.underlying3⟩,rfl,by decide,rfl,⟨_,Try.underlying3⟩,rfl,by decide,rfl,⟨_,Try.underlying3⟩,by decide,rfl,Try.underlying4,trivial⟩
              refine lkB Z<|laB Z<|nG<|aR ?_
              refine eBo trivial ?_
              have hkd:e.kind=8:=by simpa using h33
              have ha1:amtOk e.amt=true:=by simpa using h1
              have ha2:amtOk e.fee=true:=by simpa using h2
              clear h1 h2 h3 h5 h8 h10 h13 h19 h25 h27 h29 h31 h33
              unfold eventOk
              rw[hkd]
              rcases hy:e.yes with _|_<;>refine Bool.eq_iff_iff.2 ?_<;>simp[fieldB,hK,hC,hT,hA,hF,hY,inB,eqVals,amtOk,keyOk,chOk]at * <;> omega
             ·intro h33
              refine sL<|laZ Z<|nG<|aR<|rB<|rT ?_
              refine eBo trivial ?_
              refine(evNone ?_).symm
              have:True:=trivial
              simp only[decide_eq_false_iff_not]at *
              omega

theorem BytesOk.nil:BytesOk []:=fun b hb=>by cases hb
theorem BytesOk.app{l m:List Int}(h:BytesOk l)(g:BytesOk m):BytesOk (l++m):=fun b hb=>by
 rcases List.mem_append.1 hb with q|q
 ·exact h b q
 ·exact g b q
theorem BytesOk.cons{x:Int}{l:List Int}(h0:0≤x)(h1:x≤255)(h:BytesOk l):BytesOk (x::l):=fun b hb=>by
 rcases List.mem_cons.1 hb with rfl|q
 ·exact⟨h0,h1⟩
 ·exact h b q
theorem BytesOk.zero(n:Nat):BytesOk (List.replicate n 0):=fun b hb=>by rw[(List.mem_replicate.1 hb).2];omega
theorem BytesOk.take{l:List Int}(h:BytesOk l)(n:Nat):BytesOk (l.take n):=fun b hb=>h b (List.mem_of_mem_take hb)
theorem BytesOk.drop{l:List Int}(h:BytesOk l)(n:Nat):BytesOk (l.drop n):=fun b hb=>h b (List.mem_of_mem_drop hb)
-- ---------- sectors
def secOk(s:Sector):Bool:=inB s.seq 0 599&&inB s.epoch 1 16000000&&decide (s.body.length≤100)
def secB(s:Sector):List Int:=[74]++numB 3 s.seq++numB 3 s.epoch++[(s.body.length:Int)]++s.body++List.replicate (114-s.body.length) 0++numB 3 s.seq++numB 3 s.epoch
def secC(b:List Int):Sector:=⟨valB ((b.drop 1).take 3),valB ((b.drop 4).take 3),(b.drop 8).take (b.getD 7 0).toNat⟩
def secF(b:List Int):Bool:=decide (b.length=128)&&decide (b.getD 7 0≤100)&&(secOk (secC b)&&decide (secB (secC b)=b))
def secR(b:List Int):Sector:=if secF b then secC b else ⟨0,0,[]⟩
theorem secOk_iff{s:Sector}:secOk s=true↔(0≤s.seq∧s.seq≤599)∧(1≤s.epoch∧s.epoch≤16000000)∧s.body.length≤100:=by
 unfold secOk;simp[inB,and_assoc]
theorem secB_length{s:Sector}(h:s.body.length≤100):(secB s).length=128:=by
 unfold secB;simp only[List.length_append,List.length_cons,List.length_nil,numB_length,List.length_replicate];omega
theorem secB_ok{s:Sector}(h:BytesOk s.body)(hl:s.body.length≤100):BytesOk (secB s):=by
 unfold secB
 exact(((((((BytesOk.cons (by omega) (by omega) .nil).app (numB_ok _ _)).app (numB_ok _ _)).app (.cons (by omega) (by omega) .nil)).app h).app (.zero _)).app (numB_ok _ _)).app (numB_ok _ _)
theorem secR_yes{b:List Int}(h:secF b=true):secR b=secC b:=if_pos h
theorem secR_no{b:List Int}(h:secF b=false):secR b=⟨0,0,[]⟩:=if_neg (by simp[h])
theorem secF_iff{b:List Int}:secF b=true↔b.length=128∧b.getD 7 0≤100∧secOk (secC b)=true∧secB (secC b)=b:=by
 unfold secF;simp[and_assoc]
theorem secC_body{b:List Int}(h:BytesOk b):BytesOk (secC b).body:=(h.drop 8).take _
theorem secC_secB{s:Sector}(h:secOk s=true):secC (secB s)=s:=by
 obtain⟨⟨a1,a2⟩,⟨b1,b2⟩,hl⟩:=secOk_iff.1 h
 have e1:(secB s).drop 1=numB 3 s.seq++(numB 3 s.epoch++([(s.body.length:Int)]++(s.body++(List.replicate (114-s.body.length) 0++(numB 3 s.seq++numB 3 s.epoch))))):=by
  unfold secB;simp only[List.append_assoc];rfl
 have e4:(secB s).drop 4=numB 3 s.epoch++([(s.body.length:Int)]++(s.body++(List.replicate (114-s.body.length) 0++(numB 3 s.seq++numB 3 s.epoch)))):=by
  rw[show (4:Nat)=1+3 from rfl,←List.drop_drop,e1,List.drop_left' (numB_length _ _)]
 have e7:(secB s).drop 7=[(s.body.length:Int)]++(s.body++(List.replicate (114-s.body.length) 0++(numB 3 s.seq++numB 3 s.epoch))):=by
  rw[show (7:Nat)=4+3 from rfl,←List.drop_drop,e4,List.drop_left' (numB_length _ _)]
 have e8:(secB s).drop 8=s.body++(List.replicate (114-s.body.length) 0++(numB 3 s.seq++numB 3 s.epoch)):=by
  rw[show (8:Nat)=7+1 from rfl,←List.drop_drop,e7];rfl
 have g7:(secB s).getD 7 0=(s.body.length:Int):=by
  have:(secB s)[7]? = ((secB s).drop 7)[0]?:=by rw[List.getElem?_drop]
  rw[List.getD_eq_getElem?_getD,this,e7];rfl
 have p3:∀n:Int,(numB 3 n).length=3:=fun n=>numB_length n 3
 unfold secC
 rw[g7,e1,e4,e8,List.take_left' (p3 _),List.take_left' (p3 _),valB_numB a1 (by omega),valB_numB (by omega) (by omega),Int.toNat_natCast,List.take_left]
-- ---------- events as bytes
def evB(e:Event):List Int:=[69,e.kind]++numB 3 e.key++[e.ch,e.to]++numB 7 e.amt++numB 7 e.fee++[if e.yes then 1 else 0]
def evC(b:List Int):Event:=⟨b.getD 1 0,valB ((b.drop 2).take 3),b.getD 5 0,b.getD 6 0,valB ((b.drop 7).take 7),valB ((b.drop 14).take 7),b.getD 21 0==1⟩
def evF(b:List Int):Bool:=decide (b.length=22)&&(eventOk (evC b)&&decide (evB (evC b)=b))
theorem evB_length(e:Event):(evB e).length=22:=by unfold evB;simp[numB_length]
-- ---------- disks
def fullB(b:List Int):List Int:=if b.length=0 then List.replicate 128 0 else b
def cellOk(c:Cell):Bool:=decide (c.bytes.length=0)||decide (c.bytes.length=128)
def wrOk(n:Nat)(w:Write):Bool:=inB w.at_ 0 ((n:Int)-1)&&decide (w.bytes.length=128)
def diskOk(d:Disk):Bool:=inB (d.cells.length:Int) 1 600&&decide (d.dirty.length≤600)&&d.cells.all cellOk&&d.dirty.all (wrOk d.cells.length)
def lastW:List Write→Int→Option (List Int)
 |[],_=>none
 |w::r,at_=>match lastW r at_ with|some b=>some b|none=>if w.at_=at_ then some w.bytes else none
def diskAt(d:Disk)(i:Nat):List Int:=match lastW d.dirty i with|some b=>b|none=>fullB ((d.cells[i]?).getD ⟨[]⟩).bytes
def views(d:Disk):List (List Int):=(List.range d.cells.length).map (diskAt d)
def diskW(d:Disk)(i:Nat)(b:List Int):Disk:=⟨d.cells,d.dirty++[⟨i,b⟩]⟩
def torn(old new:List Int)(n:Nat):List Int:=new.take n++(fullB old).drop n
def crashK(keep:List Int)(k:Nat):Nat:=(min (max ((keep[k]?).getD 0) 0) 128).toNat
def crashStep(keep:List Int)(cs:List Cell)(k:Nat)(w:Write):List Cell:=if crashK keep k=0 then cs else cs.set w.at_.toNat ⟨torn ((cs[w.at_.toNat]?).getD ⟨[]⟩).bytes w.bytes (crashK keep k)⟩
def crashGo(keep:List Int):List Write→Nat→List Cell→List Cell
 |[],_,cs=>cs
 |w::r,k,cs=>crashGo keep r (k+1) (crashStep keep cs k w)
def diskC(d:Disk)(keep:List Int):Disk:=if diskOk d then ⟨crashGo keep d.dirty 0 d.cells,[]⟩else ⟨[],[]⟩
def syncStep(cs:List Cell)(w:Write):List Cell:=cs.set w.at_.toNat ⟨w.bytes⟩
def diskS(d:Disk):Disk:=if diskOk d then ⟨d.dirty.foldl syncStep d.cells,[]⟩else ⟨[],[]⟩
-- ---------- logs
def goesOn(acc:List Sector)(b:List Int):Bool:=secF b&&((secC b).seq==(acc.length:Int))&&(match acc.getLast? with|some s=>decide (s.epoch≤(secC b).epoch)|none=>true)
def logRun:List (List Int)→List Sector→List Sector
 |[],acc=>acc
 |b::r,acc=>if goesOn acc b then logRun r (acc++[secC b])else acc
def logR(d:Disk):List Sector:=if diskOk d then logRun (views d) []else []
def topOf(bs:List (List Int)):Int:=bs.foldl (fun t b=>max t (secR b).epoch) 0
def logTop(d:Disk):Int:=if diskOk d then topOf (views d)else 0
def evsOf(l:List Sector):List Event:=l.filterMap fun s=>if evF s.body then some (evC s.body)else none
def logE(d:Disk):List Event:=evsOf (logR d)
def lgOpC(d:Disk):Int:=if diskOk d&&decide (d.dirty.length=0)then (if (logR d).length=d.cells.length∨16000000≤logTop d then 2 else 0)else 1
def lgOpL(d:Disk):Log:=if lgOpC d=0 then ⟨diskS (diskW d (logR d).length (secB ⟨(logR d).length,logTop d+1,[66]⟩)),(logR d).length+1,logTop d+1⟩else ⟨⟨[],[]⟩,0,0⟩
def lgOpE(d:Disk):List Event:=if lgOpC d=0 then logE d else []

abbrev byV(l:List Int):AV:=bytesV 5 l
abbrev lstB(b:List Int):PV:=.lst 5 1 (rowsOf encU b)
def rowsC(cs:List Cell):List (List PV):=cs.map fun c=>[lstB c.bytes]
def rowsW(ws:List Write):List (List PV):=ws.map fun w=>[.v (.int .i64 w.at_),lstB w.bytes]
abbrev diskV(d:Disk):AV:=.agg [.p (.lst 115 1 (rowsC d.cells)),.p (.lst 123 2 (rowsW d.dirty))]
abbrev logV(l:Log):AV:=.agg [.p (.lst 115 1 (rowsC l.disk.cells)),.p (.lst 123 2 (rowsW l.disk.dirty)),int l.next,int l.epoch]
def rowsCV(vs:List Value):List (List PV):=vs.map fun v=>[.v v]
def rowsWV(vs:List Value)(ws:List Write):List (List PV):=List.zipWith (fun v (w:Write)=>[.v (.int .i64 w.at_),.v v]) vs ws
def famB(vs:List Value)(bs:List (List Int)):List AO:=List.zipWith (fun v b=>.arr ⟨5,some v⟩ 1 (rowsOf encU b)) vs bs
abbrev byC(cs:List Cell):List (List Int):=cs.map Cell.bytes
abbrev byW(ws:List Write):List (List Int):=ws.map Write.bytes
theorem rowsC_len(cs:List Cell):(rowsC cs).length=cs.length:=List.length_map _
theorem rowsW_len(ws:List Write):(rowsW ws).length=ws.length:=List.length_map _
theorem rowsC_at{cs:List Cell}{i:Nat}(h:i<cs.length):(rowsC cs)[i]? = some [lstB cs[i].bytes]:=row_map h
theorem rowsW_at{ws:List Write}{i:Nat}(h:i<ws.length):(rowsW ws)[i]? = some [.v (.int .i64 ws[i].at_),lstB ws[i].bytes]:=row_map h
theorem rowsCV_len(vs:List Value):(rowsCV vs).length=vs.length:=List.length_map _
theorem rowsWV_len{vs:List Value}{ws:List Write}(h:vs.length=ws.length):(rowsWV vs ws).length=ws.length:=by unfold rowsWV;rw[List.length_zipWith];omega
theorem famB_len{vs:List Value}{bs:List (List Int)}(h:vs.length=bs.length):(famB vs bs).length=bs.length:=by unfold famB;rw[List.length_zipWith];omega
theorem rowsCV_app{vs:List Value}{u:Value}:rowsCV (vs++[u])=rowsCV vs++[[.v u]]:=List.map_append
theorem rowsWV_app{vs:List Value}{ws:List Write}{u:Value}{w:Write}(h:vs.length=ws.length):rowsWV (vs++[u]) (ws++[w])=rowsWV vs ws++[[.v (.int .i64 w.at_),.v u]]:=by unfold rowsWV;rw[List.zipWith_append h];rfl
theorem famB_app{vs:List Value}{bs:List (List Int)}{u:Value}{b:List Int}(h:vs.length=bs.length):famB (vs++[u]) (bs++[b])=famB vs bs++[.arr ⟨5,some u⟩ 1 (rowsOf encU b)]:=by unfold famB;rw[List.zipWith_append h];rfl
theorem famB_row:∀ {vs:List Value} {bs:List (List Int)},rowF (famB vs bs)
 |[],_=>by unfold famB;simp;exact rowF.nil
 |_::_,[]=>by unfold famB;simp;exact rowF.nil
 |v::vs,p::bs=>fun o ho=>by
  unfold famB at ho
  rw[List.zipWith_cons_cons]at ho
  rcases List.mem_cons.1 ho with rfl|ho
  ·rfl
  ·exact famB_row (vs:=vs) (bs:=bs) o ho
theorem rowsCV_at{vs:List Value}{i:Nat}(hi:i<vs.length):(rowsCV vs)[i]? = some [.v vs[i]]:=row_map hi
theorem rowsWV_at{vs:List Value}{ws:List Write}{i:Nat}(h:vs.length=ws.length)(hi:i<ws.length):(rowsWV vs ws)[i]? = some [.v (.int .i64 ws[i].at_),.v (vs[i]'(by omega))]:=by
 unfold rowsWV
 rw[List.getElem?_zipWith,List.getElem?_eq_getElem hi,List.getElem?_eq_getElem (by omega)]
theorem famB_at{vs:List Value}{bs:List (List Int)}{i:Nat}(h:vs.length=bs.length)(hi:i<bs.length):(famB vs bs)[i]? = some (.arr ⟨5,some (vs[i]'(by omega))⟩ 1 (rowsOf encU bs[i])):=by
 unfold famB
 rw[List.getElem?_zipWith,List.getElem?_eq_getElem hi,List.getElem?_eq_getElem (by omega)]
theorem deepCV{H:Nat→AO}{F:List AO}(hT:Tl H F){vs:List Value}{cs:List Cell}(h:vs.length=cs.length){s:Nat}(hF:∀i,i<cs.length→F[s+i]? = (famB vs (byC cs))[i]?):All2 (All2 (dpC H)) (rowsCV vs) (rowsC cs):=by
 refine All2.of (by rw[rowsCV_len,rowsC_len];exact h) fun i a b ha hb=>?_
 have hi:i<cs.length:=by have:=(List.getElem?_eq_some_iff.1 hb).1;rwa [rowsC_len]at this
 rw[rowsCV_at (by omega)]at ha
 rw[rowsC_at hi]at hb
 injection ha with ha
 injection hb with hb
 subst ha hb
 refine .cons (.inr ⟨_,1000000+(s+i),_,_,_,rfl,?_,rfl⟩) .nil
 rw[hT.1,hF i hi,famB_at (by simpa using h) (by simpa using hi)]
 simp
theorem deepWV{H:Nat→AO}{F:List AO}(hT:Tl H F){vs:List Value}{ws:List Write}(h:vs.length=ws.length){s:Nat}(hF:∀i,i<ws.length→F[s+i]? = (famB vs (byW ws))[i]?):All2 (All2 (dpC H)) (rowsWV vs ws) (rowsW ws):=by
 refine All2.of (by rw[rowsWV_len h,rowsW_len]) fun i a b ha hb=>?_
 have hi:i<ws.length:=by have:=(List.getElem?_eq_some_iff.1 hb).1;rwa [rowsW_len]at this
 rw[rowsWV_at h hi]at ha
 rw[rowsW_at hi]at hb
 injection ha with ha
 injection hb with hb
 subst ha hb
 refine .cons (.inl rfl) (.cons (.inr ⟨_,1000000+(s+i),_,_,_,rfl,?_,rfl⟩) .nil)
 rw[hT.1,hF i hi,famB_at (by simpa using h) (by simpa using hi)]
 simp
abbrev oDisk:AV:=.agg [.own 1,.own 2]
abbrev obD(vs us:List Value)(d:Disk):List (Nat×AO):=[(1,.arr 115 1 (rowsCV vs)),(2,.arr 123 2 (rowsWV us d.dirty))]
def famD(vs us:List Value)(d:Disk):List AO:=famB vs (byC d.cells)++famB us (byW d.dirty)
theorem famD_row{vs us:List Value}{d:Disk}:rowF (famD vs us d):=famB_row.app famB_row
def diskRel(d:Disk):AV→List (Nat×AO)→List AO→Prop:=fun y l1 F1=>∃vs us:List Value,vs.length=d.cells.length∧us.length=d.dirty.length∧y=oDisk∧l1=obD vs us d∧F1=famD vs us d

theorem oapp{α:Type}(enc:α→List Value)(xs ys:List α):rowsOf enc (xs++ys)=rowsOf enc xs++rowsOf enc ys:=List.map_append
abbrev yAr(l:List Int):AO:=.arr 5 1 (rowsOf encU l)
abbrev yv(n:Int):AV:=.p (.v (.int .u8 n))
theorem yapp(l m:List Int):AO.arr 5 1 (rowsOf encU l++rowsOf encU m)=yAr (l++m):=congrArg (AO.arr 5 1) (oapp encU l m).symm
theorem wrap_u8(n:Int):IntKind.u8.wrap n=n%256:=by simp[IntKind.wrap,IntKind.signed,IntKind.bits]
theorem shr_byte{n:Int}{k j:Nat}(h:j<k):IntKind.u8.wrap (n/2 ^ (8*((k:Int)-1-(j:Int))).toNat)=n/256 ^ (k-1-j)%256:=by
 rw[wrap_u8]
 have e:(8*((k:Int)-1-(j:Int))).toNat=8*(k-1-j):=by omega
 rw[e,Int.pow_mul];rfl
theorem put_row{l:List Int}{n:Int}{k j:Nat}(h:j<k):yAr (l++(numB k n).take j++[n/256 ^ (k-1-j)%256])=yAr (l++(numB k n).take (j+1)):=by rw[numB_take h,List.append_assoc]
theorem numB_all(k:Nat)(n:Int):(numB k n).take k=numB k n:=List.take_of_length_le (by rw[numB_length];exact Nat.le_refl _)
theorem putNum_e(l:List Int)(n:Int)(k:Nat)(h0:0≤n)(hk:k≤7)(hl:l.length≤200):GC Try.prog 97 [.own 1,int n,int (k:Int)] [(1,yAr l)] (.own 1) [(1,yAr (l++numB k n))]:=by
 refine gi 6 Try.func97 rfl Try.ntmps97 rfl ?_
 intro L O w0
 refine sL<|laV Z<|nG<|aS<|sL<|lmI Z<|lgI Z<|laI Z<|nG<|aB ?_
 refine aW [1,6] [] (D:=Nat) (fun d=>[(7,int ((k:Int)-1-(d:Int))),(0,.own 1)]) (fun d=>[(1,yAr (l++(numB k n).take d))]) (fun d=>d≤k) (fun d=>k-d) (0) (Nat.zero_le _) ⟨(iq rfl),rfl,trivial⟩ ⟨(by rw[List.take_zero,List.append_nil];rfl),trivial⟩ ?_
 intro j hI
 replace hI:j≤k:=hI
 refine aS<|sL<|lmI Z<|lbB Z<|nG ?_
 refine AW.cond rfl ?_ ?_
 ·intro h1
  refine aK<|gT<|aS<|aB ?_
  have hj:j<k:=by have h:=h1;simp only[decide_eq_true_eq]at h;omega
  have htl:((numB k n).take j).length≤7:=by rw[List.length_take,numB_length];omega
  refine aL<|lmO Z<|lmI Z<|lmI Z<|lgI Z<|lq (rd (x:=vI _ _) (rd_val rfl rfl rfl (run_shr rfl (by omega) (by omega) rfl) rfl) rfl)<|lq (rd (x:=vI _ _) (rd_conv rfl ty.ik3 ty.ik5 rfl) rfl) ?_
  refine AL.slot 19 (yv (n/256 ^ (k-1-j)%256)) (Eq.trans (b:=yv _) rfl (congrArg yv (shr_byte hj))) ?_
  refine lst (zS 2020 (rowsOf encU [n/256 ^ (k-1-j)%256]) ty.el56 ty.ze5 rfl) Z<|lst (zP 1 ty.el56 ty.ze5 ty.by5 rfl (Src.own rfl rfl) (by first|(simp[rowsOf,numB_length];done)|(simp[rowsOf,numB_length];omega))) Z<|lT [1,6,7,21] [1,2020] ?_
  refine laO Z<|lN<|gB<|gT<|aL<|lmI Z<|lgI Z<|laI Z<|nG ?_
  refine⟨(j+1),hj,by show k-(j+1)<k-j;omega,⟨(iq rfl),rfl,trivial⟩,⟨(Eq.trans (yapp _ _) (put_row hj)),trivial⟩,rfl,rfl⟩
 ·intro h1
  refine aE<|eT<|eT<|eB<|gA<|lmO Z<|laO Z<|nG<|aR ?_
  have hj:j=k:=by have h:=h1;simp only[decide_eq_false_iff_not]at h;omega
  subst hj
  refine end_ret ?_ ⟨(congrArg (fun r=>yAr (l++r)) (numB_all _ n)),trivial⟩
  rfl
theorem copyBytes_o(l:List Int)(hl:l.length≤2000000):GC Try.prog 99 [byV l] [] (.own 1) [(1,yAr l)]:=by
 refine gi 2 Try.func99 rfl Try.ntmps99 rfl ?_
 intro L O w0
 refine sL<|laV Z<|nA<|lmL Z<|lst (St.app0 1 rfl rfl (by decide) ty.el56 ty.ze5 rfl (by decide) rfl (Src.p rfl) (by first|(simp[rowsOf,maxLen,numB_length];done)|(simp[rowsOf,maxLen,numB_length];omega)) (Nat.le_trans (Nat.mul_le_mul_left _ ty.by5) (by first|(simp[rowsOf,numB_length];done)|(simp[rowsOf,numB_length];omega)))) Z<|laO Z<|nG<|aR ?_
 refine end_ret ?_ ⟨rfl,trivial⟩
 rfl
theorem copyBytes_f(l:List Int)(hl:l.length≤2000000):GC Try.prog 99 [byV l] [] (byV l) []:=(copyBytes_o l hl).frz1
theorem copyBytes_n(l:List Int)(hl:l.length≤2000000):GN Try.prog 99 [byV l] [] [] (oneR 5 1 (rowsOf encU l)):=(copyBytes_o l hl).fam1 flat_rowsOf
theorem or_num{a x:Int}(h0:0≤a)(h1:a<281474976710656)(h2:0≤x)(h3:x≤255):bits .or .i64 (a*2 ^ (8:Int).toNat) x=a*256+x:=by
 have e:a*2 ^ (8:Int).toNat=a*256:=rfl
 rw[e]
 have:=or_byte (a:=a*256) (b:=x) (by omega) (by omega) (by omega) h2 (by omega)
 rw[←this]
 unfold bits
 have e1:IntKind.i64.bits=64:=rfl
 have q1:(BitVec.ofInt 64 (a*256)).toNat=((a*256)%2 ^ 64).toNat:=by rw[BitVec.toNat_ofInt];rfl
 have q2:(BitVec.ofInt 64 x).toNat=(x%2 ^ 64).toNat:=by rw[BitVec.toNat_ofInt];rfl
 dsimp only
 rw[e1,BitVec.toNat_or,q1,q2]
def getB(b:List Int)(k size:Nat):Int:=if k+size≤b.length then valB ((b.drop k).take size)else 0
def getF(b:List Int)(k size:Nat):Bool:=decide (k+size≤b.length)
theorem getB_y{b:List Int}{k size:Nat}(h:k+size≤b.length):getB b k size=valB ((b.drop k).take size):=if_pos h
theorem valB_take{l:List Int}{j:Nat}(h:j<l.length):valB (l.take (j+1))=valB (l.take j)*256+l[j]:=by rw[List.take_succ_eq_append_getElem h,valB_snoc]
theorem pow_le{j:Nat}(h:j≤6):(256:Int) ^ j≤281474976710656:=by
 have:j=0∨j=1∨j=2∨j=3∨j=4∨j=5∨j=6:=by omega
 rcases this with rfl|rfl|rfl|rfl|rfl|rfl|rfl<;>decide
theorem valB_lim{l:List Int}{j size:Nat}(hb:BytesOk l)(h:j<size)(hs:size≤7):0≤valB (l.take j)∧valB (l.take j)<281474976710656:=by
 have h1:=valB_bd (l.take j) 0 (hb.take j) (Int.le_refl _)
 have h2:(l.take j).length≤6:=by rw[List.length_take];omega
 have h3:=pow_le h2
 unfold valB
 omega
theorem take_drop_rows{b:List Int}{k size:Nat}:((rowsOf encU b).take (k+size)).drop k=rowsOf encU ((b.drop k).take size):=by
 unfold rowsOf;rw[←List.map_take,←List.map_drop];congr 1;first|(rw[List.drop_take];congr 1;omega)|(rw[List.drop_take];congr 1)|rw[List.drop_take]
theorem getNum_e(b:List Int)(k size:Nat)(hb:BytesOk b)(hs0:1≤size)(hs:size≤7)(hk:k≤1000)(hl:b.length≤2000000):GC Try.prog 107 [byV b,int (k:Int),int (size:Int)] [] (.tup [int (getB b k size),boo (getF b k size)]) []:=by
 refine GC.intro (rs:=[.tmp 6,.tmp 7]) Try.func107 rfl Try.ntmps107 (Nat.le_of_ble_eq_true rfl) ⟨rfl,rfl,trivial⟩ ?_
 intro L O w0
 refine sL<|laI Z<|laZ Z<|nG<|aS<|sL<|lmI Z<|lst (zC [] [] [] Try.func47 (in_e _ _ _) (trivial) Z Z) Z ?_
 refine lsB 12 true rfl (inB_true.2 ⟨by omega,by omega⟩)<|luZ Z<|lmZ Z<|lmI Z<|lbB Z<|lsB 16 false rfl (by simp)<|lkZ Z<|lmZ Z<|lmI Z<|lmL Z<|lnI ty.sl56 Z<|lmI rfl ?_
 refine lhI rfl ⟨rfl,fits_i64 (by rw[length_rowsOf];unfold i64;omega)⟩<|lbB Z<|lkB Z<|nG ?_
 refine AW.cond rfl ?_ ?_
 ·intro h1
  refine sL<|laI Z<|laZ Z<|nG<|aR<|rT ?_
  have hkz:¬k+size≤b.length:=by have h:=h1;simp only[decide_eq_true_eq,length_rowsOf]at h;omega
  unfold getB getF
  rw[if_neg hkz,decide_eq_false hkz]
  refine end_ret ?_ trivial
  rfl
 ·intro h1
  refine aK<|gT<|aS ?_
  have hkz:k+size≤b.length:=by have h:=h1;simp only[decide_eq_false_iff_not,length_rowsOf]at h;omega
  have hlen:((b.drop k).take size).length=size:=by rw[List.length_take,List.length_drop];omega
  refine aL<|laI Z<|nG<|aS<|sL<|lmL Z<|lmI Z<|lmI Z<|lmI Z<|lgI Z<|lsN 30 ((k+size:Nat):Int) rfl (by omega) ?_
  refine lq (rd (x:=vL _ _ _) (rd_slc_p (l:=k) (h:=k+size) rfl ty.el56 rfl ⟨_,rfl⟩ ⟨_,(by first|rfl|(show int _=int _;rfl))⟩ (by omega) (by rw[length_rowsOf];exact hkz)) rfl) ?_
  refine AL.slot 31 (byV ((b.drop k).take size)) (Eq.trans (b:=.p (.lst 5 1 (((rowsOf encU b).take (k+size)).drop k))) rfl (congrArg (fun r=>AV.p (.lst 5 1 r)) take_drop_rows)) ?_
  refine lnI ty.sl56 Z<|lsN 32 (size:Int) rfl (by rw[length_rowsOf,hlen])<|lmI Z<|nG<|aB ?_
  refine aW [6,7,31,32] [] (D:=Nat) (fun d=>[(33,int (d:Int)),(8,int (valB (((b.drop k).take size).take d)))]) (fun d=>[]) (fun d=>d≤size) (fun d=>size-d) (0) (Nat.zero_le _) ⟨rfl,rfl,trivial⟩ trivial ?_
  intro j hI
  replace hI:j≤size:=hI
  refine sL<|lbB Z<|nG<|aS ?_
  refine AW.cond rfl ?_ ?_
  ·intro h2
   refine aK<|gT<|aS<|aB<|aS ?_
   have hj:j<size:=by have h:=h2;simp only[decide_eq_true_eq]at h;omega
   have hjl:j<((b.drop k).take size).length:=by omega
   have hlim:=valB_lim (l:=(b.drop k).take size) ((hb.drop k).take size) hj hs
   have hx:=((hb.drop k).take size) _ (List.getElem_mem hjl)
   refine aL<|li j ty.el56 Z (row_map hjl)<|lT [6,7,8,31,32,33,35] [] ?_
   refine lrI ty.kd5 Z<|laI Z<|nG<|aL<|lmI Z ?_
   refine lhI rfl ⟨rfl,by decide,by decide,fits_i64 (by show i64 (_*2 ^ 8);unfold i64;omega)⟩<|lmI Z<|lq (rd (x:=vI _ _) (rd_conv rfl ty.ik5 ty.ik3 rfl) rfl)<|lsN 40 (((b.drop k).take size)[j]) rfl (by rw[IntKind.wrap_i64];omega)<|lq (rd (x:=vI _ _) (rd_val rfl rfl rfl (run_or rfl) rfl) rfl)<|lsN 41 (valB (((b.drop k).take size).take j)*256+((b.drop k).take size)[j]) rfl (or_num hlim.1 hlim.2 hx.1 hx.2)<|laI Z<|lN<|gB<|gT<|aL<|lgI Z<|lmI Z<|nG ?_
   refine⟨(j+1),hj,by show size-(j+1)<size-j;omega,⟨(iq rfl),(congrArg int (valB_take hjl).symm),trivial⟩,trivial,rfl,rfl⟩
  ·intro h2
   refine aE<|eT<|eT<|eB<|gA<|lmI Z<|laI Z<|laT Z<|nG<|aR ?_
   have hj:j=size:=by have h:=h2;simp only[decide_eq_false_iff_not]at h;omega
   subst hj
   unfold getF
   rw[getB_y hkz,decide_eq_true hkz,List.take_of_length_le (l:=(b.drop k).take j) (by omega)]
   refine end_ret ?_ trivial
   rfl
abbrev secV(s:Sector):AV:=.agg [int s.seq,int s.epoch,byV s.body]
def secX(s:Sector):List Int:=if secOk s then secB s else []
theorem secX_y{s:Sector}(h:secOk s=true):secX s=secB s:=if_pos h
theorem secX_n{s:Sector}(h:secOk s=false):secX s=[]:=if_neg (by simp[h])
theorem secX_ok{s:Sector}(h:BytesOk s.body):BytesOk (secX s):=by
 cases q:secOk s
 ·rw[secX_n q];exact .nil
 ·rw[secX_y q];exact secB_ok h (secOk_iff.1 q).2.2
theorem zero_rows(m:Nat):List.replicate m [PV.v (.int .u8 0)]=rowsOf encU (List.replicate m 0):=by unfold rowsOf;rw[List.map_replicate];rfl
theorem u8_len{s:Sector}(h:s.body.length≤100):IntKind.u8.wrap (s.body.length:Int)=(s.body.length:Int):=by rw[wrap_u8];omega
theorem sectorOk_e(s:Sector):GC Try.prog 98 [secV s] [] (boo (secOk s)) []:=by
 refine gi 2 Try.func98 rfl Try.ntmps98 rfl ?_
 intro L O w0
 refine sL<|lst (zX 2001 Z) Z<|laZ Z<|nA<|lf 0 ty.F92_0 Z<|loI ty.kd3 Z<|lst (zC [] [] [] Try.func47 (in_e _ _ _) (trivial) Z Z) Z<|lmB Z ?_
 refine AL.bool (t:=6) rfl ?_ ?_
 ·intro h1
  refine lf 1 ty.F92_1 Z<|loI ty.kd3 Z<|lst (zC [] [] [] Try.func47 (in_e _ _ _) (trivial) Z Z) Z<|lkB Z<|lmB Z ?_
  refine AL.bool (t:=11) rfl ?_ ?_
  ·intro h2
   refine lf 2 ty.F92_2 Z<|loL ty.kd56 Z<|lnI ty.sl56 Z ?_
   refine AL.slot 14 (int (s.body.length:Int)) (congrArg (fun n:Nat=>int (n:Int)) (length_rowsOf _ _)) ?_
   refine lbB Z<|lkB Z<|laB Z<|nG<|aR ?_
   refine eBo trivial ?_
   unfold secOk
   first|(simp_all;done)|(simp_all;omega)
  ·intro h2
   refine lno Z<|lno Z<|lno Z<|lno Z<|lkZ Z<|laZ Z<|nG<|aR ?_
   refine eBo trivial ?_
   unfold secOk
   first|(simp_all;done)|(simp_all;omega)
 ·intro h1
  refine lno Z<|lno Z<|lno Z<|lkZ Z<|lmZ Z<|lno Z<|lno Z<|lno Z<|lno Z<|lkZ Z<|laZ Z<|nG<|aR ?_
  refine eBo trivial ?_
  unfold secOk
  first|(simp_all;done)|(simp_all;omega)
theorem sectorBytes_o(s:Sector):GC Try.prog 50 [secV s] [] (.tup [.own 1,boo (secOk s)]) [(1,yAr (secX s))]:=by
 refine GC.intro (rs:=[.tmp 2,.tmp 3]) Try.func50 rfl Try.ntmps50 (Nat.le_of_ble_eq_true rfl) ⟨rfl,rfl,trivial⟩ ?_
 intro L O w0
 refine sL<|lst (zX 2001 Z) Z<|laV Z<|laZ Z<|nG<|aS<|sL<|loX (.agg [vI _ _,vI _ _,vL _ _ _]) ty.kd92 Z<|lst (zC [] [] [] Try.func98 (sectorOk_e s) (trivial) Z Z) Z<|luB Z<|nG ?_
 refine AW.cond rfl ?_ ?_
 ·intro h1
  refine sL<|laV Z<|laZ Z<|nG ?_
  refine AW.adoptT 1 2 5 1 rfl ?_
  refine aR<|rT ?_
  have hok:secOk s=false:=by simpa using h1
  rw[hok,secX_n hok]
  refine end_ret ?_ ⟨rfl,trivial⟩
  rfl
 ·intro h1
  refine aK<|gT<|aS ?_
  have hok:secOk s=true:=by simpa using h1
  obtain⟨⟨a1,a2⟩,⟨b1,b2⟩,hl⟩:=secOk_iff.1 hok
  refine aG 7 [1]<|tq 1 (rf 0 ty.F92_0 rfl)<|tq 2 (roI ty.kd3 rfl)<|tq 4 (rf 1 ty.F92_1 rfl)<|tq 5 (roI ty.kd3 rfl)<|yst 0 rfl (zS 1 (rowsOf encU [74]) ty.el56 ty.ze5 rfl)<|yst 3 rfl (zC [(1,1)] [1] [] Try.func97 (putNum_e ([74]) (s.seq) 3 (by omega) (by omega) (by first|(simp[numB_length];done)|(simp[numB_length];omega))) (trivial) rfl rfl)<|gX [1,2,3,11,13] [1,2001] ?_
  refine yst 6 rfl (zC [(1,1)] [1] [] Try.func97 (putNum_e ([74]++numB 3 s.seq) (s.epoch) 3 (by omega) (by omega) (by first|(simp[numB_length];done)|(simp[numB_length];omega))) (trivial) rfl rfl)<|yq 7 (raO rfl)<|gD<|gT<|aS<|aG 10 [1]<|tq 0 (rmO rfl)<|tq 1 (rf 2 ty.F92_2 rfl)<|tq 2 (roL ty.kd56 rfl)<|tq 3 (rnI ty.sl56 rfl) ?_
  refine AG.slot 18 (int (s.body.length:Int)) (congrArg (fun n:Nat=>int (n:Int)) (length_rowsOf _ _)) ?_
  refine tq 4 (rd (x:=vI _ _) (rd_conv rfl ty.ik3 ty.ik5 rfl) rfl) ?_
  refine AG.slot 19 (yv (s.body.length:Int)) (Eq.trans (b:=yv _) rfl (congrArg yv (u8_len hl))) ?_
  refine tq 7 (rf 2 ty.F92_2 rfl)<|tq 8 (roL ty.kd56 rfl)<|yst 5 rfl (zS 2020 (rowsOf encU [(s.body.length:Int)]) ty.el56 ty.ze5 rfl)<|yst 6 rfl (zP 1 ty.el56 ty.ze5 ty.by5 rfl (Src.own rfl rfl) (by first|(simp[rowsOf,numB_length];done)|(simp[rowsOf,numB_length];omega)))<|yst 9 rfl (zP 1 ty.el56 ty.ze5 ty.by5 rfl (Src.p rfl) (by first|(simp[rowsOf,numB_length];done)|(simp[rowsOf,numB_length];omega)))<|yq 10 (raO rfl)<|gD<|gT ?_
  refine AW.obj 1 (yAr ([74]++numB 3 s.seq++numB 3 s.epoch++[(s.body.length:Int)]++s.body)) ((Eq.trans (b:=AO.arr 5 1 (rowsOf encU ([74]++numB 3 s.seq++numB 3 s.epoch)++rowsOf encU [(s.body.length:Int)]++rowsOf encU s.body)) rfl (by rw[←oapp,←oapp]))) ?_
  refine sL<|lmO Z<|lmO Z<|lnI ty.sl56 Z ?_
  refine AL.slot 27 (int ((8+s.body.length:Nat):Int)) (Eq.trans (b:=int _) rfl (congrArg (fun n:Nat=>int (n:Int)) (by rw[length_rowsOf];first|(simp[numB_length];done)|(simp[numB_length];omega)))) ?_
  refine lgI Z<|lst (St.appZ 1 (m:=114-s.body.length) rfl rfl (by decide) ty.el56 ty.ze5 rfl ty.ik3 rfl rfl rfl ?hn1 (by rw[length_rowsOf];first|(simp;done)|(simp;omega)) (by omega) (by rw[length_rowsOf];simp[numB_length,maxLen];omega) (Nat.le_trans (Nat.mul_le_mul_left _ ty.by5) (by rw[length_rowsOf];simp[numB_length];omega))) rfl ?_
  case hn1=>omega
  refine lT [1,2,3,29] [1,2001,2020] ?_
  refine laO Z<|nG ?_
  refine AW.obj 1 (yAr ([74]++numB 3 s.seq++numB 3 s.epoch++[(s.body.length:Int)]++s.body++List.replicate (114-s.body.length) 0)) ((Eq.trans (b:=AO.arr 5 1 (rowsOf encU ([74]++numB 3 s.seq++numB 3 s.epoch++[(s.body.length:Int)]++s.body)++List.replicate (114-s.body.length) [PV.v (.int .u8 0)])) rfl (by rw[zero_rows,←oapp]))) ?_
  refine aS<|aG 8 [1]<|tq 0 (rmO rfl)<|tq 1 (rf 0 ty.F92_0 rfl)<|tq 2 (roI ty.kd3 rfl)<|tq 4 (rf 1 ty.F92_1 rfl)<|tq 5 (roI ty.kd3 rfl)<|yst 3 rfl (zC [(1,1)] [1] [] Try.func97 (putNum_e ([74]++numB 3 s.seq++numB 3 s.epoch++[(s.body.length:Int)]++s.body++List.replicate (114-s.body.length) 0) (s.seq) 3 (by omega) (by omega) (by first|(simp[numB_length];done)|(simp[numB_length];omega))) (trivial) rfl rfl)<|yst 6 rfl (zC [(1,1)] [1] [] Try.func97 (putNum_e ([74]++numB 3 s.seq++numB 3 s.epoch++[(s.body.length:Int)]++s.body++List.replicate (114-s.body.length) 0++numB 3 s.seq) (s.epoch) 3 (by omega) (by omega) (by first|(simp[numB_length];done)|(simp[numB_length];omega))) (trivial) rfl rfl)<|yq 7 (raO rfl)<|yq 8 (raT rfl)<|gD<|gT<|aR ?_
  rw[hok,secX_y hok]
  refine end_ret ?_ ⟨rfl,trivial⟩
  rfl
theorem sectorBytes_e(s:Sector):GC Try.prog 50 [secV s] [] (.tup [byV (secX s),boo (secOk s)]) []:=(sectorBytes_o s).frz2
theorem secC_of{b:List Int}(h:b.length=128):getB b 1 3=(secC b).seq∧getB b 4 3=(secC b).epoch:=⟨getB_y (by omega),getB_y (by omega)⟩
theorem get7{b:List Int}(h:7<b.length):b.getD 7 0=b[7]:=by rw[List.getD_eq_getElem?_getD,List.getElem?_eq_getElem h];rfl
theorem secC_b{b:List Int}(h:7<b.length):(secC b).body=(b.drop 8).take (b[7]).toNat:=by unfold secC;rw[get7 h]
theorem secF_y{b:List Int}(h:b.length=128)(h7:7<b.length)(h1:b[7]≤100)(h2:secOk (secC b)=true)(h3:secX (secC b)=b):secF b=true:=secF_iff.2 ⟨h,by rw[get7 h7];exact h1,h2,by rwa [secX_y h2]at h3⟩
theorem secF_n0{b:List Int}(h:b.length≠128):secF b=false:=Bool.eq_false_iff.2 fun q=>h (secF_iff.1 q).1
theorem secF_n1{b:List Int}(h7:7<b.length)(h:¬b[7]≤100):secF b=false:=Bool.eq_false_iff.2 fun q=>h (by have:=(secF_iff.1 q).2.1;rwa [get7 h7]at this)
theorem secF_n2{b:List Int}(h:secOk (secC b)=false):secF b=false:=Bool.eq_false_iff.2 fun q=>by have:=(secF_iff.1 q).2.2.1;rw[h]at this;cases this
theorem secF_n3{b:List Int}(h:secX (secC b)≠b):secF b=false:=Bool.eq_false_iff.2 fun q=>h (by rw[secX_y (secF_iff.1 q).2.2.1];exact(secF_iff.1 q).2.2.2)
def secRel(b:List Int):AV→List (Nat×AO)→Prop:=fun y ob=>ob=[]∧(secF b=true∧y=.tup [secV (secC b),boo true]∨secF b=false∧y=.tup [.agg [int 0,int 0,.p (.v (.slice none 0 0))],boo false])
theorem GX.sec{f:FuncId}{b:List Int}(h:GX Try.prog f [byV b] [] (secRel b)):GC Try.prog f [byV b] [] (.tup [secV (secR b),boo (secF b)]) []:=GX.imp h (fun x ob ⟨e1,e2⟩=>by
 subst e1
 rcases e2 with⟨e,rfl⟩|⟨e,rfl⟩
 ·rw[secR_yes e,e];exact⟨_,Imp.refl _,rfl,rfl⟩
 ·rw[secR_no e,e];exact⟨_,Imp.tup (ImpL.cons (Imp.agg (ImpL.cons (Imp.refl _) (ImpL.cons (Imp.refl _) (ImpL.cons (Imp.nil _ _) ImpL.nil)))) (ImpL.cons (Imp.refl _) ImpL.nil)),rfl,rfl⟩)
theorem sectorRead_0(b:List Int)(hb:BytesOk b)(hl:b.length≤2000000):GX Try.prog 118 [byV b] [] (secRel b):=by
 refine GX.intro (rs:=[.cell 2 92 (some 3),.tmp 3]) Try.func118 rfl Try.ntmps118 (Nat.le_of_ble_eq_true rfl) ⟨rfl,rfl,ty.kd92,rfl,trivial⟩ ?_
 intro L O w0
 refine sL<|lst (zA 2002 ty.ze92 Z) Z<|laZ Z<|nG<|aS<|sL<|lmL Z<|lnI ty.sl56 Z<|lbB Z<|lmB Z ?_
 refine AL.bool (t:=14) rfl ?_ ?_
 ·intro h1
  refine lno Z<|lno Z<|lno Z<|lno Z<|lkT Z<|nG<|aY Z<|sL<|lq (rd (x:=.agg [vI _ _,vI _ _,vV _]) (rd_build Z ty.sa92 Z Z Z) Z)<|lst (zB 2002 ty.co92 ty.inf92 Z) Z<|laZ Z<|nG<|aR<|rT ?_
  have hF:secF b=false:=secF_n0 (by have h:=h1;simp[length_rowsOf]at h;omega)
  refine end_xret ((.tup [.agg [int 0,int 0,.p (.v (.slice none 0 0))],boo false])) [] ?_ rfl trivial
  exact⟨rfl,.inr ⟨hF,rfl⟩⟩
 ·intro h1
  refine lmL rfl ?_
  have h7:7<b.length:=by have h:=h1;simp[length_rowsOf]at h;omega
  refine li 7 ty.el56 Z (row_map h7)<|lrI ty.kd5 Z<|lbB Z<|lkB Z<|nG ?_
  refine AW.cond rfl ?_ ?_
  ·intro h2
   refine sL<|lq (rd (x:=.agg [vI _ _,vI _ _,vV _]) (rd_build Z ty.sa92 Z Z Z) Z)<|lst (zB 2002 ty.co92 ty.inf92 Z) Z<|lT [0,2,3] [2002] ?_
   refine laZ Z<|nG<|aR<|rT ?_
   have hF:secF b=false:=secF_n1 h7 (by have h:=h2;simp at h;omega)
   refine end_xret ((.tup [.agg [int 0,int 0,.p (.v (.slice none 0 0))],boo false])) [] ?_ rfl trivial
   exact⟨rfl,.inr ⟨hF,rfl⟩⟩
  ·intro h2
   refine aK<|gT<|aS ?_
   have h128:b.length=128:=by have h:=h1;simp[length_rowsOf]at h;omega
   have h7:7<b.length:=by omega
   obtain⟨e1,e2⟩:=secC_of h128
   have e3:=secC_b h7
   have hx:=hb _ (List.getElem_mem h7)
   have hle:b[7]≤100:=by have h:=h2;simp at h;omega
   refine aL<|lmL Z<|lst (zC [] [] [] Try.func107 (getNum_e b 1 3 hb (by decide) (by decide) (by decide) hl) (trivial) rfl rfl) Z<|lmX (.tup [vI _ _,vB _]) Z<|lxI rfl ?_
   refine AL.slot 24 (int (secC b).seq) (congrArg int e1) ?_
   refine lxB Z<|laI Z<|laB Z<|nA<|lmL Z<|lst (zC [] [] [] Try.func107 (getNum_e b 4 3 hb (by decide) (by decide) (by decide) hl) (trivial) rfl rfl) Z<|lmX (.tup [vI _ _,vB _]) Z<|lxI rfl ?_
   refine AL.slot 29 (int (secC b).epoch) (congrArg int e2) ?_
   refine lxB Z<|laI Z<|laB Z<|nA<|lmI Z<|lmI Z<|lmL Z<|lmL Z<|li 7 ty.el56 rfl (row_map h7)<|lrI ty.kd5 Z<|lq (rd (x:=vI _ _) (rd_conv rfl ty.ik5 ty.ik3 rfl) rfl)<|lsN 37 b[7] rfl (by rw[IntKind.wrap_i64];omega)<|lgI Z<|lsN 38 ((8+(b[7]).toNat:Nat):Int) rfl (by omega) ?_
   refine lq (rd (x:=vL _ _ _) (rd_slc_p (l:=8) (h:=8+(b[7]).toNat) rfl ty.el56 rfl ⟨_,rfl⟩ ⟨_,rfl⟩ (by omega) (by rw[length_rowsOf];omega)) rfl) ?_
   refine AL.slot 39 (byV (secC b).body) (Eq.trans (b:=.p (.lst 5 1 (((rowsOf encU b).take (8+(b[7]).toNat)).drop 8))) rfl (congrArg (fun r=>AV.p (.lst 5 1 r)) (by rw[take_drop_rows,e3]))) ?_
   refine lst (zC [] [] [] Try.func99 (copyBytes_f _ (by rw[e3];simp;omega)) (trivial) rfl rfl) Z<|lT [0,2,3,31,32,40] [2002] ?_
   refine lq (rd (x:=.agg [vI _ _,vI _ _,vL _ _ _]) (rd_build Z ty.sa92 Z Z Z) Z)<|lst (zA 2008 ty.ze92 Z) Z<|lst (zB 2008 ty.co92 ty.inf92 Z) Z<|nA<|loX (.agg [vI _ _,vI _ _,vL _ _ _]) ty.kd92 Z<|lst (zC [] [] [] Try.func50 (sectorBytes_e (secC b)) (trivial) Z Z) Z<|lmX (.tup [vL _ _ _,vB _]) Z<|lxL Z<|lxB Z<|laL Z<|laB Z<|nG<|aS<|sL<|lmB Z<|luB Z<|lmB Z ?_
   refine AL.bool (t:=49) rfl ?_ ?_
   ·intro h3
    refine lno Z<|lno Z<|lno Z<|lno Z<|lno Z<|lkT Z<|nG<|aY Z<|sL<|lq (rd (x:=.agg [vI _ _,vI _ _,vV _]) (rd_build Z ty.sa92 Z Z Z) Z)<|lst (zB 2002 ty.co92 ty.inf92 Z) Z<|lT [2,3,8] [2002,2008] ?_
    refine laZ Z<|nG<|aR<|rT ?_
    have hF:secF b=false:=by first|exact secF_n2 (by simpa using h3)|exact secF_n3 (by simpa using h3)|exact secF_n2 (by simpa using h1)|exact secF_n2 (by simpa using h2)|exact secF_n2 (by simpa using h3)|exact secF_n3 (by simpa using h1)|exact secF_n3 (by simpa using h2)|exact secF_n3 (by simpa using h3)
    refine end_xret ((.tup [.agg [int 0,int 0,.p (.v (.slice none 0 0))],boo false])) [] ?_ rfl trivial
    exact⟨rfl,.inr ⟨hF,rfl⟩⟩
   ·intro h3
    refine lmL Z<|lq (rd (x:=vV _) (rd_str_p (e:=5) Z Try.underlying56 Try.underlying5 Try.underlying9 Z) Z)<|lmL Z<|lq (rd (x:=vV _) (rd_str_p (e:=5) Z Try.underlying56 Try.underlying5 Try.underlying9 Z) Z)<|lq (rd (x:=vB _) (rd_val Z Z Z (run_strne Try.underlying9 (secX_ok (secC_body hb)) hb) Z) Z)<|lkB Z<|nG ?_
    refine AW.cond rfl ?_ ?_
    ·intro h4
     refine sL<|lq (rd (x:=.agg [vI _ _,vI _ _,vV _]) (rd_build Z ty.sa92 Z Z Z) Z)<|lst (zB 2002 ty.co92 ty.inf92 Z) Z<|laZ Z<|nG<|aR<|rT ?_
     have hF:secF b=false:=by first|exact secF_n2 (by simpa using h4)|exact secF_n3 (by simpa using h4)|exact secF_n2 (by simpa using h1)|exact secF_n2 (by simpa using h2)|exact secF_n2 (by simpa using h3)|exact secF_n2 (by simpa using h4)|exact secF_n3 (by simpa using h1)|exact secF_n3 (by simpa using h2)|exact secF_n3 (by simpa using h3)|exact secF_n3 (by simpa using h4)
     refine end_xret ((.tup [.agg [int 0,int 0,.p (.v (.slice none 0 0))],boo false])) [] ?_ rfl trivial
     exact⟨rfl,.inr ⟨hF,rfl⟩⟩
    ·intro h4
     refine aK<|gA<|loX (.agg [vI _ _,vI _ _,vL _ _ _]) ty.kd92 Z<|lst (zB 2002 ty.co92 ty.inf92 Z) Z<|laT Z<|nG<|aR ?_
     have hF:secF b=true:=secF_y h128 h7 hle (by first|(simpa using h2)|(simpa using h3)|(simpa using h4)) (by first|(simpa using h2)|(simpa using h3)|(simpa using h4))
     refine end_xret ((.tup [secV (secC b),boo true])) [] ?_ rfl trivial
     exact⟨rfl,.inl ⟨hF,rfl⟩⟩
theorem sectorRead_e(b:List Int)(hb:BytesOk b)(hl:b.length≤2000000):GC Try.prog 118 [byV b] [] (.tup [secV (secR b),boo (secF b)]) []:=GX.sec (sectorRead_0 b hb hl)

def evX(e:Event):List Int:=if eventOk e then evB e else []
theorem evX_y{e:Event}(h:eventOk e=true):evX e=evB e:=if_pos h
theorem evX_n{e:Event}(h:eventOk e=false):evX e=[]:=if_neg (by simp[h])
theorem field_bd{has:Bool}{n lo hi:Int}(h:fieldB has n lo hi=true)(h0:0≤lo)(h1:0≤hi):0≤n∧n≤hi:=by
 unfold fieldB at h
 split at h
 ·have:=inB_true.1 h;omega
 ·simp at h;omega
theorem evBd{e:Event}(h:eventOk e=true):(1≤e.kind∧e.kind≤11)∧(0≤e.key∧e.key≤1000000)∧(0≤e.ch∧e.ch≤99)∧(0≤e.to∧e.to≤99)∧(0≤e.amt∧e.amt≤1125899906842624)∧(0≤e.fee∧e.fee≤1125899906842624):=by
 have q:=evAmt h
 rw[amtOk_true,amtOk_true]at q
 unfold eventOk at h
 simp only[Bool.and_eq_true]at h
 obtain⟨⟨⟨⟨⟨⟨⟨h1,h2⟩,h3⟩,h4⟩,_⟩,_⟩,_⟩,_⟩:=h
 exact⟨inB_true.1 h1,field_bd h2 (by decide) (by decide),field_bd h3 (by decide) (by decide),field_bd h4 (by decide) (by decide),q.1,q.2⟩
theorem evB_ok{e:Event}(h:eventOk e=true):BytesOk (evB e):=by
 obtain⟨a,b,c,d,f,g⟩:=evBd h
 unfold evB
 refine(((((BytesOk.cons (by omega) (by omega) (.cons (by omega) (by omega) .nil)).app (numB_ok _ _)).app (.cons (by omega) (by omega) (.cons (by omega) (by omega) .nil))).app (numB_ok _ _)).app (numB_ok _ _)).app ?_
 split
 ·exact .cons (by omega) (by omega) .nil
 ·exact .cons (by omega) (by omega) .nil
theorem evX_ok(e:Event):BytesOk (evX e):=by
 cases q:eventOk e
 ·rw[evX_n q];exact .nil
 ·rw[evX_y q];exact evB_ok q
theorem eventBody_o(e:Event):GC Try.prog 49 [evV e] [] (.tup [.own 1,boo (eventOk e)]) [(1,yAr (evX e))]:=by
 refine GC.intro (rs:=[.tmp 2,.tmp 3]) Try.func49 rfl Try.ntmps49 (Nat.le_of_ble_eq_true rfl) ⟨rfl,rfl,trivial⟩ ?_
 intro L O w0
 refine sL<|lst (zX 2001 Z) Z<|laV Z<|laZ Z<|nG<|aS<|sL<|loX (.agg [vI _ _,vI _ _,vI _ _,vI _ _,vI _ _,vI _ _,vB _]) ty.kd40 Z<|lst (zC [] [] [] Try.func48 (eventOk_e e) (trivial) Z Z) Z<|luB Z<|nG ?_
 refine AW.cond rfl ?_ ?_
 ·intro h1
  refine sL<|laV Z<|laZ Z<|nG ?_
  refine AW.adoptT 1 2 5 1 rfl ?_
  refine aR<|rT ?_
  have hok:eventOk e=false:=by simpa using h1
  rw[hok,evX_n hok]
  refine end_ret ?_ ⟨rfl,trivial⟩
  rfl
 ·intro h1
  refine aK<|gT<|aS ?_
  have hok:eventOk e=true:=by simpa using h1
  obtain⟨⟨b1,b2⟩,⟨b3,b4⟩,⟨b5,b6⟩,⟨b7,b8⟩,⟨b9,b10⟩,⟨b11,b12⟩⟩:=evBd hok
  refine aL<|lf 0 ty.F40_0 Z<|loI ty.kd3 Z<|lq (rd (x:=vI _ _) (rd_conv Z ty.ik3 ty.ik5 Z) Z) ?_
  refine AL.slot 10 (yv e.kind) (Eq.trans (b:=yv _) rfl (congrArg yv (by rw[wrap_u8];omega))) ?_
  refine lst (zS 1 (rowsOf encU [69,e.kind]) ty.el56 ty.ze5 rfl (by intro r hr;simp only[rowsOf,List.map_cons,List.map_nil,List.mem_cons,List.not_mem_nil,or_false]at hr;rcases hr with h|h<;>(subst h;rfl))) Z<|lf 1 ty.F40_1 Z<|loI ty.kd3 Z<|lst (zC [(1,1)] [1] [] Try.func97 (putNum_e ([69,e.kind]) (e.key) 3 (by omega) (by omega) (by first|(simp[numB_length];done)|(simp[numB_length];omega))) (trivial) rfl rfl) Z<|lT [1,2,3,14] [1,2001] ?_
  refine laO Z<|nG<|aS<|aG 15 [1]<|tq 0 (rmO Z)<|tq 1 (rf 2 ty.F40_2 Z)<|tq 2 (roI ty.kd3 Z)<|tq 3 (rd (x:=vI _ _) (rd_conv Z ty.ik3 ty.ik5 Z) Z) ?_
  refine AG.slot 18 (yv e.ch) (Eq.trans (b:=yv _) rfl (congrArg yv (by rw[wrap_u8];omega))) ?_
  refine tq 4 (rf 3 ty.F40_3 Z)<|tq 5 (roI ty.kd3 Z)<|tq 6 (rd (x:=vI _ _) (rd_conv Z ty.ik3 ty.ik5 Z) Z) ?_
  refine AG.slot 21 (yv e.to) (Eq.trans (b:=yv _) rfl (congrArg yv (by rw[wrap_u8];omega))) ?_
  refine tq 9 (rf 4 ty.F40_4 rfl)<|tq 10 (roI ty.kd3 rfl)<|tq 12 (rf 5 ty.F40_5 rfl)<|tq 13 (roI ty.kd3 rfl)<|yst 7 rfl (zS 2022 (rowsOf encU [e.ch,e.to]) ty.el56 ty.ze5 rfl (by intro r hr;simp only[rowsOf,List.map_cons,List.map_nil,List.mem_cons,List.not_mem_nil,or_false]at hr;rcases hr with h|h<;>(subst h;rfl)))<|yst 8 rfl (zP 1 ty.el56 ty.ze5 ty.by5 rfl (Src.own rfl rfl) (by first|(simp[rowsOf,numB_length];done)|(simp[rowsOf,numB_length];omega)))<|gX [1,2,3,23,25,28] [1,2001,2022] ?_
  refine yst 11 rfl (St.call [(1,1)] [1] [] rfl (by intro s hs;cases hs;decide) rfl Try.func97 rfl rfl (putNum_e ([69,e.kind]++numB 3 e.key++[e.ch,e.to]) (e.amt) 7 (by omega) (by omega) (by first|(simp[numB_length];done)|(simp[numB_length];omega))) ⟨rfl,rfl,rfl⟩ (⟨⟨1,rfl,(Eq.trans (b:=AO.arr 5 1 (rowsOf encU ([69,e.kind]++numB 3 e.key)++rowsOf encU [e.ch,e.to])) rfl (yapp _ _))⟩,trivial⟩) (trivial) rfl)<|yst 14 rfl (zC [(1,1)] [1] [] Try.func97 (putNum_e ([69,e.kind]++numB 3 e.key++[e.ch,e.to]++numB 7 e.amt) (e.fee) 7 (by omega) (by omega) (by first|(simp[numB_length];done)|(simp[numB_length];omega))) (trivial) rfl rfl)<|yq 15 (raO rfl)<|gD<|gT<|aS<|sL<|lf 6 ty.F40_6 Z<|loB ty.kd4 Z<|nG ?_
  refine AW.cond rfl ?_ ?_
  ·intro h2
   refine sL<|lmO Z<|lst (zS 2033 (rowsOf encU [1]) ty.el56 ty.ze5 rfl) Z<|lst (zP 1 ty.el56 ty.ze5 ty.by5 rfl (Src.own rfl rfl) (by first|(simp[rowsOf,numB_length];done)|(simp[rowsOf,numB_length];omega))) Z<|laO Z<|laT Z<|nG<|aR<|rT ?_
   rw[hok,evX_y hok]
   refine end_ret ?_ ⟨(Eq.trans (b:=AO.arr 5 1 (rowsOf encU ([69,e.kind]++numB 3 e.key++[e.ch,e.to]++numB 7 e.amt++numB 7 e.fee)++rowsOf encU [1])) rfl (by rw[←oapp];unfold evB;rw[h2];rfl)),trivial⟩
   rfl
  ·intro h2
   refine aK<|gA<|lmO Z<|lst (zS 2036 (rowsOf encU [0]) ty.el56 ty.ze5 rfl) Z<|lst (zP 1 ty.el56 ty.ze5 ty.by5 rfl (Src.own rfl rfl) (by first|(simp[rowsOf,numB_length];done)|(simp[rowsOf,numB_length];omega))) Z<|laO Z<|laT Z<|nG<|aR ?_
   rw[hok,evX_y hok]
   refine end_ret ?_ ⟨(Eq.trans (b:=AO.arr 5 1 (rowsOf encU ([69,e.kind]++numB 3 e.key++[e.ch,e.to]++numB 7 e.amt++numB 7 e.fee)++rowsOf encU [0])) rfl (by rw[←oapp];unfold evB;rw[h2];rfl)),trivial⟩
   rfl
theorem eventBody_e(e:Event):GC Try.prog 49 [evV e] [] (.tup [byV (evX e),boo (eventOk e)]) []:=(eventBody_o e).frz2
theorem getD_at{b:List Int}{i:Nat}(h:i<b.length):b.getD i 0=b[i]:=by rw[List.getD_eq_getElem?_getD,List.getElem?_eq_getElem h];rfl
theorem evF_iff{b:List Int}:evF b=true↔b.length=22∧eventOk (evC b)=true∧evB (evC b)=b:=by unfold evF;simp
theorem evF_y{b:List Int}(h:b.length=22)(h1:eventOk (evC b)=true)(h2:evX (evC b)=b):evF b=true:=evF_iff.2 ⟨h,h1,by rwa [evX_y h1]at h2⟩
theorem evF_n0{b:List Int}(h:b.length≠22):evF b=false:=Bool.eq_false_iff.2 fun q=>h (evF_iff.1 q).1
theorem evF_n1{b:List Int}(h:eventOk (evC b)=false):evF b=false:=Bool.eq_false_iff.2 fun q=>by have:=(evF_iff.1 q).2.1;rw[h]at this;cases this
theorem evF_n2{b:List Int}(h:evX (evC b)≠b):evF b=false:=Bool.eq_false_iff.2 fun q=>h (by rw[evX_y (evF_iff.1 q).2.1];exact(evF_iff.1 q).2.2)
def evR(b:List Int):Event:=if evF b then evC b else ⟨0,0,0,0,0,0,false⟩
theorem evR_y{b:List Int}(h:evF b=true):evR b=evC b:=if_pos h
theorem evR_n{b:List Int}(h:evF b=false):evR b=⟨0,0,0,0,0,0,false⟩:=if_neg (by simp[h])
theorem evC_of{b:List Int}(h:b.length=22):getB b 2 3=(evC b).key∧getB b 7 7=(evC b).amt∧getB b 14 7=(evC b).fee:=⟨getB_y (by omega),getB_y (by omega),getB_y (by omega)⟩
theorem bodyEvent_e(b:List Int)(hb:BytesOk b)(hl:b.length≤2000000):GC Try.prog 58 [byV b] [] (.tup [evV (evR b),boo (evF b)]) []:=by
 refine GC.intro (rs:=[.cell 2 40 (some 7),.tmp 3]) Try.func58 rfl Try.ntmps58 (Nat.le_of_ble_eq_true rfl) ⟨rfl,rfl,ty.kd40,rfl,trivial⟩ ?_
 intro L O w0
 refine sL<|lst (zA 2002 ty.ze40 Z) Z<|laZ Z<|nG<|aS<|sL<|lmL Z<|lnI ty.sl56 Z<|lbB Z<|nG ?_
 refine AW.cond rfl ?_ ?_
 ·intro h1
  refine sL<|lq (rd (x:=.agg [vI _ _,vI _ _,vI _ _,vI _ _,vI _ _,vI _ _,vB false]) (rd_build Z ty.sa40 Z Z Z) Z)<|lst (zB 2002 ty.co40 ty.inf40 Z) Z<|laZ Z<|nG<|aR<|rT ?_
  have hF:evF b=false:=evF_n0 (by have h:=h1;simp[length_rowsOf]at h;omega)
  rw[evR_n hF,hF]
  refine end_ret ?_ trivial
  rfl
 ·intro h1
  refine aK<|gT<|aS ?_
  have h22:b.length=22:=by have h:=h1;simp[length_rowsOf]at h;omega
  have h1:1<b.length:=by omega
  have h5:5<b.length:=by omega
  have h6:6<b.length:=by omega
  have h21:21<b.length:=by omega
  obtain⟨e1,e2,e3⟩:=evC_of h22
  have x1:=hb _ (List.getElem_mem h1)
  have x5:=hb _ (List.getElem_mem h5)
  have x6:=hb _ (List.getElem_mem h6)
  have x21:=hb _ (List.getElem_mem h21)
  refine aF [18]<|pq 0 (qmL rfl)<|sq 1 (ri 1 ty.el56 rfl (row_map h1))<|sq 2 (rrI ty.kd5 rfl)<|sq 3 (rd (x:=vI _ _) (rd_conv rfl ty.ik5 ty.ik3 rfl) rfl)<|fsN 14 (evC b).kind rfl (Eq.trans (show IntKind.i64.wrap b[1]=b[1] by rw[IntKind.wrap_i64];omega) (getD_at h1).symm)<|pq 4 (qmL rfl)<|sq 5 (ri 5 ty.el56 rfl (row_map h5))<|sq 6 (rrI ty.kd5 rfl)<|sq 7 (rd (x:=vI _ _) (rd_conv rfl ty.ik5 ty.ik3 rfl) rfl)<|fsN 18 (evC b).ch rfl (Eq.trans (show IntKind.i64.wrap b[5]=b[5] by rw[IntKind.wrap_i64];omega) (getD_at h5).symm)<|pq 8 (qmL rfl)<|sq 9 (ri 6 ty.el56 rfl (row_map h6))<|sq 10 (rrI ty.kd5 rfl)<|sq 11 (rd (x:=vI _ _) (rd_conv rfl ty.ik5 ty.ik3 rfl) rfl)<|fsN 22 (evC b).to rfl (Eq.trans (show IntKind.i64.wrap b[6]=b[6] by rw[IntKind.wrap_i64];omega) (getD_at h6).symm)<|pq 12 (qmL rfl)<|sq 13 (ri 21 ty.el56 rfl (row_map h21))<|sq 14 (rrI ty.kd5 rfl)<|sq 15 (rbB rfl) ?_
  refine AF.slot 26 (boo (evC b).yes) (congrArg boo (show decide (b[21]=1)=(b.getD 21 0==1) by rw[getD_at h21];exact(dec_beq _ _))) ?_
  refine sq 16 (rd (x:=.agg [vI _ _,vI _ _,vI _ _,vI _ _,vI _ _,vI _ _,vB _]) (rd_build Z ty.sa40 Z Z Z) Z)<|vst 17 Z (zA 2004 ty.ze40 Z) (.inr Z)<|fT [0,2,3,4,27] [2002,2004] ?_
  refine vst 18 rfl (zB 2004 ty.co40 ty.inf40 rfl) (.inl rfl)<|fD<|gA<|lmL Z<|lst (zC [] [] [] Try.func107 (getNum_e b 2 3 hb (by decide) (by decide) (by decide) hl) (trivial) rfl rfl) Z<|lmX (.tup [vI _ _,vB _]) Z<|lxI rfl ?_
  refine AL.slot 31 (int (evC b).key) (congrArg int e1) ?_
  refine lxB Z<|lf 1 ty.F40_1 Z<|lst (zB 2004 ty.co3 ty.inf3 rfl) Z<|nA<|lmL Z<|lst (zC [] [] [] Try.func107 (getNum_e b 7 7 hb (by decide) (by decide) (by decide) hl) (trivial) rfl rfl) Z<|lmX (.tup [vI _ _,vB _]) Z<|lxI rfl ?_
  refine AL.slot 37 (int (evC b).amt) (congrArg int e2) ?_
  refine lxB Z<|lf 4 ty.F40_4 Z<|lst (zB 2004 ty.co3 ty.inf3 Z) Z<|lT [0,2,3,4] [2002,2004] ?_
  refine nA<|lmL Z<|lst (zC [] [] [] Try.func107 (getNum_e b 14 7 hb (by decide) (by decide) (by decide) hl) (trivial) rfl rfl) Z<|lmX (.tup [vI _ _,vB _]) Z<|lxI rfl ?_
  refine AL.slot 43 (int (evC b).fee) (congrArg int e3) ?_
  refine lxB Z<|lf 5 ty.F40_5 Z<|lst (zB 2004 ty.co3 ty.inf3 Z) Z<|nA<|loX (.agg [vI _ _,vI _ _,vI _ _,vI _ _,vI _ _,vI _ _,vB _]) ty.kd40 Z<|lst (zC [] [] [] Try.func49 (eventBody_e (evC b)) (trivial) Z Z) Z<|lmX (.tup [vL _ _ _,vB _]) Z<|lxL Z<|lxB Z<|laL Z<|laB Z<|nG<|aS<|sL<|lmB Z<|luB Z<|lmB Z ?_
  refine AL.bool (t:=53) rfl ?_ ?_
  ·intro h2
   refine lno Z<|lno Z<|lno Z<|lno Z<|lno Z<|lkT Z<|nG<|aY Z<|sL<|lq (rd (x:=.agg [vI _ _,vI _ _,vI _ _,vI _ _,vI _ _,vI _ _,vB false]) (rd_build Z ty.sa40 Z Z Z) Z)<|lst (zB 2002 ty.co40 ty.inf40 Z) Z<|lT [2,3,4] [2002,2004] ?_
   refine laZ Z<|nG<|aR<|rT ?_
   have hF:evF b=false:=by first|exact evF_n1 (by simpa using h2)|exact evF_n2 (by simpa using h2)|exact evF_n1 (by simpa using h1)|exact evF_n2 (by simpa using h1)
   rw[evR_n hF,hF]
   refine end_ret ?_ trivial
   rfl
  ·intro h2
   refine lmL Z<|lq (rd (x:=vV _) (rd_str_p (e:=5) Z Try.underlying56 Try.underlying5 Try.underlying9 Z) Z)<|lmL Z<|lq (rd (x:=vV _) (rd_str_p (e:=5) Z Try.underlying56 Try.underlying5 Try.underlying9 Z) Z)<|lq (rd (x:=vB _) (rd_val Z Z Z (run_strne Try.underlying9 (evX_ok _) hb) Z) Z)<|lkB Z<|nG ?_
   refine AW.cond rfl ?_ ?_
   ·intro h3
    refine sL<|lq (rd (x:=.agg [vI _ _,vI _ _,vI _ _,vI _ _,vI _ _,vI _ _,vB false]) (rd_build Z ty.sa40 Z Z Z) Z)<|lst (zB 2002 ty.co40 ty.inf40 Z) Z<|laZ Z<|nG<|aR<|rT ?_
    have hF:evF b=false:=by first|exact evF_n1 (by simpa using h3)|exact evF_n2 (by simpa using h3)|exact evF_n1 (by simpa using h2)|exact evF_n2 (by simpa using h2)|exact evF_n1 (by simpa using h1)|exact evF_n2 (by simpa using h1)
    rw[evR_n hF,hF]
    refine end_ret ?_ trivial
    rfl
   ·intro h3
    refine aK<|gA<|loX (.agg [vI _ _,vI _ _,vI _ _,vI _ _,vI _ _,vI _ _,vB _]) ty.kd40 Z<|lst (zB 2002 ty.co40 ty.inf40 Z) Z<|laT Z<|nG<|aR ?_
    have hF:evF b=true:=evF_y h22 (by first|(simpa using h2)|(simpa using h3)) (by first|(simpa using h2)|(simpa using h3))
    rw[evR_y hF,hF]
    refine end_ret ?_ trivial
    rfl
end Go.Proofs.Yteblcdnhnckkaaa

