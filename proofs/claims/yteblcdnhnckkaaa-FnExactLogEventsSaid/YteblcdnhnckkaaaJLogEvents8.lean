/- Texts of the proof of FnLogEvents, joined: EO7, EO8, EO9, EA5, EA6, EP1, MkD, EL1, EL1b, EP2. -/
import Derived.Test.YteblcdnhnckkaaaJLogEvents7
import Derived.Test.YteblcdnhnckkaaaJLogEvents5
import Derived.Test.YteblcdnhnckkaaaJLogEvents3
import Derived.Test.YteblcdnhnckkaaaJLogEvents6
namespace Go.Proofs.Yteblcdnhnckkaaa
open Go.RowKit
set_option maxHeartbeats 16000000
set_option maxRecDepth 100000
set_option linter.unusedSimpArgs false
set_option linter.unusedVariables false
theorem rd_mkfL{P:Program}{o:Oper}{τ:Nat→AV}{H:Nat→AO}{X:Nat→Bool}{fn:Fn}{c:Operand}{y:AV}(h:(o.op,ev τ c)=(.makeFunc fn #[] #[c],y)):Rd P o τ H X (.clo fn [] [y]):=by
 simp only[Prod.mk.injEq]at h
 rw[←h.2]
 exact rd_mkf (f:=[]) (cs:=[c]) h.1
abbrev lBox(g:Value):AO:=.box 58 (some g) [.own 2]
theorem lastE_at{acc:List Sector}(h:acc.length-1<acc.length):lastE acc=acc[acc.length-1].epoch:=by
 unfold lastE
 rw[List.getLast?_eq_getElem?,List.getElem?_eq_getElem h]
def goS(acc:List Sector)(b:List Int):List Sector:=if goesOn acc b then acc++[secC b]else acc
theorem readC_e(g:Value)(acc:List Sector)(b:List Int)(hk:acc.length≤600):GC Try.prog 72 [int (acc.length:Int),secV (secR b),boo (secF b),.ptr 1 0 0] [(1,lBox g),(2,sAr acc)] (boo (goesOn acc b)) [(1,lBox g),(2,sAr (goS acc b))]:=by
 refine gi 7 Try.func72 rfl Try.ntmps72 rfl ?_
 intro L O w0
 refine sL<|lst (zX 2005 Z) Z<|laZ Z<|nG<|aS<|aS<|aF []<|vq 0 (rmB Z)<|vq 1 (ruB Z)<|vq 2 (rmB Z) ?_
 refine AF.bool (t:=10) rfl ?_ ?_
 ·intro h1
  refine pno 3 Z<|pno 4 Z<|vno 5 Z<|vno 6 Z<|vq 7 (rkT Z)<|vq 8 (rmT Z)<|vno 9 Z<|vno 10 Z<|vno 11 Z<|pno 12 Z<|pno 13 Z<|pno 14 Z<|vno 15 Z<|vno 16 Z<|vno 17 Z<|vno 18 Z<|vno 19 Z<|vno 20 Z<|vno 21 Z<|vq 22 (rkT Z)<|fD<|gT<|aY Z<|sL<|laZ Z<|nG<|aR<|rT ?_
  have hG:goesOn acc b=false:=Bool.eq_false_iff.2 fun q=>by
   obtain⟨q1,q2,q3⟩:=goes_iff.1 q
   first|(have h:=h1;rw[q1]at h;exact absurd h (by decide))|(have h:=h1;rw[secR_yes q1]at h;simp[q2]at h;done)|(have h:=h1;rw[secR_yes q1,←lastE_at (by omega)]at h;simp only[decide_eq_true_eq]at h;omega)
  rw[hG]
  refine end_ret ?_ ⟨rfl,(congrArg sAr (show acc=goS acc b by unfold goS;rw[hG];rfl)),trivial⟩
  rfl
 ·intro h1
  refine pq 3 (qf 0 ty.F92_0 Z)<|sq 4 (roI ty.kd3 Z)<|vq 5 (rmI Z)<|vq 6 (rbB Z)<|vq 7 (rkB Z)<|vq 8 (rmB Z) ?_
  refine AF.bool (t:=16) rfl ?_ ?_
  ·intro h2
   refine vno 9 Z<|vno 10 Z<|vno 11 Z<|pno 12 Z<|pno 13 Z<|pno 14 Z<|vno 15 Z<|vno 16 Z<|vno 17 Z<|vno 18 Z<|vno 19 Z<|vno 20 Z<|vno 21 Z<|vq 22 (rkT Z)<|fD<|gT<|aY Z<|sL<|laZ Z<|nG<|aR<|rT ?_
   have hG:goesOn acc b=false:=Bool.eq_false_iff.2 fun q=>by
    obtain⟨q1,q2,q3⟩:=goes_iff.1 q
    first|(have h:=h1;rw[q1]at h;exact absurd h (by decide))|(have h:=h1;rw[secR_yes q1]at h;simp[q2]at h;done)|(have h:=h1;rw[secR_yes q1,←lastE_at (by omega)]at h;simp only[decide_eq_true_eq]at h;omega)|(have h:=h2;rw[q1]at h;exact absurd h (by decide))|(have h:=h2;rw[secR_yes q1]at h;simp[q2]at h;done)|(have h:=h2;rw[secR_yes q1,←lastE_at (by omega)]at h;simp only[decide_eq_true_eq]at h;omega)
   rw[hG]
   refine end_ret ?_ ⟨rfl,(congrArg sAr (show acc=goS acc b by unfold goS;rw[hG];rfl)),trivial⟩
   rfl
  ·intro h2
   refine vq 9 (rmI Z)<|vq 10 (rbB Z)<|vq 11 (rmB Z) ?_
   refine AF.bool (t:=19) rfl ?_ ?_
   ·intro h3
    refine pq 12 (qf 1 ty.F92_1 Z)<|sq 13 (roI ty.kd3 Z)<|sq 14 (roO ty.kd58 Z)<|vq 15 (rmI Z) ?_
    have h0:0<acc.length:=by have h:=h3;simp only[decide_eq_true_eq]at h;omega
    refine vq 16 (rgI rfl (by unfold i64;omega))<|fsN 24 ((acc.length-1:Nat):Int) rfl (by omega)<|vq 17 (rj ((acc.length-1)) ty.el58 rfl (by rw[rowsS_len];omega))<|vq 18 (rf 1 ty.F92_1 rfl)<|vq 19 (rd (x:=vI _ _) (rd_load_arr rfl ty.kd3 rfl rfl rfl (rowsS_at (by omega)) rfl) rfl)<|vq 20 (rbB rfl)<|vq 21 (rkB rfl)<|fT [3,5,7,16,29] [1,2,2005] ?_
    refine vq 22 (rkB Z)<|fD<|gT ?_
    refine AW.cond rfl ?_ ?_
    ·intro h4
     refine sL<|laZ Z<|nG<|aR<|rT ?_
     have hG:goesOn acc b=false:=Bool.eq_false_iff.2 fun q=>by
      obtain⟨q1,q2,q3⟩:=goes_iff.1 q
      first|(have h:=h1;rw[q1]at h;exact absurd h (by decide))|(have h:=h1;rw[secR_yes q1]at h;simp[q2]at h;done)|(have h:=h1;rw[secR_yes q1,←lastE_at (by omega)]at h;simp only[decide_eq_true_eq]at h;omega)|(have h:=h2;rw[q1]at h;exact absurd h (by decide))|(have h:=h2;rw[secR_yes q1]at h;simp[q2]at h;done)|(have h:=h2;rw[secR_yes q1,←lastE_at (by omega)]at h;simp only[decide_eq_true_eq]at h;omega)|(have h:=h3;rw[q1]at h;exact absurd h (by decide))|(have h:=h3;rw[secR_yes q1]at h;simp[q2]at h;done)|(have h:=h3;rw[secR_yes q1,←lastE_at (by omega)]at h;simp only[decide_eq_true_eq]at h;omega)|(have h:=h4;rw[q1]at h;exact absurd h (by decide))|(have h:=h4;rw[secR_yes q1]at h;simp[q2]at h;done)|(have h:=h4;rw[secR_yes q1,←lastE_at (by omega)]at h;simp only[decide_eq_true_eq]at h;omega)
     rw[hG]
     refine end_ret ?_ ⟨rfl,(congrArg sAr (show acc=goS acc b by unfold goS;rw[hG];rfl)),trivial⟩
     rfl
    ·intro h4
     refine aK<|gA<|loO ty.kd58 Z<|loX (.agg [vI _ _,vI _ _,vL _ _ _]) ty.kd92 Z<|lst (zS 2033 [[.v (.int .i64 (secR b).seq),.v (.int .i64 (secR b).epoch),lstB (secR b).body]] ty.el58 ty.ze92 rfl (by intro r hr;simp at hr;subst hr;rfl)) Z<|lst (zP 2 ty.el58 ty.ze92 ty.by92 rfl (Src.own rfl rfl) (by simp[rowsS_len];omega)) Z<|lst (zB 1 ty.co58 ty.inf58 rfl) Z<|nA<|laT Z<|nG<|aR ?_
     have hF:secF b=true:=by first|(simpa using h1)|(simpa using h2)|(simpa using h3)|(simpa using h4)
     have hG:goesOn acc b=true:=goes_iff.2 ⟨hF,by first|(have h:=h1;rw[secR_yes hF]at h;simpa using h)|(have h:=h2;rw[secR_yes hF]at h;simpa using h)|(have h:=h3;rw[secR_yes hF]at h;simpa using h)|(have h:=h4;rw[secR_yes hF]at h;simpa using h),by first|(have h:=h1;rw[secR_yes hF,←lastE_at (by omega)]at h;simp only[decide_eq_false_iff_not]at h;omega)|(have h:=h1;have h0:acc=[]:=List.length_eq_zero_iff.1 (by simp only[decide_eq_false_iff_not]at h;omega);subst h0;have:=(secOk_iff.1 (secF_iff.1 hF).2.2.1).2.1;show (0:Int)≤_;omega)|(have h:=h2;rw[secR_yes hF,←lastE_at (by omega)]at h;simp only[decide_eq_false_iff_not]at h;omega)|(have h:=h2;have h0:acc=[]:=List.length_eq_zero_iff.1 (by simp only[decide_eq_false_iff_not]at h;omega);subst h0;have:=(secOk_iff.1 (secF_iff.1 hF).2.2.1).2.1;show (0:Int)≤_;omega)|(have h:=h3;rw[secR_yes hF,←lastE_at (by omega)]at h;simp only[decide_eq_false_iff_not]at h;omega)|(have h:=h3;have h0:acc=[]:=List.length_eq_zero_iff.1 (by simp only[decide_eq_false_iff_not]at h;omega);subst h0;have:=(secOk_iff.1 (secF_iff.1 hF).2.2.1).2.1;show (0:Int)≤_;omega)|(have h:=h4;rw[secR_yes hF,←lastE_at (by omega)]at h;simp only[decide_eq_false_iff_not]at h;omega)|(have h:=h4;have h0:acc=[]:=List.length_eq_zero_iff.1 (by simp only[decide_eq_false_iff_not]at h;omega);subst h0;have:=(secOk_iff.1 (secF_iff.1 hF).2.2.1).2.1;show (0:Int)≤_;omega)⟩
     rw[hG]
     refine end_ret ?_ ⟨rfl,(Eq.trans (b:=AO.arr 92 3 (rowsS acc++[[.v (.int .i64 (secR b).seq),.v (.int .i64 (secR b).epoch),lstB (secR b).body]])) rfl (by unfold goS;rw[if_pos hG,secR_yes hF,rowsS_app])),trivial⟩
     rfl
   ·intro h3
    refine pno 12 Z<|pno 13 Z<|pno 14 Z<|vno 15 Z<|vno 16 Z<|vno 17 Z<|vno 18 Z<|vno 19 Z<|vno 20 Z<|vq 21 (rkZ rfl)<|vq 22 (rkZ rfl)<|fD<|gT<|aN Z<|aK<|gA<|loO ty.kd58 Z<|loX (.agg [vI _ _,vI _ _,vL _ _ _]) ty.kd92 Z<|lst (zS 2033 [[.v (.int .i64 (secR b).seq),.v (.int .i64 (secR b).epoch),lstB (secR b).body]] ty.el58 ty.ze92 rfl (by intro r hr;simp at hr;subst hr;rfl)) Z<|lst (zP 2 ty.el58 ty.ze92 ty.by92 rfl (Src.own rfl rfl) (by simp[rowsS_len];omega)) Z<|lT [3,7,34] [1,2,2005,2033] ?_
    refine lst (zB 1 ty.co58 ty.inf58 Z) Z<|nA<|laT Z<|nG<|aR ?_
    have hF:secF b=true:=by first|(simpa using h1)|(simpa using h2)|(simpa using h3)
    have hG:goesOn acc b=true:=goes_iff.2 ⟨hF,by first|(have h:=h1;rw[secR_yes hF]at h;simpa using h)|(have h:=h2;rw[secR_yes hF]at h;simpa using h)|(have h:=h3;rw[secR_yes hF]at h;simpa using h),by first|(have h:=h1;rw[secR_yes hF,←lastE_at (by omega)]at h;simp only[decide_eq_false_iff_not]at h;omega)|(have h:=h1;have h0:acc=[]:=List.length_eq_zero_iff.1 (by simp only[decide_eq_false_iff_not]at h;omega);subst h0;have:=(secOk_iff.1 (secF_iff.1 hF).2.2.1).2.1;show (0:Int)≤_;omega)|(have h:=h2;rw[secR_yes hF,←lastE_at (by omega)]at h;simp only[decide_eq_false_iff_not]at h;omega)|(have h:=h2;have h0:acc=[]:=List.length_eq_zero_iff.1 (by simp only[decide_eq_false_iff_not]at h;omega);subst h0;have:=(secOk_iff.1 (secF_iff.1 hF).2.2.1).2.1;show (0:Int)≤_;omega)|(have h:=h3;rw[secR_yes hF,←lastE_at (by omega)]at h;simp only[decide_eq_false_iff_not]at h;omega)|(have h:=h3;have h0:acc=[]:=List.length_eq_zero_iff.1 (by simp only[decide_eq_false_iff_not]at h;omega);subst h0;have:=(secOk_iff.1 (secF_iff.1 hF).2.2.1).2.1;show (0:Int)≤_;omega)⟩
    rw[hG]
    refine end_ret ?_ ⟨rfl,(Eq.trans (b:=AO.arr 92 3 (rowsS acc++[[.v (.int .i64 (secR b).seq),.v (.int .i64 (secR b).epoch),lstB (secR b).body]])) rfl (by unfold goS;rw[if_pos hG,secR_yes hF,rowsS_app])),trivial⟩
    rfl
theorem decRead_e(g:Value)(d:Disk)(hd:diskOk d=true)(hb:DkB d):GC Try.prog 71 [diskV d,.clo (.func 72) [] [.ptr 1 0 0]] [(1,lBox g),(2,sAr [])] (.tup []) [(1,lBox g),(2,sAr (logR d))]:=by
 refine GC.intro (rs:=[]) Try.func71 rfl Try.ntmps71 (Nat.le_of_ble_eq_true rfl) trivial ?_
 intro L O w0
 refine sL<|lst (zX 2002 Z) Z<|nG<|aS ?_
 have hsz:=(dok_iff hd).1
 refine aL<|lf 0 ty.F34_0 Z<|loL ty.kd31 Z<|lnI ty.sl31 Z ?_
 refine AL.slot 9 (int (d.cells.length:Int)) (congrArg (fun n:Nat=>int (n:Int)) (rowsC_len _)) ?_
 refine lmI Z<|nG<|aB ?_
 refine aW [1,2,9] [2002] (D:=List Sector) (fun l=>[(10,int (l.length:Int))]) (fun l=>[(1,lBox g),(2,sAr l)]) (fun l=>l.length≤d.cells.length∧logRun ((views d).drop l.length) l=logR d) (fun l=>d.cells.length-l.length) ([]) (⟨Nat.zero_le _,(logR_y hd).symm⟩) ⟨rfl,trivial⟩ ⟨rfl,rfl,trivial⟩ ?_
 intro acc hI
 replace hI:acc.length≤d.cells.length∧logRun ((views d).drop acc.length) acc=logR d:=hI
 refine sL<|lbB Z<|nG<|aS ?_
 refine AW.cond rfl ?_ ?_
 ·intro h1
  refine aK<|gT<|aS<|aB<|aS ?_
  have hj:acc.length<d.cells.length:=by have h:=h1;simp only[decide_eq_true_eq]at h;omega
  refine aL<|lmI Z<|laI Z<|nA<|loX (.agg [vL _ _ _,vL _ _ _]) ty.kd34 Z<|lmI Z<|lst (zC [] [] [] Try.func119 (diskRead_e d acc.length hd hj) (trivial) rfl rfl) Z<|lst (zC [] [] [] Try.func118 (sectorRead_e (diskAt d acc.length) (diskAt_ok hb hj) (by rw[diskAt_len hd hj];decide)) (trivial) rfl rfl) Z<|lmX (.tup [.agg [vI _ _,vI _ _,vL _ _ _],vB _]) Z<|lxX (.agg [vI _ _,vI _ _,vL _ _ _]) Z<|lxB Z<|lst (zA 2005 ty.ze92 rfl) Z<|lT [1,2,4,5,9,10,18,19] [1,2,2002,2005] ?_
  refine lst (zB 2005 ty.co92 ty.inf92 Z) Z<|laB Z<|nA<|lmX (.clo _ _ [.ptr 1 _ 0]) Z<|lmI Z<|loX (.agg [vI _ _,vI _ _,vL _ _ _]) ty.kd92 Z<|lmB Z ?_
  refine lst (zC [(1,1),(2,2)] [2] [1] Try.func72 (readC_e g acc (diskAt d acc.length) (by omega)) (⟨stays.box rfl,trivial⟩) rfl rfl) Z<|luB Z<|nG ?_
  refine AW.cond rfl ?_ ?_
  ·intro h2
   refine aR<|rB<|rT<|rT<|rB ?_
   have hg:goesOn acc (diskAt d acc.length)=false:=by simpa using h2
   have hE:goS acc (diskAt d acc.length)=logR d:=by rw[←hI.2,run_n hj hg];exact if_neg (by simp[hg])
   refine end_ret ?_ ⟨rfl,(congrArg sAr hE),trivial⟩
   rfl
  ·intro h2
   refine aK<|gB<|gT<|aL<|lgI Z<|lmI Z<|nG ?_
   have hg:goesOn acc (diskAt d acc.length)=true:=by simpa using h2
   refine⟨(acc++[secC (diskAt d acc.length)]),⟨by rw[List.length_append];exact hj,by rw[←run_y hj hg];exact hI.2⟩,by show d.cells.length-(acc++[secC (diskAt d acc.length)]).length<d.cells.length-acc.length;rw[List.length_append,List.length_singleton];omega,⟨(Eq.trans (b:=int _) rfl (congrArg int (by rw[List.length_append,List.length_singleton];omega))),trivial⟩,⟨rfl,(congrArg sAr (show goS acc (diskAt d acc.length)=acc++[secC (diskAt d acc.length)]from if_pos hg)),trivial⟩,rfl,rfl⟩
 ·intro h1
  refine aE<|eT<|eT<|eB ?_
  have hE:acc=logR d:=by rw[←hI.2];exact(run_e (by have h:=h1;simp only[decide_eq_false_iff_not]at h;omega)).symm
  refine end_go ?_ ⟨rfl,(congrArg sAr hE),trivial⟩
  rfl
theorem logRead_o(d:Disk)(hb:DkB d):GC Try.prog 29 [diskV d] [] (.tup [.own 2,int ((logR d).length:Int)]) [(2,sAr (logR d))]:=by
 refine GC.intro (rs:=[.tmp 2,.tmp 3]) Try.func29 rfl Try.ntmps29 (Nat.le_of_ble_eq_true rfl) ⟨rfl,rfl,trivial⟩ ?_
 intro L O w0
 refine sL<|lst (zX 2001 Z) Z<|laV Z<|laI Z<|nG<|aS<|sL<|loX (.agg [vL _ _ _,vL _ _ _]) ty.kd34 Z<|lst (zC [] [] [] Try.func46 (diskOk_e d) (trivial) Z Z) Z<|luB Z<|nG ?_
 refine AW.cond rfl ?_ ?_
 ·intro h1
  refine sL<|laV Z<|laI Z<|nG ?_
  refine AW.adoptT 2 2 92 3 rfl ?_
  refine aR<|rT ?_
  have hd:diskOk d=false:=by simpa using h1
  rw[logR_n hd]
  refine end_ret ?_ ⟨rfl,trivial⟩
  rfl
 ·intro h1
  refine aK<|gT<|aS ?_
  have hd:diskOk d=true:=by simpa using h1
  refine aL<|lst (zA 1 ty.ze58 Z) Z<|nG<|aS ?_
  refine AW.adoptB 2 1 0 92 3 rfl (by decide) rfl ?_
  refine AW.pinB 1 rfl ?_
  intro g
  refine aL<|loX (.agg [vL _ _ _,vL _ _ _]) ty.kd34 Z<|lq (rd (x:=.clo _ _ [.ptr 1 _ 0]) (rd_mkfL Z) Z) ?_
  refine lst (zC [(1,1),(2,2)] [2] [1] Try.func71 (decRead_e g d hd hb) (⟨stays.box rfl,trivial⟩) rfl rfl) Z<|nG<|aS<|aF []<|sq 0 (roO ty.kd58 rfl)<|sq 1 (roO ty.kd58 rfl)<|sq 2 (rnI ty.sl58 rfl) ?_
  refine AF.slot 13 (int ((logR d).length:Int)) (congrArg (fun n:Nat=>int (n:Int)) (rowsS_len _)) ?_
  refine vq 3 (raO Z)<|vq 4 (raI Z)<|fD<|gT<|aR ?_
  skip
  refine end_ret ?_ ⟨rfl,trivial⟩
  rfl
theorem logRead_e(d:Disk)(hb:DkB d):GC Try.prog 29 [diskV d] [] (.tup [.p (.lst 92 3 (rowsS (logR d))),int ((logR d).length:Int)]) []:=(logRead_o d hb).frz2
theorem logEvents_o(d:Disk)(hb:DkB d):GC Try.prog 20 [diskV d] [] (.own 1) [(1,eAr (logE d))]:=by
 refine gi 2 Try.func20 rfl Try.ntmps20 rfl ?_
 intro L O w0
 refine sL<|lst (zX 2001 Z) Z<|laV Z<|nA<|loX (.agg [vL _ _ _,vL _ _ _]) ty.kd34 Z<|lst (zC [] [] [] Try.func29 (logRead_e d hb) (trivial) Z Z) Z<|lmX (.tup [vL _ _ _,vI _ _]) Z<|lxL Z<|lxI Z<|laL Z<|laI Z<|nA<|laV Z<|nG ?_
 refine AW.adoptT 1 5 40 7 rfl ?_
 refine aS<|sL<|lmL Z<|lnI ty.sl58 Z ?_
 refine AL.slot 16 (int ((logR d).length:Int)) (congrArg (fun n:Nat=>int (n:Int)) (rowsS_len _)) ?_
 refine lmI Z<|nG<|aB ?_
 refine aW [2,15,16] [2001] (D:=Nat) (fun a=>[(17,int (a:Int)),(5,.own 1)]) (fun a=>[(1,eAr (evsOf ((logR d).take a)))]) (fun a=>a≤(logR d).length) (fun a=>(logR d).length-a) (0) (Nat.zero_le _) ⟨rfl,rfl,trivial⟩ ⟨rfl,trivial⟩ ?_
 intro k hI
 replace hI:k≤(logR d).length:=hI
 refine sL<|lbB Z<|nG<|aS ?_
 refine AW.cond rfl ?_ ?_
 ·intro h1
  refine aK<|gT<|aS<|aB<|aS ?_
  have hk:k<(logR d).length:=by have h:=h1;simp only[decide_eq_true_eq]at h;omega
  have hS:=logR_ok hb (List.getElem_mem hk)
  have hL:=logR_len d
  have hEl:=evs_len ((logR d).take k)
  have hTl:((logR d).take k).length≤600:=by rw[List.length_take];omega
  refine aL<|li k ty.el58 Z (rowsS_at hk)<|lrX (.agg [vI _ _,vI _ _,vL _ _ _]) ty.kd92 Z<|lst (zA 2007 ty.ze92 Z) Z<|lT [2,5,7,15,16,17,20] [1,2001,2007] ?_
  refine lst (zB 2007 ty.co92 ty.inf92 rfl) Z<|nA<|lf 2 ty.F92_2 Z<|loL ty.kd56 Z<|lst (zC [] [] [] Try.func58 (bodyEvent_e (logR d)[k].body hS.1 (by have:=hS.2;omega)) (trivial) rfl rfl) Z<|lmX (.tup [.agg [vI _ _,vI _ _,vI _ _,vI _ _,vI _ _,vI _ _,vB _],vB _]) Z<|lxX (.agg [vI _ _,vI _ _,vI _ _,vI _ _,vI _ _,vI _ _,vB _]) Z<|lxB Z<|lst (zA 2008 ty.ze40 rfl) Z<|lst (zB 2008 ty.co40 ty.inf40 rfl) Z<|laB Z<|nA<|lmB Z<|nG ?_
  refine AW.cond rfl ?_ ?_
  ·intro h2
   refine aL<|lmO Z<|loX (.agg [vI _ _,vI _ _,vI _ _,vI _ _,vI _ _,vI _ _,vB _]) ty.kd40 Z<|lst (zS 2030 (rowsOf encEvent [evR (logR d)[k].body]) ty.el46 ty.ze40 Z) Z<|lT [2,5,15,16,17,28,30] [1,2001,2007,2008,2030] ?_
   refine lst (zP 1 ty.el46 ty.ze40 ty.by40 rfl (Src.own rfl rfl) (by simp[rowsOf];omega)) Z<|laO Z<|lN<|gB<|gT<|aL<|lgI Z<|lmI Z<|nG ?_
   refine⟨(k+1),hk,by show (logR d).length-(k+1)<(logR d).length-k;omega,⟨(iq rfl),rfl,trivial⟩,⟨(Eq.trans (b:=AO.arr 40 7 (rowsOf encEvent (evsOf ((logR d).take k))++rowsOf encEvent [evR (logR d)[k].body])) rfl (congrArg (AO.arr 40 7) (Eq.trans (oapp _ _ _).symm (congrArg (rowsOf encEvent) (evs_y hk h2))))),trivial⟩,rfl,rfl⟩
  ·intro h2
   refine aK<|gB<|gT<|aL<|lgI Z<|lmI Z<|nG ?_
   refine⟨(k+1),hk,by show (logR d).length-(k+1)<(logR d).length-k;omega,⟨(iq rfl),rfl,trivial⟩,⟨(congrArg eAr (evs_n hk h2)),trivial⟩,rfl,rfl⟩
 ·intro h1
  refine aE<|eT<|eT<|eB<|gA<|lmO Z<|laO Z<|nG<|aR ?_
  have hk:k=(logR d).length:=by have h:=h1;simp only[decide_eq_false_iff_not]at h;omega
  refine end_ret ?_ ⟨(congrArg (fun l=>eAr (evsOf l)) (List.take_of_length_le (by omega))),trivial⟩
  rfl

abbrev uAr(v:Value)(b:List Int):AO:=.arr ⟨5,some v⟩ 1 (rowsOf encU b)
theorem famC_succ{vs:List Value}{u:Value}{cs:List Cell}{k:Nat}(hk:k<cs.length)(hv:vs.length=k):famB (vs++[u]) (byC (cs.take (k+1)))=famB vs (byC (cs.take k))++[uAr u cs[k].bytes]:=by
 rw[List.take_succ_eq_append_getElem hk,byC,List.map_append]
 exact famB_app (by rw[List.length_map,List.length_take];omega)
theorem famW_succ{A:List AO}{vs:List Value}{u:Value}{cs:List Write}{k:Nat}(hk:k<cs.length)(hv:vs.length=k):A++famB (vs++[u]) (byW (cs.take (k+1)))=A++famB vs (byW (cs.take k))++[uAr u cs[k].bytes]:=by
 rw[List.take_succ_eq_append_getElem hk,byW,List.map_append,List.append_assoc]
 exact congrArg (A++·) (famB_app (by rw[List.length_map,List.length_take];omega))
theorem rowsWV_succ{vs:List Value}{u:Value}{cs:List Write}{k:Nat}(hk:k<cs.length)(hv:vs.length=k):rowsWV vs (cs.take k)++[[.v (.int .i64 cs[k].at_),.v u]]=rowsWV (vs++[u]) (cs.take (k+1)):=by
 rw[List.take_succ_eq_append_getElem hk,rowsWV_app (by rw[List.length_take];omega)]
theorem wv_take_len{vs:List Value}{ws:List Write}{k:Nat}(hv:vs.length=k)(hk:k≤ws.length):(rowsWV vs (ws.take k)).length=k:=by rw[rowsWV_len (by rw[List.length_take];omega),List.length_take];omega
structure DkS(d:Disk):Prop where
 lc:d.cells.length≤2000000
 lw:d.dirty.length≤2000000
 bc:∀c∈d.cells,c.bytes.length≤2000000
 bw:∀w∈d.dirty,w.bytes.length≤2000000
theorem rdDisk{H:Nat→AO}{F:List AO}{a b:Nat}{pa pb:Option Value}{vs us:List Value}{d:Disk}{s:Nat}(hT:Tl H F)(ha:H a=.arr ⟨115,pa⟩ 1 (rowsCV vs))(hb:H b=.arr ⟨123,pb⟩ 2 (rowsWV us d.dirty))(hv:vs.length=d.cells.length)(hu:us.length=d.dirty.length)(hF:∀i,i<(famD vs us d).length→F[s+i]? = (famD vs us d)[i]?):Reads H (.agg [.own a,.own b]) (diskV d):=by
 have l1:(famB vs (byC d.cells)).length=d.cells.length:=by rw[famB_len (by simpa using hv),List.length_map]
 have l2:(famB us (byW d.dirty)).length=d.dirty.length:=by rw[famB_len (by simpa using hu),List.length_map]
 have k1:∀i,i<d.cells.length→F[s+i]? = (famB vs (byC d.cells))[i]?:=fun i hi=>by
  rw[hF i (by unfold famD;rw[List.length_append];omega)];unfold famD;rw[List.getElem?_append_left (by omega)]
 have k2:∀i,i<d.dirty.length→F[s+d.cells.length+i]? = (famB us (byW d.dirty))[i]?:=fun i hi=>by
  rw[Nat.add_assoc,hF (d.cells.length+i) (by unfold famD;rw[List.length_append];omega)];unfold famD;rw[List.getElem?_append_right (by omega)];congr 1;omega
 intro L ρ w c hob hx
 exact Reads.agg (.cons (Reads.own ha (deepCV hT hv k1)) (.cons (Reads.own hb (deepWV hT hu k2)) .nil)) hob hx
theorem famD_len{vs us:List Value}{d:Disk}(hv:vs.length=d.cells.length)(hu:us.length=d.dirty.length):(famD vs us d).length=d.cells.length+d.dirty.length:=by
 unfold famD
 rw[List.length_append,famB_len (by simpa using hv),famB_len (by simpa using hu),List.length_map,List.length_map]
theorem diskRel_f{f:FuncId}{args:List AV}{d:Disk}(h:GN Try.prog f args [] [] (diskRel d)):GC Try.prog f args [] (diskV d) []:=
 (GX.frozen (Z:=fun y=>y=diskV d) (show GX Try.prog f args [] _ from h) fun x ob ⟨l1,F1,hs,hF,hM,e,⟨vs,us,hv,hu,e1,e2,e3⟩⟩=>by
   subst e e1 e2 e3
   refine⟨diskV d,?_,rfl⟩
   have hT:Tl (ofO (obD vs us d++famL 1000000 (famD vs us d))) (famD vs us d):=by rw[ofO_fam rfl];exact Tl.tl hF
   have l1:(famB vs (byC d.cells)).length=d.cells.length:=by rw[famB_len (by simpa using hv),List.length_map]
   exact Still.agg (H:=ofO (obD vs us d++famL 1000000 (famD vs us d))) (.cons (Still.own (id:=1) (e:=⟨115,none⟩) (sz:=1) (rows:=rowsCV vs) rfl (deepCV hT hv (s:=0) fun i hi=>by unfold famD;rw[Nat.zero_add,List.getElem?_append_left (by omega)]))
    (.cons (Still.own (id:=2) (e:=⟨123,none⟩) (sz:=2) (rows:=rowsWV us d.dirty) rfl (deepWV hT hu (s:=d.cells.length) fun i hi=>by unfold famD;rw[List.getElem?_append_right (by omega)];congr 1;omega)) .nil))).mono fun y o ⟨e1,e2⟩=>⟨e2,e1⟩

theorem logE_len(d:Disk):(logE d).length≤600:=by
 have h1:=evs_len (logR d)
 have h2:=logR_len d
 unfold logE
 omega

def A50(n:Int):Prop:=-1125899906842624≤n∧n≤1125899906842624
structure BookSm(x:Book):Prop where
 tick:A50 x.tick
 next:A50 x.next
 wallet:A50 x.wallet
 chans:∀c∈x.chans,A50 c.loc∧A50 c.remote∧A50 c.score∧A50 c.base∧A50 c.ppm
 htlcs:∀h∈x.htlcs,A50 h.amtIn∧A50 h.amtOut∧0≤h.age∧h.age≤1125899906842624∧0≤h.amtOut
 circles:∀c∈x.circles,A50 c.amt∧A50 c.fee
 lc:x.chans.length≤20
 lh:x.htlcs.length≤60
 li:x.circles.length≤20
structure EvSm(e:Event):Prop where
 amt:A50 e.amt
 fee:A50 e.fee
theorem BookSm.hs{x:Book}(h:BookSm x):SmallH x.htlcs:=⟨h.lh,fun y hy=>⟨(h.htlcs y hy).2.2.2.2,(h.htlcs y hy).2.1.2⟩⟩

structure BookFi(x:Book):Prop where
 sm:BookSm x
 ids:x.chans.Pairwise fun a b=>a.id≠b.id
 hks:x.htlcs.Pairwise fun a b=>a.key≠b.key
 iks:x.circles.Pairwise fun a b=>a.key≠b.key
 hch:∀h∈x.htlcs,0≤chanAt x.chans h.inn∧0≤chanAt x.chans h.out∧h.inn≠h.out
 ich:∀h∈x.circles,0≤chanAt x.chans h.frm∧0≤chanAt x.chans h.to∧h.frm≠h.to

abbrev obF(d:Disk):List (Nat×AO):=[(1,.arr 115 1 (rowsC d.cells)),(2,.arr 123 2 (rowsW d.dirty))]
theorem GC.disk{f:FuncId}{args:List AV}{d:Disk}(h:GC Try.prog f args [] oDisk (obF d)):GC Try.prog f args [] (diskV d) []:=
 (GX.frozen (Z:=fun y=>y=diskV d) h fun x ob ⟨h1,h2⟩=>by
   subst h1 h2
   exact⟨_,Still.agg (.cons (Still.row (e:=⟨115,none⟩) (sz:=1) (rows:=rowsC d.cells) rfl) (.cons (Still.row (e:=⟨123,none⟩) (sz:=2) (rows:=rowsW d.dirty) rfl) .nil)),rfl⟩).mono fun y o ⟨e1,e2⟩=>⟨e2,e1⟩

section
variable {α:Type}(n:α→Int)(g:α→Int→α)
def cntG:List α→Int
 |[]=>0
 |x::l=>n x+cntG l
def mkG:List α→Int→List α
 |[],_=>[]
 |x::l,k=>g x k::mkG l (k+n x)
def mkJ(l:List α)(k:Int)(j:Nat):List α:=mkG n g (l.take j) k++l.drop j
def szG:List α→Int→Int
 |[],l=>l
 |x::r,l=>if l-n x<0 then -1 else szG r (l-n x)
variable {n g}
theorem cntG_app:∀ {a b:List α},cntG n (a++b)=cntG n a+cntG n b
 |[],b=>by simp[cntG]
 |x::a,b=>by rw[List.cons_append,cntG,cntG,cntG_app];omega
theorem cntG_nn(h:∀x,0≤n x):∀(l:List α),0≤cntG n l
 |[]=>by simp[cntG]
 |x::l=>by rw[cntG];have:=h x;have:=cntG_nn h l;omega
theorem cntG_mem(h:∀x,0≤n x):∀ {l:List α} {x:α},x∈l→n x≤cntG n l
 |y::l,x,hx=>by
  rw[cntG]
  have:=cntG_nn h l
  rcases List.mem_cons.1 hx with rfl|hx
  ·omega
  ·have:=cntG_mem h hx;have:=h y;omega
theorem cntG_take{l:List α}{j:Nat}(h:j<l.length):cntG n (l.take (j+1))=cntG n (l.take j)+n l[j]:=by
 rw[List.take_succ_eq_append_getElem h,cntG_app];simp[cntG]
theorem cntG_le(h:∀x,0≤n x){l:List α}{j:Nat}:cntG n (l.take j)≤cntG n l:=by
 have e:cntG n l=cntG n (l.take j)+cntG n (l.drop j):=by rw[←cntG_app,List.take_append_drop]
 have:=cntG_nn h (l.drop j)
 omega
theorem mkG_len:∀ {l:List α} {k:Int},(mkG n g l k).length=l.length
 |[],_=>rfl
 |p::ps,k=>by unfold mkG;rw[List.length_cons,List.length_cons,mkG_len]
theorem mkG_app:∀ {a b:List α} {k:Int},mkG n g (a++b) k=mkG n g a k++mkG n g b (k+cntG n a)
 |[],b,k=>by simp[mkG,cntG]
 |p::a,b,k=>by
  rw[List.cons_append,mkG,mkG,mkG_app,cntG,List.cons_append]
  congr 3;omega
theorem mkJ_len{ps:List α}{k:Int}{j:Nat}:(mkJ n g ps k j).length=ps.length:=by unfold mkJ;rw[List.length_append,mkG_len,List.length_take,List.length_drop];omega
theorem mkJ_zero{ps:List α}{k:Int}:mkJ n g ps k 0=ps:=by unfold mkJ;rw[List.take_zero,List.drop_zero];rfl
theorem mkJ_all{ps:List α}{k:Int}:mkJ n g ps k ps.length=mkG n g ps k:=by unfold mkJ;rw[List.take_length,List.drop_length,List.append_nil]
theorem mkJ_at{ps:List α}{k:Int}{j:Nat}(h:j<ps.length):(mkJ n g ps k j)[j]'(by rw[mkJ_len];exact h)=ps[j]:=by
 unfold mkJ
 have hl:(mkG n g (ps.take j) k).length=j:=by rw[mkG_len,List.length_take];omega
 rw[List.getElem_append_right (by omega)]
 simp[hl]
theorem mkJ_succ{ps:List α}{k:Int}{j:Nat}(h:j<ps.length):mkJ n g ps k (j+1)=(mkJ n g ps k j).set j (g ps[j] (k+cntG n (ps.take j))):=by
 unfold mkJ
 have hl:(mkG n g (ps.take j) k).length=j:=by rw[mkG_len,List.length_take];omega
 rw[List.take_succ_eq_append_getElem h,mkG_app,List.set_append_right _ _ (by omega),hl,Nat.sub_self,List.drop_eq_getElem_cons h,List.set_cons_zero,List.append_assoc]
 rfl
theorem szG_lo(h:∀x,0≤n x):∀(l:List α) (x:Int),-1≤x→-1≤szG n l x
 |[],x,hx=>hx
 |y::l,x,hx=>by
  unfold szG
  split
  ·omega
  ·exact szG_lo h l _ (by omega)
theorem szG_y(h:∀x,0≤n x):∀(l:List α) (x:Int),0≤x→0≤szG n l x→cntG n l≤x∧szG n l x=x-cntG n l
 |[],x,hx,_=>by simp[cntG,szG,hx]
 |y::l,x,hx,hs=>by
  unfold szG at hs ⊢
  split at hs
  ·omega
  ·rename_i q
   rw[if_neg q,cntG]
   have:=szG_y h l (x-n y) (by omega) hs
   omega
theorem szG_drop{l:List α}{j:Nat}(h:j<l.length)(x:Int):szG n (l.drop j) x=if x-n l[j]<0 then -1 else szG n (l.drop (j+1)) (x-n l[j]):=by
 rw[List.drop_eq_getElem_cons h];rfl
end
abbrev mCe(c:Cell):Int:=(c.bytes.length:Int)
abbrev mWr(w:Write):Int:=1+(w.bytes.length:Int)
abbrev mBy(w:Write):Int:=(w.bytes.length:Int)
abbrev mkdB(k:Int)(m:Nat):List Int:=mkLs (fun k=>k%256) 1 k m
abbrev gCe(c:Cell)(k:Int):Cell:=⟨mkdB k c.bytes.length⟩
abbrev gWr(w:Write)(k:Int):Write:=⟨k,mkdB (k+1) w.bytes.length⟩
theorem mCe_nn(c:Cell):0≤mCe c:=Int.natCast_nonneg _
theorem mWr_nn(w:Write):0≤mWr w:=by unfold mWr;omega
theorem mBy_nn(w:Write):0≤mBy w:=Int.natCast_nonneg _
def dcnt(d:Disk):Int:=cntG mCe d.cells+cntG mWr d.dirty
def mkDk(d:Disk)(k:Int):Disk:=⟨mkG mCe gCe d.cells k,mkG mWr gWr d.dirty (k+cntG mCe d.cells)⟩
def szB(m:Nat)(l:Int):Int:=if l-(m:Int)<0 then -1 else l-(m:Int)
def szCs(cs:List Cell)(l:Int):Int:=if l-(cs.length:Int)<0 then -1 else szG mCe cs (l-(cs.length:Int))
def szWs(ws:List Write)(l:Int):Int:=if l-(ws.length:Int)<0 then -1 else szG mBy ws (l-(ws.length:Int))
def szD(d:Disk)(l:Int):Int:=if szCs d.cells l<0 then -1 else szWs d.dirty (szCs d.cells l)
theorem szCs_y{cs:List Cell}{l:Int}(h:0≤szCs cs l):(cs.length:Int)+cntG mCe cs≤l∧szCs cs l≤l:=by
 unfold szCs at *
 split at h
 ·omega
 ·rename_i q
  rw[if_neg q]
  have:=szG_y mCe_nn cs _ (by omega) h
  have:=cntG_nn mCe_nn cs
  omega
theorem szWs_y{ws:List Write}{l:Int}(h:0≤szWs ws l):(ws.length:Int)+cntG mBy ws≤l∧szWs ws l≤l:=by
 unfold szWs at *
 split at h
 ·omega
 ·rename_i q
  rw[if_neg q]
  have:=szG_y mBy_nn ws _ (by omega) h
  have:=cntG_nn mBy_nn ws
  omega
theorem szCs_lo(cs:List Cell)(l:Int):-1≤szCs cs l:=by
 unfold szCs
 split
 ·omega
 ·exact szG_lo mCe_nn cs _ (by omega)
theorem szWs_lo(ws:List Write)(l:Int):-1≤szWs ws l:=by
 unfold szWs
 split
 ·omega
 ·exact szG_lo mBy_nn ws _ (by omega)
theorem cntW_B:∀(ws:List Write),cntG mWr ws=(ws.length:Int)+cntG mBy ws
 |[]=>rfl
 |w::ws=>by rw[cntG,cntG,cntW_B ws,List.length_cons];unfold mWr mBy;omega
structure DkZ(d:Disk):Prop where
 lc:d.cells.length≤1048576
 lw:d.dirty.length≤1048576
 bc:∀c∈d.cells,c.bytes.length≤1048576
 bw:∀w∈d.dirty,w.bytes.length≤1048576
 cc:cntG mCe d.cells≤1048576
 cw:cntG mWr d.dirty≤1048576
theorem szD_y{d:Disk}(h:0≤szD d 1048576):DkZ d:=by
 unfold szD at h
 split at h
 ·omega
 ·rename_i q
  have h1:=szCs_y (cs:=d.cells) (l:=1048576) (by omega)
  have h2:=szWs_y h
  have h3:=cntG_nn mCe_nn d.cells
  have h4:=cntG_nn mBy_nn d.dirty
  refine⟨by omega,by omega,fun c hc=>?_,fun w hw=>?_,by omega,by rw[cntW_B];omega⟩
  ·have:(c.bytes.length:Int)≤_:=cntG_mem mCe_nn hc;omega
  ·have:(w.bytes.length:Int)≤_:=cntG_mem mBy_nn hw;omega
theorem famB_put{vs:List Value}{bs:List (List Int)}{j:Nat}{v:Value}{b:List Int}(hv:vs[j]? = some v):famB vs (bs.set j b)=(famB vs bs).set j (.arr ⟨5,some v⟩ 1 (rowsOf encU b)):=by
 unfold famB
 refine List.ext_getElem? fun i=>?_
 rw[List.getElem?_zipWith,List.getElem?_set,List.getElem?_set,List.length_zipWith,List.getElem?_zipWith]
 by_cases q:j=i
 ·subst q
  have hl:=(List.getElem?_eq_some_iff.1 hv).1
  simp only[if_true,hv]
  by_cases z:j<bs.length
  ·rw[if_pos z,if_pos (by omega)]
  ·rw[if_neg z,if_neg (by omega)]
 ·rw[if_neg q,if_neg q]
theorem famC_put{vs:List Value}{cs:List Cell}{j:Nat}{v:Value}{b:List Int}(hv:vs[j]? = some v):famB vs (byC (cs.set j ⟨b⟩))=(famB vs (byC cs)).set j (.arr ⟨5,some v⟩ 1 (rowsOf encU b)):=by
 unfold byC;rw[List.map_set];exact famB_put hv
theorem famW_put{vs:List Value}{ws:List Write}{j:Nat}{v:Value}{w:Write}(hv:vs[j]? = some v):famB vs (byW (ws.set j w))=(famB vs (byW ws)).set j (.arr ⟨5,some v⟩ 1 (rowsOf encU w.bytes)):=by
 unfold byW;rw[List.map_set];exact famB_put hv
theorem rowsWV_set{vs:List Value}{ws:List Write}{j:Nat}{w:Write}{v:Value}(hv:vs[j]? = some v):rowsWV vs (ws.set j w)=(rowsWV vs ws).set j [.v (.int .i64 w.at_),.v v]:=by
 unfold rowsWV
 refine List.ext_getElem? fun i=>?_
 rw[List.getElem?_zipWith,List.getElem?_set,List.getElem?_set,List.length_zipWith,List.getElem?_zipWith]
 by_cases q:j=i
 ·subst q
  have hl:=(List.getElem?_eq_some_iff.1 hv).1
  simp only[if_true,hv]
  by_cases z:j<ws.length
  ·rw[if_pos z,if_pos (by omega)]
  ·rw[if_neg z,if_neg (by omega)]
 ·rw[if_neg q,if_neg q]
theorem rowF.set{F:List AO}{j:Nat}{o:AO}(h:rowF F)(ho:rowO o=true):rowF (F.set j o):=fun x hx=>by
 rcases List.mem_or_eq_of_mem_set hx with q|rfl
 ·exact h x q
 ·exact ho
section
variable {L:Nat→Prop}{ρ:Nat→Value}{H:Nat→AO}
theorem RWR.each{α:Type}{row:α→List PV}{sz:Nat}{rep:World→Nat→Nat→List Value→α→Prop}{w:World}{lo hi b:Nat}(hr:∀cs x,rep w lo hi cs x→cs.length=sz∧∃fp,RWL w false (row x) cs fp)(hs:∀x,(row x).length=sz) :
 ∀ {xs:List α} {off:Nat},Elems sz rep w lo hi b off xs→∃cs fp,RWR w false sz (xs.map row) cs fp∧CellsAt w b off cs∧cs.length=sz*xs.length
 |[],off,_=>⟨[],[],by rw[List.map_nil,RWR];exact⟨rfl,rfl⟩,fun j v hj=>by simp at hj,rfl⟩
 |x::xs,off,h=>by
  obtain⟨cs,h1,h2⟩:=h 0 (by simp)
  obtain⟨hl,fp,h3⟩:=hr cs _ h1
  have ht:Elems sz rep w lo hi b (off+sz) xs:=fun i hi'=>by
   obtain⟨c,k1,k2⟩:=h (i+1) (by simpa using hi')
   refine⟨c,by simpa using k1,?_⟩
   rw[show off+sz+i*sz=off+(i+1)*sz by rw[Nat.add_mul];omega];exact k2
  obtain⟨cs2,fp2,q1,q2,q3⟩:=RWR.each hr hs ht
  refine⟨cs++cs2,fp++fp2,?_,fun j v hj=>?_,by rw[List.length_append,hl,q3,List.length_cons,Nat.mul_add];omega⟩
  ·rw[List.map_cons,RWR]
   exact⟨hs x,cs,cs2,fp,fp2,rfl,rfl,h3,q1⟩
  ·rcases Nat.lt_or_ge j cs.length with z|z
   ·rw[List.getElem?_append_left z]at hj
    have:=h2 j v hj
    simpa using this
   ·rw[List.getElem?_append_right z]at hj
    have:=q2 _ v hj
    rw[hl]at this
    rwa [show off+sz+(j-sz)=off+j by omega]at this
theorem RV.of_slrD{α:Type}{row:α→List PV}{sz:Nat}{rep:World→Nat→Nat→List Value→α→Prop}{w:World}{lo hi:Nat}{v:Value}{xs:List α}{e:TypeId}(h:SlR sz rep w lo hi v xs)(hr:∀cs x,rep w lo hi cs x→cs.length=sz∧∃fp,RWL w false (row x) cs fp)(hs:∀x,(row x).length=sz)
 (hhi:hi≤w.heap.size):∃fp,RW w false (.lst e sz (xs.map row)) v fp:=by
 obtain⟨a,cap,rfl,c1,c2,hsl⟩:=h
 rcases hsl with hz|⟨b,off,rfl,b1,b2,hel⟩
 ·have:xs=[]:=List.length_eq_zero_iff.1 (by simpa using hz)
  subst this
  refine⟨[]++[],?_⟩
  rw[RW]
  refine⟨[],[],[],by rw[List.map_nil,RWR];exact⟨rfl,rfl⟩,?_,rfl⟩
  unfold SlAt
  simp only[Bool.false_eq_true,if_false]
  exact⟨_,_,rfl,by simp,c2,.inl ⟨rfl,trivial⟩⟩
 ·obtain⟨cs,fp,q1,q2,q3⟩:=RWR.each hr hs hel
  refine⟨[b]++fp,?_⟩
  rw[RW]
  refine⟨cs,[b],fp,q1,?_,rfl⟩
  unfold SlAt
  simp only[Bool.false_eq_true,if_false]
  exact⟨_,_,by rw[List.length_map],by rw[List.length_map];exact c1,c2,.inr ⟨b,off,rfl,q2,by omega,rfl⟩⟩
end

theorem eqEvent_e(x:Event):GC Try.prog 59 [.agg [int x.kind,int x.key,int x.ch,int x.to,int x.amt,int x.fee,boo x.yes],.agg [int x.kind,int x.key,int x.ch,int x.to,int x.amt,int x.fee,boo x.yes]] [] (boo true) []:=by
 refine gi 4 Try.func59 rfl Try.ntmps59 rfl ?_
 intro L O w0
 refine sL<|lst (zX 2002 rfl) Z<|lst (zX 2003 rfl) Z<|laZ Z<|nG<|aS<|sL<|lf 0 ty.F40_0 Z<|loI ty.kd3 Z<|lf 0 ty.F40_0 Z<|loI ty.kd3 Z<|lbB Z<|lsB 9 false rfl (by simp)<|nG<|aN Z<|aK<|gT<|aS<|sL<|lf 1 ty.F40_1 Z<|loI ty.kd3 Z<|lf 1 ty.F40_1 Z<|loI ty.kd3 Z<|lbB Z<|lsB 14 false rfl (by simp) ?_
 refine nG<|aN Z<|aK<|gT<|aS<|sL<|lf 2 ty.F40_2 Z<|loI ty.kd3 Z<|lf 2 ty.F40_2 Z<|loI ty.kd3 Z<|lbB Z<|lsB 19 false rfl (by simp)<|nG<|aN Z<|aK<|gT<|aS<|sL<|lf 3 ty.F40_3 Z<|loI ty.kd3 Z<|lf 3 ty.F40_3 Z<|loI ty.kd3 Z<|lbB Z<|lsB 24 false rfl (by simp)<|nG ?_
 refine aN Z<|aK<|gT<|aS<|sL<|lf 4 ty.F40_4 Z<|loI ty.kd3 Z<|lf 4 ty.F40_4 Z<|loI ty.kd3 Z<|lbB Z<|lsB 29 false rfl (by simp)<|nG<|aN Z<|aK<|gT<|aS<|sL<|lf 5 ty.F40_5 Z<|loI ty.kd3 Z<|lT [2,3,4,31] [2002,2003] ?_
 refine lf 5 ty.F40_5 Z<|loI ty.kd3 Z<|lbB Z<|lsB 34 false rfl (by simp)<|nG<|aN Z<|aK<|gT<|aS<|sL<|lf 6 ty.F40_6 Z<|loB ty.kd4 Z<|lf 6 ty.F40_6 Z<|loB ty.kd4 Z<|lq (rd (x:=vB _) (rd_neB rfl rfl rfl Try.underlying4) rfl)<|lsB 39 false rfl (by simp)<|nG<|aN Z<|aK<|gA<|laT Z<|nG<|aR ?_
 refine end_ret ?_ trivial
 rfl
theorem eqEventS_e(l:List Event)(hm:l.length≤1000000000):GC Try.prog 21 [.p (.lst 40 7 (rowsOf encEvent l)),.p (.lst 40 7 (rowsOf encEvent l))] [] (boo true) []:=by
 refine gi 4 Try.func21 rfl Try.ntmps21 rfl ?_
 intro L O w0
 refine sL<|laZ Z<|nG<|aS<|sL<|lmL Z<|lnI ty.sl46 Z<|lmL Z<|lnI ty.sl46 Z<|lbB Z<|lsB 10 false rfl (by simp)<|nG<|aN Z<|aK<|gT<|aS<|sL<|laI Z<|nG<|aB ?_
 refine aW [0,1,4] [] (D:=Nat) (fun k=>[(5,int (k:Int))]) (fun k=>[]) (fun k=>k≤l.length) (fun k=>l.length-k) (0) (Nat.zero_le _) ⟨rfl,trivial⟩ trivial ?_
 intro k hI
 refine aS<|sL<|lmI Z<|lmL Z<|lnI ty.sl46 Z<|lbB Z<|nG ?_
 refine AW.cond rfl ?_ ?_
 ·intro h1
  refine aK<|gT<|aS<|aB<|aS<|aF []<|pq 0 (qmL Z)<|pq 1 (qmX (vI _ _) Z) ?_
  have hk:k<l.length:=by simpa[length_rowsOf]using h1
  refine sq 2 (ri k ty.el46 Z (row_map hk))<|sq 3 (rrX (.agg [vI _ _,vI _ _,vI _ _,vI _ _,vI _ _,vI _ _,vB _]) ty.kd40 Z)<|pq 4 (qmL Z)<|vq 5 (rmI Z) ?_
  have hk:k<l.length:=by simpa[length_rowsOf]using h1
  refine vq 6 (ri k ty.el46 Z (row_map hk))<|vq 7 (rrX (.agg [vI _ _,vI _ _,vI _ _,vI _ _,vI _ _,vI _ _,vB _]) ty.kd40 Z)<|vst 8 Z (zL Try.func59 (eqEvent_e _) Z) (.inr Z)<|fT [0,1,4,5,25] [] ?_
  refine vq 9 (ruZ rfl)<|fsB 26 false rfl (by simp)<|fD<|gT<|aN Z<|aK<|gB<|gT<|aL<|lmI Z<|lgI Z<|laI Z<|nG ?_
  refine⟨k+1,hk,by omega,⟨(iq rfl),trivial⟩,trivial,rfl,rfl⟩
 ·intro h1
  refine aE<|eT<|eT<|eB<|gA<|laT Z<|nG<|aR ?_
  refine end_ret ?_ trivial
  rfl

def mk1Event(k:Int):Event:=⟨k,k+1,k+2,k+3,k+4,k+5,decide ((k+6).tmod 3=0)⟩
abbrev mkdEvent(k:Int)(m:Nat):List Event:=mkLs mk1Event 7 k m
theorem markEventS_e(u:Value)(l:List Event)(k:Int)(hm:l.length≤100000000)(hk:0≤k∧k≤1000000000000):GC Try.prog 24 [.own 0,int k] [(0,.arr ⟨40,some u⟩ 7 (rowsOf encEvent l))] (int (k+7*(l.length:Int))) [(0,.arr ⟨40,some u⟩ 7 (rowsOf encEvent (mkdEvent k l.length)))]:=by
 refine gi 4 Try.func24 rfl Try.ntmps24 rfl ?_
 intro L O w0
 refine sL<|laI Z<|nG<|aS<|sL<|laI Z<|nG<|aB ?_
 refine aW [0,4] [] (D:=Nat) (fun j=>[(5,int (j:Int)),(1,int (k+7*(j:Int)))]) (fun j=>[(0,.arr ⟨40,some u⟩ 7 (rowsOf encEvent (mkdEvent k j++l.drop j)))]) (fun j=>j≤l.length) (fun j=>l.length-j) (0) (Nat.zero_le _) ⟨rfl,(congrArg int (by omega)),trivial⟩ ⟨rfl,trivial⟩ ?_
 intro j hI
 refine aS<|sL<|lmI Z<|lmO Z<|lnI ty.sl46 Z<|lbB Z<|nG ?_
 refine AW.cond rfl ?_ ?_
 ·intro h1
  refine aK<|gT<|aS<|aB<|aS ?_
  have hj:j<l.length:=by have h:=h1;simp[length_rowsOf,mkLs_len]at h;omega
  refine aL<|lmO Z<|lmI Z<|lmI Z<|lq (rj j ty.el46 rfl (by simp[length_rowsOf,mkLs_len];omega))<|lf 0 ty.F40_0 Z<|lst (zQ 0 [.v (.int .i64 (k+7*(j:Int)))] ty.co3 ty.inf3 rfl (rows_some (marked_get mkLs_len hj))) Z<|nA<|lmI Z<|lgI Z<|lsN 18 (k+7*(j:Int)+1) rfl (by omega)<|laI Z<|nA<|lmO Z<|lmI Z<|lmI Z<|lq (rj j ty.el46 rfl (by simp[length_rowsOf,mkLs_len];omega))<|lf 1 ty.F40_1 Z<|lst (zQ 0 [.v (.int .i64 (k+7*(j:Int)+1))] ty.co3 ty.inf3 rfl (List.getElem?_set_self (by simp[length_rowsOf,mkLs_len];omega))) Z<|lT [0,1,4,5] [0] ?_
  refine nA<|lmI Z<|lgI Z<|lsN 25 (k+7*(j:Int)+2) rfl (by omega)<|laI Z<|nA<|lmO Z<|lmI Z<|lmI Z<|lq (rj j ty.el46 rfl (by simp[length_rowsOf,mkLs_len];omega))<|lf 2 ty.F40_2 Z<|lst (zQ 0 [.v (.int .i64 (k+7*(j:Int)+2))] ty.co3 ty.inf3 rfl (List.getElem?_set_self (by simp[length_rowsOf,mkLs_len];omega))) Z<|nA<|lmI Z<|lgI Z<|lsN 32 (k+7*(j:Int)+3) rfl (by omega)<|laI Z<|nA ?_
  refine lmO Z<|lmI Z<|lmI Z<|lq (rj j ty.el46 rfl (by simp[length_rowsOf,mkLs_len];omega))<|lf 3 ty.F40_3 Z<|lst (zQ 0 [.v (.int .i64 (k+7*(j:Int)+3))] ty.co3 ty.inf3 rfl (List.getElem?_set_self (by simp[length_rowsOf,mkLs_len];omega))) Z<|lT [0,1,4,5] [0] ?_
  refine nA<|lmI Z<|lgI Z<|lsN 39 (k+7*(j:Int)+4) rfl (by omega)<|laI Z<|nA<|lmO Z<|lmI Z<|lmI Z<|lq (rj j ty.el46 rfl (by simp[length_rowsOf,mkLs_len];omega))<|lf 4 ty.F40_4 Z<|lst (zQ 0 [.v (.int .i64 (k+7*(j:Int)+4))] ty.co3 ty.inf3 rfl (List.getElem?_set_self (by simp[length_rowsOf,mkLs_len];omega))) Z<|nA<|lmI Z<|lgI Z<|lsN 46 (k+7*(j:Int)+5) rfl (by omega)<|laI Z<|nA ?_
  refine lmO Z<|lmI Z<|lmI Z<|lq (rj j ty.el46 rfl (by simp[length_rowsOf,mkLs_len];omega))<|lf 5 ty.F40_5 Z<|lst (zQ 0 [.v (.int .i64 (k+7*(j:Int)+5))] ty.co3 ty.inf3 rfl (List.getElem?_set_self (by simp[length_rowsOf,mkLs_len];omega))) Z<|lT [0,1,4,5] [0] ?_
  refine nA<|lmI Z<|lgI Z<|lsN 53 (k+7*(j:Int)+6) rfl (by omega)<|laI Z<|nA<|lmO Z<|lmI Z<|lmI rfl ?_
  refine lhI rfl ⟨rfl,by decide⟩<|lbB Z<|lq (rj j ty.el46 rfl (by simp[length_rowsOf,mkLs_len];omega))<|lf 6 ty.F40_6 Z<|lst (zQ 0 [.v (.bool (decide ((k+7*(j:Int)+6).tmod 3=0)))] ty.co4 ty.inf4 rfl (List.getElem?_set_self (by simp[length_rowsOf,mkLs_len];omega))) Z<|nG ?_
  refine AW.obj 0 (.arr ⟨40,some u⟩ 7 ((rowsOf encEvent (mkdEvent k j++l.drop j)).set j [.v (.int .i64 (k+7*(j:Int))),.v (.int .i64 (k+7*(j:Int)+1)),.v (.int .i64 (k+7*(j:Int)+2)),.v (.int .i64 (k+7*(j:Int)+3)),.v (.int .i64 (k+7*(j:Int)+4)),.v (.int .i64 (k+7*(j:Int)+5)),.v (.bool (decide ((k+7*(j:Int)+6).tmod 3=0)))])) (by show AO.arr _ _ (List.set (List.set (List.set (List.set (List.set (List.set (List.set _ _ _) _ _) _ _) _ _) _ _) _ _) _ _)=_;simp only[List.set_set];rfl) ?_
  refine aL<|lmI Z<|lgI Z<|lsN 62 (k+7*(j:Int)+7) rfl (by omega)<|laI Z<|lN<|gB<|gT<|aL<|lmI Z<|lgI Z<|laI Z<|nG ?_
  refine⟨j+1,hj,by omega,⟨(iq rfl),(iq rfl),trivial⟩,⟨(Eq.trans (b:=AO.arr ⟨40,some u⟩ 7 ((rowsOf encEvent (mkdEvent k j++l.drop j)).set j ((encEvent (mk1Event (k+7*(j:Int)))).map PV.v))) rfl (congrArg (AO.arr ⟨40,some u⟩ 7) (rows_set.trans (congrArg (rowsOf encEvent) (marked_set mkLs_len mkLs_succ hj))))),trivial⟩,rfl,rfl⟩
 ·intro h1
  refine aE<|eT<|eT<|eB<|gA<|lmI Z<|laI Z<|nG<|aR ?_
  have hje:j=l.length:=by have h:=h1;simp[length_rowsOf,mkLs_len]at h;omega
  refine end_ret ?_ ⟨(congrArg (fun q=>AO.arr ⟨40,some u⟩ 7 (rowsOf encEvent q)) (by rw[hje,List.drop_length,List.append_nil])),trivial⟩
  rw[hje]
  try rfl
theorem heldEventS_e(m:Nat)(k:Int)(hm:m≤100000000)(hk:0≤k∧k≤1000000000000):GC Try.prog 25 [.p (.lst 40 7 (rowsOf encEvent (mkdEvent k m))),int k] [] (int (k+7*(m:Int))) []:=by
 refine gi 4 Try.func25 rfl Try.ntmps25 rfl ?_
 intro L O w0
 refine sL<|laI Z<|nG<|aS<|sL<|laI Z<|nG<|aB ?_
 refine aW [0,4] [] (D:=Nat) (fun j=>[(5,int (j:Int)),(1,int (k+7*(j:Int)))]) (fun j=>[]) (fun j=>j≤m) (fun j=>m-j) (0) (Nat.zero_le _) ⟨rfl,(congrArg int (by omega)),trivial⟩ trivial ?_
 intro j hI
 refine aS<|sL<|lmI Z<|lmL Z<|lnI ty.sl46 Z<|lbB Z<|nG ?_
 refine AW.cond rfl ?_ ?_
 ·intro h1
  refine aK<|gT<|aS<|aB<|aS<|aS ?_
  have hj:j<m:=by have h:=h1;simp[length_rowsOf,mkLs_len]at h;omega
  refine aL<|lmL Z<|lmI Z<|li j ty.el46 rfl (rows_some (mkLs_get hj))<|lq (rd (x:=.rp _) (zfr ty.F40_0 rfl) rfl)<|lrI ty.kd3 Z<|lmI Z<|lbB Z<|lsB 18 false rfl (by unfold mk1Event;simp)<|nG<|aN Z<|aK<|gA<|lmI Z<|lgI Z<|lsN 20 (k+7*(j:Int)+1) rfl (by omega)<|laI Z<|nG<|aS<|sL<|lmL Z<|lmI Z<|li j ty.el46 rfl (rows_some (mkLs_get hj))<|lq (rd (x:=.rp _) (zfr ty.F40_1 rfl) rfl)<|lrI ty.kd3 rfl ?_
  refine lmI Z<|lbB Z<|lsB 27 false rfl (by unfold mk1Event;simp)<|nG<|aN Z<|aK<|gA<|lmI Z<|lgI Z<|lsN 29 (k+7*(j:Int)+2) rfl (by omega)<|laI Z<|nG<|aS<|sL<|lmL Z<|lmI Z<|li j ty.el46 rfl (rows_some (mkLs_get hj))<|lq (rd (x:=.rp _) (zfr ty.F40_2 rfl) rfl)<|lT [0,1,4,5,33] [] ?_
  refine lrI ty.kd3 Z<|lmI Z<|lbB Z<|lsB 36 false rfl (by unfold mk1Event;simp)<|nG<|aN Z<|aK<|gA<|lmI Z<|lgI Z<|lsN 38 (k+7*(j:Int)+3) rfl (by omega)<|laI Z<|nG<|aS<|sL<|lmL Z<|lmI Z<|li j ty.el46 rfl (rows_some (mkLs_get hj))<|lq (rd (x:=.rp _) (zfr ty.F40_3 rfl) rfl)<|lrI ty.kd3 Z<|lmI Z<|lbB Z<|lsB 45 false rfl (by unfold mk1Event;simp)<|nG ?_
  refine aN Z<|aK<|gA<|lmI Z<|lgI Z<|lsN 47 (k+7*(j:Int)+4) rfl (by omega)<|laI Z<|nG<|aS<|sL<|lmL Z<|lmI Z<|li j ty.el46 rfl (rows_some (mkLs_get hj))<|lq (rd (x:=.rp _) (zfr ty.F40_4 rfl) rfl)<|lrI ty.kd3 Z<|lmI Z<|lbB Z<|lsB 54 false rfl (by unfold mk1Event;simp)<|nG<|aN Z<|aK<|gA<|lmI rfl ?_
  refine lgI Z<|lsN 56 (k+7*(j:Int)+5) rfl (by omega)<|laI Z<|nG<|aS<|sL<|lmL Z<|lmI Z<|li j ty.el46 rfl (rows_some (mkLs_get hj))<|lq (rd (x:=.rp _) (zfr ty.F40_5 rfl) rfl)<|lT [0,1,4,5,60] [] ?_
  refine lrI ty.kd3 Z<|lmI Z<|lbB Z<|lsB 63 false rfl (by unfold mk1Event;simp)<|nG<|aN Z<|aK<|gA<|lmI Z<|lgI Z<|lsN 65 (k+7*(j:Int)+6) rfl (by omega)<|laI Z<|nG<|aS<|sL<|lmL Z<|lmI Z<|li j ty.el46 rfl (rows_some (mkLs_get hj))<|lq (rd (x:=.rp _) (zfr ty.F40_6 rfl) rfl)<|lrB ty.kd4 Z<|lmI rfl ?_
  refine lhI rfl ⟨rfl,by decide⟩<|lbB Z<|lq (rd (x:=vB _) (rd_neB rfl rfl rfl Try.underlying4) rfl)<|lsB 74 false rfl (by unfold mk1Event;simp)<|nG<|aN Z<|aK<|gT<|aL<|lmI Z<|lgI Z<|lsN 76 (k+7*(j:Int)+7) rfl (by omega)<|laI Z<|lN<|gB<|gT<|aL<|lmI Z<|lgI Z<|laI Z<|nG ?_
  refine⟨j+1,hj,by omega,⟨(iq rfl),(iq rfl),trivial⟩,trivial,rfl,rfl⟩
 ·intro h1
  refine aE<|eT<|eT<|eB<|gA<|lmI Z<|laI Z<|nG<|aR ?_
  have hje:j=m:=by have h:=h1;simp[length_rowsOf,mkLs_len]at h;omega
  refine end_ret ?_ trivial
  rw[hje]
  try rfl

abbrev ldiskV(d:Disk):AV:=.agg [.p (.lst 149 1 (rowsC d.cells)),.p (.lst 151 2 (rowsW d.dirty))]
theorem toByteS_o(b:List Int)(hl:b.length≤1048576):GC Try.prog 137 [byV b] [] (.own 1) [(1,yAr b)]:=by
 refine gi 2 Try.func137 rfl Try.ntmps137 rfl ?_
 intro L O w0
 refine sL<|laV Z<|nA<|lmL Z<|lnI ty.sl56 Z<|lst (St.make 1 (m:=b.length) rfl rfl (by decide) ty.el56 ty.ze5 rfl rfl rfl ?hn1 ?hn2 (Nat.le_trans (Nat.mul_le_mul_right _ ty.by5) (by omega)) (by unfold maxLen;omega)) rfl ?_
 case hn1=>rw[length_rowsOf]
 case hn2=>rw[length_rowsOf]
 refine laO Z<|nG<|aS<|sL<|laI Z<|nG<|aB ?_
 refine aW [0,2,3] [] (D:=Nat) (fun k=>[(4,int (k:Int))]) (fun k=>[(1,.arr 5 1 (fill (rowsOf encU b) [.v (.int .u8 0)] k))]) (fun k=>k≤b.length) (fun k=>b.length-k) (0) (Nat.zero_le _) ⟨rfl,trivial⟩ ⟨(congrArg (fun q=>AO.arr 5 1 q) (by rw[fill_zero,length_rowsOf];rfl)),trivial⟩ ?_
 intro k hI
 refine aS<|sL<|lmI Z<|lmL Z<|lnI ty.sl56 Z<|lbB Z<|nG ?_
 refine AW.cond rfl ?_ ?_
 ·intro h1
  refine aK<|gT<|aS<|aB ?_
  have hk:k<b.length:=by have h:=h1;simp only[length_rowsOf,decide_eq_true_eq]at h;omega
  refine aL<|lmO Z<|lmI Z<|lmL Z<|lmI Z<|li k ty.el56 rfl (row_map hk)<|lrI ty.kd5 Z<|lq (rj k ty.el56 rfl (by rw[fill_len _ (by rw[length_rowsOf];omega),length_rowsOf];exact hk))<|lst (zQ 1 [.v (.int .u8 b[k])] ty.co5 ty.inf5 rfl (fill_get (by rw[length_rowsOf];exact hk))) Z<|lT [0,2,3,4] [1] ?_
  refine lN<|gB<|gT<|aL<|lmI Z<|lgI Z<|laI Z<|nG ?_
  refine⟨k+1,hk,by omega,⟨(iq rfl),trivial⟩,⟨(Eq.trans (b:=AO.arr 5 1 ((fill (rowsOf encU b) [.v (.int .u8 0)] k).set k ((encU b[k]).map PV.v))) rfl (congrArg (fun q=>AO.arr 5 1 q) (fill_set (row_map hk)))),trivial⟩,rfl,rfl⟩
 ·intro h1
  refine aE<|eT<|eT<|eB<|gA<|lmO Z<|laO Z<|nG<|aR ?_
  refine end_ret ?_ ⟨(congrArg (fun q=>AO.arr 5 1 q) (by have h:=h1;simp only[length_rowsOf,decide_eq_false_iff_not]at h;rw[show k=(rowsOf encU b).length by rw[length_rowsOf];omega,fill_all])),trivial⟩
  rfl
theorem toByteS_n(b:List Int)(hl:b.length≤1048576):GN Try.prog 137 [byV b] [] [] (oneR 5 1 (rowsOf encU b)):=(toByteS_o b hl).fam1 flat_rowsOf
def cellR(c:Cell):AV→List (Nat×AO)→List AO→Prop:=fun y l1 F1=>∃u,y=.agg [.p (.v u)]∧l1=[]∧F1=[uAr u c.bytes]
def writeR(c:Write):AV→List (Nat×AO)→List AO→Prop:=fun y l1 F1=>∃u,y=.agg [int c.at_,.p (.v u)]∧l1=[]∧F1=[uAr u c.bytes]
theorem nil_rows{vs:List Value}{n k:Nat}{z c:List PV}(hv:vs.length=k)(hk:k<n):(rowsCV vs++List.replicate (n-k) z).set k c=rowsCV vs++[c]++List.replicate (n-(k+1)) z:=by
 rw[List.set_append_right _ _ (by rw[rowsCV_len];omega),rowsCV_len,hv,Nat.sub_self,show n-k=(n-(k+1))+1 by omega,List.replicate_succ,List.set_cons_zero,List.append_assoc];rfl
theorem nil_rowsW{vs:List Value}{ws:List Write}{n k:Nat}{z c:List PV}(hv:(rowsWV vs ws).length=k)(hk:k<n):(rowsWV vs ws++List.replicate (n-k) z).set k c=rowsWV vs ws++[c]++List.replicate (n-(k+1)) z:=by
 rw[List.set_append_right _ _ (by omega),hv,Nat.sub_self,show n-k=(n-(k+1))+1 by omega,List.replicate_succ,List.set_cons_zero,List.append_assoc];rfl
theorem toCell_n(c:Cell)(hl:c.bytes.length≤1048576):GN Try.prog 105 [.agg [byV c.bytes]] [] ([]) (cellR c):=by
 refine GN.intro (rs:=[.cell 2 115 (some 1)]) Try.func105 rfl Try.ntmps105 (Nat.le_of_ble_eq_true rfl) ⟨rfl,rfl,ty.kd115,trivial⟩ rfl ?_
 intro L O w0
 refine sL<|lst (zX 2001 Z) Z<|lst (zA 2002 ty.ze115 Z) Z<|nA<|lst (zA 2003 ty.ze115 Z) Z<|nA<|lf 0 ty.F149_0 Z<|loL ty.kd56 Z ?_
 refine AL.stx (StX.callN (F:=[]) [] [] [] ([]).length Try.func137 (toByteS_n c.bytes hl) tlp List.drop_length List.take_length (Nat.le_refl _) ((by simp)) (fun _ _ _ _=>trivial) rfl rfl) rfl ?_
 rintro _ _ ⟨xz1,oz1,Fz1,hz1,hF1,hM1,rfl,rfl⟩
 obtain⟨u1,rfl,rfl,rfl⟩:=hz1
 have hrf1:rowF ([]++[uAr u1 c.bytes]):=rowF.app (by first|assumption|exact rowF.nil) hF1
 refine lf 0 ty.F115_0 Z<|lst (zB 2003 ty.co56 ty.inf56 Z) Z<|nA<|loX (.agg [vV _]) ty.kd115 Z<|lst (zB 2002 ty.co115 ty.inf115 Z) Z<|nG<|aR ?_
 skip
 refine end_nret (F1:=([]++[uAr u1 c.bytes])) (.agg [.p (.v u1)]) ([]) ?_ (by simp) rfl rfl trivial tlp
 exact⟨u1,rfl,rfl,rfl⟩
theorem toWrite_n(c:Write)(hl:c.bytes.length≤1048576):GN Try.prog 106 [.agg [int c.at_,byV c.bytes]] [] ([]) (writeR c):=by
 refine GN.intro (rs:=[.cell 2 123 (some 2)]) Try.func106 rfl Try.ntmps106 (Nat.le_of_ble_eq_true rfl) ⟨rfl,rfl,ty.kd123,trivial⟩ rfl ?_
 intro L O w0
 refine sL<|lst (zX 2001 Z) Z<|lst (zA 2002 ty.ze123 Z) Z<|nA<|lst (zA 2003 ty.ze123 Z) Z<|nA<|lf 0 ty.F151_0 Z<|loI ty.kd3 Z<|lf 0 ty.F123_0 Z<|lst (zB 2003 ty.co3 ty.inf3 Z) Z<|nA<|lf 1 ty.F151_1 Z<|loL ty.kd56 Z ?_
 refine AL.stx (StX.callN (F:=[]) [] [] [] ([]).length Try.func137 (toByteS_n c.bytes hl) tlp List.drop_length List.take_length (Nat.le_refl _) ((by simp)) (fun _ _ _ _=>trivial) rfl rfl) rfl ?_
 rintro _ _ ⟨xz1,oz1,Fz1,hz1,hF1,hM1,rfl,rfl⟩
 obtain⟨u1,rfl,rfl,rfl⟩:=hz1
 have hrf1:rowF ([]++[uAr u1 c.bytes]):=rowF.app (by first|assumption|exact rowF.nil) hF1
 refine lf 1 ty.F123_1 Z<|lst (zB 2003 ty.co56 ty.inf56 Z) Z<|nA<|loX (.agg [vI _ _,vV _]) ty.kd123 Z<|lst (zB 2002 ty.co123 ty.inf123 Z) Z ?_
 refine lTt (([]++[uAr u1 c.bytes])) [2] [2001,2002,2003] ?_
 refine nG<|aR ?_
 skip
 refine end_nret (F1:=([]++[uAr u1 c.bytes])) (.agg [int c.at_,.p (.v u1)]) ([]) ?_ (by simp) rfl rfl trivial tlp
 exact⟨u1,rfl,rfl,rfl⟩
def cellsR(cs:List Cell):AV→List (Nat×AO)→List AO→Prop:=fun y l1 F1=>∃vs:List Value,vs.length=cs.length∧y=.own 1∧l1=[(1,.arr 115 1 (rowsCV vs))]∧F1=famB vs (byC cs)
def writesR(ws:List Write):AV→List (Nat×AO)→List AO→Prop:=fun y l1 F1=>∃vs:List Value,vs.length=ws.length∧y=.own 1∧l1=[(1,.arr 123 2 (rowsWV vs ws))]∧F1=famB vs (byW ws)
theorem toCellS_n(cs:List Cell)(hm:cs.length≤1048576)(hb:∀c∈cs,c.bytes.length≤1048576):GN Try.prog 56 [.p (.lst 149 1 (rowsC cs))] [] ([]) (cellsR cs):=by
 refine GN.intro (rs:=[.tmp 2]) Try.func56 rfl Try.ntmps56 (Nat.le_of_ble_eq_true rfl) ⟨rfl,trivial⟩ rfl ?_
 intro L O w0
 refine sL<|laV Z<|nA<|lmL Z<|lnI ty.sl22 Z ?_
 refine AL.slot 6 (int (cs.length:Int)) (congrArg (fun n:Nat=>int (n:Int)) (rowsC_len _)) ?_
 refine lst (St.make 1 (m:=cs.length) rfl rfl (by decide) ty.el31 ty.ze115 rfl rfl rfl rfl rfl (Nat.le_trans (Nat.mul_le_mul_right _ ty.by115) (by omega)) (by unfold maxLen;omega)) Z<|laO Z<|nG<|aS<|sL<|laI Z<|nG<|aB ?_
 refine AW.loopT (D:=Nat×List Value) [(0,vL _ _ _),(2,vV _),(3,.own _)] [] (fun a=>[(4,int (a.1:Int))]) (fun a=>[(1,.arr 115 1 (rowsCV a.2++List.replicate (cs.length-a.1) [PV.v (.slice none 0 0)]))]) (fun a=>famB a.2 (byC (cs.take a.1))) (fun a=>a.1≤cs.length∧a.2.length=a.1) (fun a=>cs.length-a.1) ((0,[])) (⟨Nat.zero_le _,rfl⟩) ⟨rfl,trivial⟩ ⟨rfl,trivial⟩ ⟨rfl,rfl,rfl,trivial⟩ trivial (by rw[List.take_zero];exact tlp) ?_
 intro ⟨k,vs⟩ hI
 obtain⟨hkl,hvl⟩:=hI
 replace hkl:k≤cs.length:=hkl
 replace hvl:vs.length=k:=hvl
 have hfr:rowF (famB vs (byC (cs.take k))):=famB_row
 have hfl:(famB vs (byC (cs.take k))).length=k:=by rw[famB_len (by rw[List.length_map,List.length_take];omega),List.length_map,List.length_take];omega
 refine aS<|sL<|lmI Z<|lmL Z<|lnI ty.sl22 Z ?_
 refine AL.slot 10 (int (cs.length:Int)) (congrArg (fun n:Nat=>int (n:Int)) (rowsC_len _)) ?_
 refine lbB Z<|nG ?_
 refine AW.cond rfl ?_ ?_
 ·intro h1
  refine aK<|gT<|aS<|aB ?_
  have hk:k<cs.length:=by have h:=h1;simp only[decide_eq_true_eq]at h;omega
  refine aL<|lmO Z<|lmI Z<|lmL Z<|lmI Z<|li k ty.el22 Z (rowsC_at hk)<|lrX (.agg [vL _ _ _]) ty.kd149 Z ?_
  refine AL.stx (StX.callN (F:=famB vs (byC (cs.take k))) [] [] [] (famB vs (byC (cs.take k))).length Try.func105 (toCell_n cs[k] (hb _ (List.getElem_mem hk))) tlp List.drop_length List.take_length (Nat.le_refl _) ((by rw[hfl];omega)) (fun _ _ _ _=>trivial) rfl rfl) rfl ?_
  rintro _ _ ⟨xz1,oz1,Fz1,hz1,hF1,hM1,rfl,rfl⟩
  obtain⟨u1,rfl,rfl,rfl⟩:=hz1
  have hrf1:rowF (famB vs (byC (cs.take k))++[uAr u1 cs[k].bytes]):=rowF.app (by first|assumption|exact rowF.nil) hF1
  refine lTt ((famB vs (byC (cs.take k))++[uAr u1 cs[k].bytes])) [0,2,3,4,14,15,20] [1] ?_
  refine lq (rj k ty.el31 rfl (by show k<(rowsCV vs++List.replicate (cs.length-k) [PV.v (.slice none 0 0)]).length;rw[List.length_append,rowsCV_len,List.length_replicate];omega))<|lst (zQ 1 [.v u1] ty.co115 ty.inf115 rfl ((show (rowsCV vs++List.replicate (cs.length-k) [PV.v (.slice none 0 0)])[k]? = _ by rw[List.getElem?_append_right (by rw[rowsCV_len];omega),rowsCV_len,hvl,Nat.sub_self,List.getElem?_replicate,if_pos (by omega)]))) Z<|lN<|gB<|gT<|aL<|lmI Z<|lgI Z<|laI Z<|nG ?_
  refine⟨(k+1,vs++[u1]),⟨hk,by rw[List.length_append,hvl];rfl⟩,by show cs.length-(k+1)<cs.length-k;omega,⟨(iq rfl),trivial⟩,⟨(Eq.trans (b:=AO.arr 115 1 ((rowsCV vs++List.replicate (cs.length-k) [PV.v (.slice none 0 0)]).set k [.v u1])) rfl (congrArg (AO.arr 115 1) (by rw[nil_rows hvl hk,rowsCV_app]))),trivial⟩,⟨rfl,rfl,rfl,trivial⟩,trivial,(by rw[famC_succ hk hvl];exact tlp)⟩
 ·intro h1
  refine aE<|eT<|eT<|eB<|gT<|aS ?_
  have hke:k=cs.length:=by have h:=h1;simp only[decide_eq_false_iff_not]at h;omega
  subst hke
  rw[List.take_length]at hfr hfl ⊢
  refine AW.obj 1 (.arr 115 1 (rowsCV vs)) (congrArg (AO.arr 115 1) (by rw[show ((cs.length,vs):Nat×List Value).1=cs.length from rfl,Nat.sub_self];simp)) ?_
  refine aL<|lmO Z<|laO Z<|nG<|aR ?_
  skip
  refine end_nret (F1:=(famB vs (byC cs))) (.own 1) ([(1,.arr 115 1 (rowsCV vs))]) ?_ (by rw[hfl];omega) rfl rfl ⟨rfl,trivial⟩ tlp
  exact⟨vs,hvl,rfl,rfl,rfl⟩
theorem toWriteS_n(ws:List Write)(hm:ws.length≤1048576)(hb:∀c∈ws,c.bytes.length≤1048576):GN Try.prog 57 [.p (.lst 151 2 (rowsW ws))] [] ([]) (writesR ws):=by
 refine GN.intro (rs:=[.tmp 2]) Try.func57 rfl Try.ntmps57 (Nat.le_of_ble_eq_true rfl) ⟨rfl,trivial⟩ rfl ?_
 intro L O w0
 refine sL<|laV Z<|nA<|lmL Z<|lnI ty.sl23 Z ?_
 refine AL.slot 6 (int (ws.length:Int)) (congrArg (fun n:Nat=>int (n:Int)) (rowsW_len _)) ?_
 refine lst (St.make 1 (m:=ws.length) rfl rfl (by decide) ty.el32 ty.ze123 rfl rfl rfl rfl rfl (Nat.le_trans (Nat.mul_le_mul_right _ ty.by123) (by omega)) (by unfold maxLen;omega)) Z<|laO Z<|nG<|aS<|sL<|laI Z<|nG<|aB ?_
 refine AW.loopT (D:=Nat×List Value) [(0,vL _ _ _),(2,vV _),(3,.own _)] [] (fun a=>[(4,int (a.1:Int))]) (fun a=>[(1,.arr 123 2 (rowsWV a.2 (ws.take a.1)++List.replicate (ws.length-a.1) [PV.v (.int .i64 0),PV.v (.slice none 0 0)]))]) (fun a=>[]++famB a.2 (byW (ws.take a.1))) (fun a=>a.1≤ws.length∧a.2.length=a.1) (fun a=>ws.length-a.1) ((0,[])) (⟨Nat.zero_le _,rfl⟩) ⟨rfl,trivial⟩ ⟨rfl,trivial⟩ ⟨rfl,rfl,rfl,trivial⟩ trivial (by rw[List.take_zero];exact tlp) ?_
 intro ⟨k,vs⟩ hI
 obtain⟨hkl,hvl⟩:=hI
 replace hkl:k≤ws.length:=hkl
 replace hvl:vs.length=k:=hvl
 have hfr:rowF ([]++famB vs (byW (ws.take k))):=rowF.app rowF.nil famB_row
 have hwl:=wv_take_len hvl hkl
 have hfl:([]++famB vs (byW (ws.take k))).length=k:=by rw[List.nil_append,famB_len (by rw[List.length_map,List.length_take];omega),List.length_map,List.length_take];omega
 refine aS<|sL<|lmI Z<|lmL Z<|lnI ty.sl23 Z ?_
 refine AL.slot 10 (int (ws.length:Int)) (congrArg (fun n:Nat=>int (n:Int)) (rowsW_len _)) ?_
 refine lbB Z<|nG ?_
 refine AW.cond rfl ?_ ?_
 ·intro h1
  refine aK<|gT<|aS<|aB ?_
  have hk:k<ws.length:=by have h:=h1;simp only[decide_eq_true_eq]at h;omega
  refine aL<|lmO Z<|lmI Z<|lmL Z<|lmI Z<|li k ty.el23 Z (rowsW_at hk)<|lrX (.agg [vI _ _,vL _ _ _]) ty.kd151 Z ?_
  refine AL.stx (StX.callN (F:=([]++famB vs (byW (ws.take k)))) [] [] [] (([]++famB vs (byW (ws.take k)))).length Try.func106 (toWrite_n ws[k] (hb _ (List.getElem_mem hk))) tlp List.drop_length List.take_length (Nat.le_refl _) ((by rw[hfl];omega)) (fun _ _ _ _=>trivial) rfl rfl) rfl ?_
  rintro _ _ ⟨xz1,oz1,Fz1,hz1,hF1,hM1,rfl,rfl⟩
  obtain⟨u1,rfl,rfl,rfl⟩:=hz1
  have hrf1:rowF (([]++famB vs (byW (ws.take k)))++[uAr u1 ws[k].bytes]):=rowF.app (by first|assumption|exact rowF.nil) hF1
  refine lTt ((([]++famB vs (byW (ws.take k)))++[uAr u1 ws[k].bytes])) [0,2,3,4,14,15,20] [1] ?_
  refine lq (rj k ty.el32 rfl (by show k<(rowsWV vs (ws.take k)++List.replicate (ws.length-k) [PV.v (.int .i64 0),PV.v (.slice none 0 0)]).length;rw[List.length_append,hwl,List.length_replicate];omega))<|lst (zQ 1 [.v (.int .i64 ws[k].at_),.v u1] ty.co123 ty.inf123 rfl ((show (rowsWV vs (ws.take k)++List.replicate (ws.length-k) [PV.v (.int .i64 0),PV.v (.slice none 0 0)])[k]? = _ by rw[List.getElem?_append_right (by omega),hwl,Nat.sub_self,List.getElem?_replicate,if_pos (by omega)]))) Z<|lN<|gB<|gT<|aL<|lmI Z<|lgI Z<|laI Z<|nG ?_
  refine⟨(k+1,vs++[u1]),⟨hk,by rw[List.length_append,hvl];rfl⟩,by show ws.length-(k+1)<ws.length-k;omega,⟨(iq rfl),trivial⟩,⟨(Eq.trans (b:=AO.arr 123 2 ((rowsWV vs (ws.take k)++List.replicate (ws.length-k) [PV.v (.int .i64 0),PV.v (.slice none 0 0)]).set k [.v (.int .i64 ws[k].at_),.v u1])) rfl (congrArg (AO.arr 123 2) (by rw[nil_rowsW hwl hk,rowsWV_succ hk hvl]))),trivial⟩,⟨rfl,rfl,rfl,trivial⟩,trivial,(by rw[famW_succ (A:=[]) hk hvl];exact tlp)⟩
 ·intro h1
  refine aE<|eT<|eT<|eB<|gT<|aS ?_
  have hke:k=ws.length:=by have h:=h1;simp only[decide_eq_false_iff_not]at h;omega
  subst hke
  rw[List.take_length,List.nil_append]at hfr hfl
  rw[List.take_length,List.nil_append]
  refine AW.obj 1 (.arr 123 2 (rowsWV vs ws)) (congrArg (AO.arr 123 2) (by rw[show ((ws.length,vs):Nat×List Value).1=ws.length from rfl,Nat.sub_self];simp)) ?_
  refine aL<|lmO Z<|laO Z<|nG<|aR ?_
  skip
  refine end_nret (F1:=(famB vs (byW ws))) (.own 1) ([(1,.arr 123 2 (rowsWV vs ws))]) ?_ (by rw[hfl];omega) rfl rfl ⟨rfl,trivial⟩ tlp
  exact⟨vs,hvl,rfl,rfl,rfl⟩
theorem toDisk_n(d:Disk)(hz:DkZ d):GN Try.prog 19 [ldiskV d] [] ([]) (diskRel d):=by
 refine GN.intro (rs:=[.cell 2 34 (some 2)]) Try.func19 rfl Try.ntmps19 (Nat.le_of_ble_eq_true rfl) ⟨rfl,rfl,ty.kd34,trivial⟩ rfl ?_
 intro L O w0
 refine sL<|lst (zX 2001 Z) Z<|lst (zA 2002 ty.ze34 Z) Z<|nA<|lst (zA 2003 ty.ze34 Z) Z<|nA<|lf 0 ty.F25_0 Z<|loL ty.kd22 Z ?_
 refine AL.stx (StX.callN (F:=[]) [(1,1)] [1] [] ([]).length Try.func56 (toCellS_n d.cells hz.lc hz.bc) tlp List.drop_length List.take_length (Nat.le_refl _) ((by simp)) (fun _ _ _ _=>trivial) rfl rfl) rfl ?_
 rintro _ _ ⟨xz1,oz1,Fz1,hz1,hF1,hM1,rfl,rfl⟩
 obtain⟨vs,hvl,rfl,rfl,rfl⟩:=hz1
 have hrf1:rowF ([]++famB vs (byC d.cells)):=rowF.app (by first|assumption|exact rowF.nil) hF1
 refine lf 0 ty.F34_0 Z<|lst (zB 2003 ty.co31 ty.inf31 Z) Z<|nG<|aS ?_
 rw[List.nil_append]
 have hfr0:rowF (famB vs (byC d.cells)):=famB_row
 have hlc:=hz.lc
 have hlw:=hz.lw
 have hfl:(famB vs (byC d.cells)).length=d.cells.length:=by rw[famB_len (by simpa using hvl),List.length_map]
 refine aL<|lf 1 ty.F25_1 Z<|loL ty.kd23 Z ?_
 refine AL.stx (StX.callN (F:=(famB vs (byC d.cells))) [(1,2)] [2] [] ((famB vs (byC d.cells))).length Try.func57 (toWriteS_n d.dirty hz.lw hz.bw) tlp List.drop_length List.take_length (Nat.le_refl _) ((by rw[hfl];omega)) (fun _ _ _ _=>trivial) rfl rfl) rfl ?_
 rintro _ _ ⟨xz2,oz2,Fz2,hz2,hF2,hM2,rfl,rfl⟩
 obtain⟨us,hul,rfl,rfl,rfl⟩:=hz2
 have hrf2:rowF ((famB vs (byC d.cells))++famB us (byW d.dirty)):=rowF.app (by first|assumption|exact rowF.nil) hF2
 refine lf 1 ty.F34_1 Z<|lst (zB 2003 ty.co32 ty.inf32 Z) Z<|nA<|loX (.agg [.own _,.own _]) ty.kd34 Z<|lst (zB 2002 ty.co34 ty.inf34 Z) Z ?_
 refine lTt (((famB vs (byC d.cells))++famB us (byW d.dirty))) [2] [1,2,2001,2002,2003] ?_
 refine nG<|aR ?_
 have hrfD:rowF (famD vs us d):=famD_row
 refine end_nret (F1:=(famD vs us d)) (oDisk) (obD vs us d) ?_ (by rw[famD_len hvl hul];omega) rfl rfl ⟨rfl,rfl,trivial⟩ tlp
 exact⟨vs,us,hvl,hul,rfl,rfl,rfl⟩
theorem szByteS_e(b:List Int)(v:Int)(v0:0≤v)(v1:v≤1048576)(hb:b.length≤9223372036854775807):GC Try.prog 136 [byV b,int v] [] (int (szB b.length v)) []:=by
 refine gi 4 Try.func136 rfl Try.ntmps136 rfl ?_
 intro L O w0
 refine sL<|laI Z<|nA<|lmI Z<|lmL Z<|lnI ty.sl56 Z ?_
 refine lhI rfl ⟨rfl,fits_i64 (by rw[length_rowsOf];unfold i64;omega)⟩<|laI Z<|nG<|aS<|sL<|lmI Z<|lbB Z<|nG ?_
 refine AW.cond rfl ?_ ?_
 ·intro h1
  refine sL<|laI Z<|nG<|aR<|rT ?_
  unfold szB
  refine end_ret ?_ trivial
  have h:=h1
  rw[length_rowsOf]at *
  simp only[decide_eq_true_eq,decide_eq_false_iff_not]at h
  first|rw[if_pos h]|rw[if_neg h]
  try rfl
 ·intro h1
  refine aK<|gA<|lmI Z<|laI Z<|nG<|aR ?_
  unfold szB
  refine end_ret ?_ trivial
  have h:=h1
  rw[length_rowsOf]at *
  simp only[decide_eq_true_eq,decide_eq_false_iff_not]at h
  first|rw[if_pos h]|rw[if_neg h]
  try rfl
theorem szCell_e(c:Cell)(v:Int)(v0:0≤v)(v1:v≤1048576)(hb:c.bytes.length≤9223372036854775807):GC Try.prog 102 [.agg [byV c.bytes],int v] [] (int (szB c.bytes.length v)) []:=by
 refine gi 4 Try.func102 rfl Try.ntmps102 rfl ?_
 intro L O w0
 refine sL<|lst (zX 2002 Z) Z<|laI Z<|nA<|lf 0 ty.F149_0 Z<|loL ty.kd56 Z<|lmI Z<|lst (zL Try.func136 (szByteS_e c.bytes v v0 v1 hb) Z) Z<|laI Z<|nG<|aS<|sL<|lmI Z<|lbB Z<|nG ?_
 refine AW.cond rfl ?_ ?_
 ·intro h1
  refine sL<|laI Z<|nG<|aR<|rT ?_
  have h:=h1
  refine end_ret ?_ trivial
  unfold szB at h ⊢
  first|(split at h<;>simp only[decide_eq_true_eq,decide_eq_false_iff_not]at h<;>first|omega|(rename_i q;first|rw[if_pos q]|rw[if_neg q];try rfl))
  try rfl
 ·intro h1
  refine aK<|gA<|lmI Z<|laI Z<|nG<|aR ?_
  have h:=h1
  refine end_ret ?_ trivial
  unfold szB at h ⊢
  first|(split at h<;>simp only[decide_eq_true_eq,decide_eq_false_iff_not]at h<;>first|omega|(rename_i q;first|rw[if_pos q]|rw[if_neg q];try rfl))
  try rfl
theorem szWrite_e(c:Write)(v:Int)(v0:0≤v)(v1:v≤1048576)(hb:c.bytes.length≤9223372036854775807):GC Try.prog 103 [.agg [int c.at_,byV c.bytes],int v] [] (int (szB c.bytes.length v)) []:=by
 refine gi 4 Try.func103 rfl Try.ntmps103 rfl ?_
 intro L O w0
 refine sL<|lst (zX 2002 Z) Z<|laI Z<|nA<|lf 1 ty.F151_1 Z<|loL ty.kd56 Z<|lmI Z<|lst (zL Try.func136 (szByteS_e c.bytes v v0 v1 hb) Z) Z<|laI Z<|nG<|aS<|sL<|lmI Z<|lbB Z<|nG ?_
 refine AW.cond rfl ?_ ?_
 ·intro h1
  refine sL<|laI Z<|nG<|aR<|rT ?_
  have h:=h1
  refine end_ret ?_ trivial
  unfold szB at h ⊢
  first|(split at h<;>simp only[decide_eq_true_eq,decide_eq_false_iff_not]at h<;>first|omega|(rename_i q;first|rw[if_pos q]|rw[if_neg q];try rfl))
  try rfl
 ·intro h1
  refine aK<|gA<|lmI Z<|laI Z<|nG<|aR ?_
  have h:=h1
  refine end_ret ?_ trivial
  unfold szB at h ⊢
  first|(split at h<;>simp only[decide_eq_true_eq,decide_eq_false_iff_not]at h<;>first|omega|(rename_i q;first|rw[if_pos q]|rw[if_neg q];try rfl))
  try rfl
theorem szCellS_e(cs:List Cell)(l:Int)(l1:-1≤l)(l2:l≤1048576)(hm:cs.length≤9223372036854775807)(hb:∀c∈cs,c.bytes.length≤9223372036854775807):GC Try.prog 53 [.p (.lst 149 1 (rowsC cs)),int l] [] (int (szCs cs l)) []:=by
 refine gi 4 Try.func53 rfl Try.ntmps53 rfl ?_
 intro L O w0
 refine sL<|laI Z<|nA<|lmI Z<|lmL Z<|lnI ty.sl22 Z ?_
 refine AL.slot 8 (int (cs.length:Int)) (congrArg (fun n:Nat=>int (n:Int)) (rowsC_len _)) ?_
 refine lgI Z<|laI Z<|nG<|aS<|sL<|lmI Z<|lbB Z<|nG ?_
 refine AW.cond rfl ?_ ?_
 ·intro h1
  refine sL<|laI Z<|nG<|aR<|rT ?_
  have hl0:l-(cs.length:Int)<0:=by have h:=h1;simpa using h
  refine end_ret ?_ trivial
  unfold szCs
  rw[if_pos hl0]
  try rfl
 ·intro h1
  refine aK<|gT<|aS<|aS ?_
  have hl0:¬l-(cs.length:Int)<0:=by have h:=h1;simpa using h
  refine aL<|laI Z<|nG<|aB ?_
  refine aW [0,4] [] (D:=Nat×Int) (fun a=>[(5,int (a.1:Int)),(1,int a.2)]) (fun a=>[]) (fun a=>a.1≤cs.length∧0≤a.2∧a.2≤1048576∧szG mCe (cs.drop a.1) a.2=szG mCe cs (l-(cs.length:Int))) (fun a=>cs.length-a.1) ((0,l-(cs.length:Int))) (⟨Nat.zero_le _,by show 0≤l-(cs.length:Int);omega,by show l-(cs.length:Int)≤1048576;omega,rfl⟩) ⟨rfl,rfl,trivial⟩ trivial ?_
  intro ⟨k,v⟩ hI
  obtain⟨hkl,hv0,hv1,hgo⟩:=hI
  replace hkl:k≤cs.length:=hkl
  replace hv0:0≤v:=hv0
  replace hv1:v≤1048576:=hv1
  replace hgo:szG mCe (cs.drop k) v=szG mCe cs (l-(cs.length:Int)):=hgo
  refine aS<|sL<|lmI Z<|lmL Z<|lnI ty.sl22 Z ?_
  refine AL.slot 14 (int (cs.length:Int)) (congrArg (fun n:Nat=>int (n:Int)) (rowsC_len _)) ?_
  refine lbB Z<|nG ?_
  refine AW.cond rfl ?_ ?_
  ·intro h2
   refine aK<|gT<|aS<|aB<|aS ?_
   have hk:k<cs.length:=by have h:=h2;simp only[decide_eq_true_eq]at h;omega
   have hbk:=hb _ (List.getElem_mem hk)
   refine aL<|lmL Z<|lmI Z<|li k ty.el22 Z (rowsC_at hk)<|lrX (.agg [vL _ _ _]) ty.kd149 Z<|lmI Z<|lst (zL Try.func102 (szCell_e cs[k] v hv0 hv1 hbk) Z) Z<|lT [0,1,4,5,23] [] ?_
   refine laI Z<|nA<|lmI Z<|lbB Z<|nG ?_
   refine AW.cond rfl ?_ ?_
   ·intro h3
    refine sL<|laI Z<|nG<|aR<|rB<|rT<|rT<|rB<|rT ?_
    have hq:v-(cs[k].bytes.length:Int)<0:=by have h:=h3;unfold szB at h;split at h<;>simp only[decide_eq_true_eq]at h<;>omega
    refine end_ret ?_ trivial
    unfold szCs
    rw[if_neg hl0,←hgo,szG_drop hk,if_pos hq]
    try rfl
   ·intro h3
    refine aK<|gB<|gT ?_
    have hq:0≤v-(cs[k].bytes.length:Int):=by have h:=h3;unfold szB at h;split at h<;>simp only[decide_eq_false_iff_not]at h<;>omega
    have hsz:szB cs[k].bytes.length v=v-(cs[k].bytes.length:Int):=if_neg (by omega)
    refine aL<|lmI Z<|lgI Z<|laI Z<|nG ?_
    refine⟨(k+1,v-(cs[k].bytes.length:Int)),⟨hk,hq,by omega,by rw[←hgo,szG_drop hk,if_neg (show ¬v-mCe cs[k]<0 from by show ¬v-(cs[k].bytes.length:Int)<0;omega)]⟩,by show cs.length-(k+1)<cs.length-k;omega,⟨(iq rfl),(Eq.trans (b:=int _) rfl (congrArg int hsz)),trivial⟩,trivial,rfl,rfl⟩
  ·intro h2
   refine aE<|eT<|eT<|eB<|gA<|lmI Z<|laI Z<|nG<|aR ?_
   have hke:k=cs.length:=by have h:=h2;simp only[decide_eq_false_iff_not]at h;omega
   refine end_ret ?_ trivial
   unfold szCs
   rw[if_neg hl0,←hgo,hke,List.drop_length]
   try rfl
theorem szWriteS_e(ws:List Write)(l:Int)(l1:-1≤l)(l2:l≤1048576)(hm:ws.length≤9223372036854775807)(hb:∀c∈ws,c.bytes.length≤9223372036854775807):GC Try.prog 54 [.p (.lst 151 2 (rowsW ws)),int l] [] (int (szWs ws l)) []:=by
 refine gi 4 Try.func54 rfl Try.ntmps54 rfl ?_
 intro L O w0
 refine sL<|laI Z<|nA<|lmI Z<|lmL Z<|lnI ty.sl23 Z ?_
 refine AL.slot 8 (int (ws.length:Int)) (congrArg (fun n:Nat=>int (n:Int)) (rowsW_len _)) ?_
 refine lgI Z<|laI Z<|nG<|aS<|sL<|lmI Z<|lbB Z<|nG ?_
 refine AW.cond rfl ?_ ?_
 ·intro h1
  refine sL<|laI Z<|nG<|aR<|rT ?_
  have hl0:l-(ws.length:Int)<0:=by have h:=h1;simpa using h
  refine end_ret ?_ trivial
  unfold szWs
  rw[if_pos hl0]
  try rfl
 ·intro h1
  refine aK<|gT<|aS<|aS ?_
  have hl0:¬l-(ws.length:Int)<0:=by have h:=h1;simpa using h
  refine aL<|laI Z<|nG<|aB ?_
  refine aW [0,4] [] (D:=Nat×Int) (fun a=>[(5,int (a.1:Int)),(1,int a.2)]) (fun a=>[]) (fun a=>a.1≤ws.length∧0≤a.2∧a.2≤1048576∧szG mBy (ws.drop a.1) a.2=szG mBy ws (l-(ws.length:Int))) (fun a=>ws.length-a.1) ((0,l-(ws.length:Int))) (⟨Nat.zero_le _,by show 0≤l-(ws.length:Int);omega,by show l-(ws.length:Int)≤1048576;omega,rfl⟩) ⟨rfl,rfl,trivial⟩ trivial ?_
  intro ⟨k,v⟩ hI
  obtain⟨hkl,hv0,hv1,hgo⟩:=hI
  replace hkl:k≤ws.length:=hkl
  replace hv0:0≤v:=hv0
  replace hv1:v≤1048576:=hv1
  replace hgo:szG mBy (ws.drop k) v=szG mBy ws (l-(ws.length:Int)):=hgo
  refine aS<|sL<|lmI Z<|lmL Z<|lnI ty.sl23 Z ?_
  refine AL.slot 14 (int (ws.length:Int)) (congrArg (fun n:Nat=>int (n:Int)) (rowsW_len _)) ?_
  refine lbB Z<|nG ?_
  refine AW.cond rfl ?_ ?_
  ·intro h2
   refine aK<|gT<|aS<|aB<|aS ?_
   have hk:k<ws.length:=by have h:=h2;simp only[decide_eq_true_eq]at h;omega
   have hbk:=hb _ (List.getElem_mem hk)
   refine aL<|lmL Z<|lmI Z<|li k ty.el23 Z (rowsW_at hk)<|lrX (.agg [vI _ _,vL _ _ _]) ty.kd151 Z<|lmI Z<|lst (zL Try.func103 (szWrite_e ws[k] v hv0 hv1 hbk) Z) Z<|lT [0,1,4,5,23] [] ?_
   refine laI Z<|nA<|lmI Z<|lbB Z<|nG ?_
   refine AW.cond rfl ?_ ?_
   ·intro h3
    refine sL<|laI Z<|nG<|aR<|rB<|rT<|rT<|rB<|rT ?_
    have hq:v-(ws[k].bytes.length:Int)<0:=by have h:=h3;unfold szB at h;split at h<;>simp only[decide_eq_true_eq]at h<;>omega
    refine end_ret ?_ trivial
    unfold szWs
    rw[if_neg hl0,←hgo,szG_drop hk,if_pos hq]
    try rfl
   ·intro h3
    refine aK<|gB<|gT ?_
    have hq:0≤v-(ws[k].bytes.length:Int):=by have h:=h3;unfold szB at h;split at h<;>simp only[decide_eq_false_iff_not]at h<;>omega
    have hsz:szB ws[k].bytes.length v=v-(ws[k].bytes.length:Int):=if_neg (by omega)
    refine aL<|lmI Z<|lgI Z<|laI Z<|nG ?_
    refine⟨(k+1,v-(ws[k].bytes.length:Int)),⟨hk,hq,by omega,by rw[←hgo,szG_drop hk,if_neg (show ¬v-mBy ws[k]<0 from by show ¬v-(ws[k].bytes.length:Int)<0;omega)]⟩,by show ws.length-(k+1)<ws.length-k;omega,⟨(iq rfl),(Eq.trans (b:=int _) rfl (congrArg int hsz)),trivial⟩,trivial,rfl,rfl⟩
  ·intro h2
   refine aE<|eT<|eT<|eB<|gA<|lmI Z<|laI Z<|nG<|aR ?_
   have hke:k=ws.length:=by have h:=h2;simp only[decide_eq_false_iff_not]at h;omega
   refine end_ret ?_ trivial
   unfold szWs
   rw[if_neg hl0,←hgo,hke,List.drop_length]
   try rfl
theorem szDisk_e(d:Disk)(l:Int)(l1:-1≤l)(l2:l≤1048576)(hmc:d.cells.length≤9223372036854775807)(hbc:∀c∈d.cells,c.bytes.length≤9223372036854775807)(hmw:d.dirty.length≤9223372036854775807)(hbw:∀c∈d.dirty,c.bytes.length≤9223372036854775807):GC Try.prog 17 [ldiskV d,int l] [] (int (szD d l)) []:=by
 refine gi 4 Try.func17 rfl Try.ntmps17 rfl ?_
 intro L O w0
 refine sL<|lst (zX 2002 Z) Z<|laI Z<|nA<|lf 0 ty.F25_0 Z<|loL ty.kd22 Z<|lmI Z<|lst (zL Try.func53 (szCellS_e d.cells l l1 l2 hmc hbc) Z) Z<|laI Z<|nG<|aS<|sL<|lmI Z<|lbB Z<|nG ?_
 refine AW.cond rfl ?_ ?_
 ·intro h1
  refine sL<|laI Z<|nG<|aR<|rT ?_
  have h1:=h1
  simp only[decide_eq_true_eq]at h1
  refine end_ret ?_ trivial
  unfold szD
  rw[if_pos h1]
  try rfl
 ·intro h1
  refine aK<|gT<|aS ?_
  have hl0:¬szCs d.cells l<0:=by have h:=h1;simpa using h
  refine aL<|lf 1 ty.F25_1 Z<|loL ty.kd23 Z<|lmI Z<|lst (zL Try.func54 (szWriteS_e d.dirty (szCs d.cells l) (szCs_lo _ _) (by have:=szCs_y (cs:=d.cells) (l:=l) (by omega);omega) hmw hbw) rfl) Z<|lT [1,4,14] [2002] ?_
  refine laI Z<|nG<|aS<|sL<|lmI Z<|lbB Z<|nG ?_
  refine AW.cond rfl ?_ ?_
  ·intro h2
   refine sL<|laI Z<|nG<|aR<|rT ?_
   have h1:=h2
   simp only[decide_eq_true_eq]at h1
   have h3:=szWs_lo d.dirty (szCs d.cells l)
   refine end_ret ?_ trivial
   unfold szD
   rw[if_neg hl0,show szWs d.dirty (szCs d.cells l)=-1 by omega]
   try rfl
  ·intro h2
   refine aK<|gA<|lmI Z<|laI Z<|nG<|aR ?_
   skip
   refine end_ret ?_ trivial
   unfold szD
   rw[if_neg hl0]
   try rfl
theorem eqByteS_e(b:List Int)(hm:b.length≤1000000000):GC Try.prog 138 [byV b,byV b] [] (boo true) []:=by
 refine gi 4 Try.func138 rfl Try.ntmps138 rfl ?_
 intro L O w0
 refine sL<|laZ Z<|nG<|aS<|sL<|lmL Z<|lnI ty.sl56 Z<|lmL Z<|lnI ty.sl56 Z<|lbB Z<|lsB 10 false rfl (by simp)<|nG<|aN Z<|aK<|gT<|aS<|sL<|laI Z<|nG<|aB ?_
 refine aW [0,1,4] [] (D:=Nat) (fun k=>[(5,int (k:Int))]) (fun k=>[]) (fun k=>k≤b.length) (fun k=>b.length-k) (0) (Nat.zero_le _) ⟨rfl,trivial⟩ trivial ?_
 intro k hI
 refine aS<|sL<|lmI Z<|lmL Z<|lnI ty.sl56 Z<|lbB Z<|nG ?_
 refine AW.cond rfl ?_ ?_
 ·intro h1
  refine aK<|gT<|aS<|aB<|aS<|aF []<|pq 0 (qmL Z)<|pq 1 (qmX (vI _ _) Z) ?_
  have hk:k<b.length:=by have h:=h1;simp only[length_rowsOf,decide_eq_true_eq]at h;omega
  refine sq 2 (ri k ty.el56 rfl (row_map hk))<|sq 3 (rrI ty.kd5 rfl)<|pq 4 (qmL rfl)<|vq 5 (rmI rfl)<|vq 6 (ri k ty.el56 rfl (row_map hk))<|vq 7 (rrI ty.kd5 rfl)<|vq 8 (rbB rfl)<|fsB 25 false rfl (by simp)<|fD<|gT<|aN Z<|aK<|gB<|gT<|aL<|lmI Z<|lgI Z<|laI Z<|nG ?_
  refine⟨k+1,hk,by omega,⟨(iq rfl),trivial⟩,trivial,rfl,rfl⟩
 ·intro h1
  refine aE<|eT<|eT<|eB<|gA<|laT Z<|nG<|aR ?_
  refine end_ret ?_ trivial
  rfl
theorem eqCell_e(c:Cell)(hm:c.bytes.length≤1000000000):GC Try.prog 108 [.agg [byV c.bytes],.agg [byV c.bytes]] [] (boo true) []:=by
 refine gi 4 Try.func108 rfl Try.ntmps108 rfl ?_
 intro L O w0
 refine sL<|lst (zX 2002 rfl) Z<|lst (zX 2003 rfl) Z<|laZ Z<|nG<|aS<|sL<|lf 0 ty.F115_0 Z<|loL ty.kd56 Z<|lf 0 ty.F115_0 Z<|loL ty.kd56 Z<|lst (zL Try.func138 (eqByteS_e _ (by omega)) rfl) Z<|luZ Z<|lsB 10 false rfl (by simp)<|nG<|aN Z<|aK<|gA<|laT Z<|nG<|aR ?_
 refine end_ret ?_ trivial
 rfl
theorem eqWrite_e(c:Write)(hm:c.bytes.length≤1000000000):GC Try.prog 109 [.agg [int c.at_,byV c.bytes],.agg [int c.at_,byV c.bytes]] [] (boo true) []:=by
 refine gi 4 Try.func109 rfl Try.ntmps109 rfl ?_
 intro L O w0
 refine sL<|lst (zX 2002 rfl) Z<|lst (zX 2003 rfl) Z<|laZ Z<|nG<|aS<|sL<|lf 0 ty.F123_0 Z<|loI ty.kd3 Z<|lf 0 ty.F123_0 Z<|loI ty.kd3 Z<|lbB Z<|lsB 9 false rfl (by simp)<|nG<|aN Z<|aK<|gT<|aS<|sL<|lf 1 ty.F123_1 Z<|loL ty.kd56 Z<|lf 1 ty.F123_1 Z<|loL ty.kd56 Z<|lst (zL Try.func138 (eqByteS_e _ (by omega)) rfl) Z<|luZ rfl ?_
 refine lsB 15 false rfl (by simp)<|nG<|aN Z<|aK<|gA<|laT Z<|nG<|aR ?_
 refine end_ret ?_ trivial
 rfl
theorem eqCellS_e(cs:List Cell)(hm:cs.length≤1000000000)(hb:∀c∈cs,c.bytes.length≤1000000000):GC Try.prog 60 [.p (.lst 115 1 (rowsC cs)),.p (.lst 115 1 (rowsC cs))] [] (boo true) []:=by
 refine gi 4 Try.func60 rfl Try.ntmps60 rfl ?_
 intro L O w0
 refine sL<|laZ Z<|nG<|aS<|sL<|lmL Z<|lnI ty.sl31 Z ?_
 refine AL.slot 7 (int (cs.length:Int)) (congrArg (fun n:Nat=>int (n:Int)) (rowsC_len _)) ?_
 refine lmL Z<|lnI ty.sl31 Z ?_
 refine AL.slot 9 (int (cs.length:Int)) (congrArg (fun n:Nat=>int (n:Int)) (rowsC_len _)) ?_
 refine lbB Z<|lsB 10 false rfl (by simp)<|nG<|aN Z<|aK<|gT<|aS<|sL<|laI Z<|nG<|aB ?_
 refine aW [0,1,4] [] (D:=Nat) (fun k=>[(5,int (k:Int))]) (fun k=>[]) (fun k=>k≤cs.length) (fun k=>cs.length-k) (0) (Nat.zero_le _) ⟨rfl,trivial⟩ trivial ?_
 intro k hI
 refine aS<|sL<|lmI Z<|lmL Z<|lnI ty.sl31 Z ?_
 refine AL.slot 13 (int (cs.length:Int)) (congrArg (fun n:Nat=>int (n:Int)) (rowsC_len _)) ?_
 refine lbB Z<|nG ?_
 refine AW.cond rfl ?_ ?_
 ·intro h1
  refine aK<|gT<|aS<|aB<|aS ?_
  have hk:k<cs.length:=by have h:=h1;simp only[decide_eq_true_eq]at h;omega
  refine aF []<|pq 0 (qmL Z)<|pq 1 (qmX (vI _ _) Z)<|sq 2 (ri k ty.el31 Z (rowsC_at hk))<|sq 3 (rrX (.agg [vL _ _ _]) ty.kd115 Z)<|pq 4 (qmL Z)<|vq 5 (rmI Z)<|vq 6 (ri k ty.el31 Z (rowsC_at hk))<|vq 7 (rrX (.agg [vL _ _ _]) ty.kd115 Z)<|vst 8 Z (zL Try.func108 (eqCell_e cs[k] (hb _ (List.getElem_mem hk))) Z) (.inr Z)<|fT [0,1,4,5,25] [] ?_
  refine vq 9 (ruZ rfl)<|fsB 26 false rfl (by simp)<|fD<|gT<|aN Z<|aK<|gB<|gT<|aL<|lmI Z<|lgI Z<|laI Z<|nG ?_
  refine⟨k+1,hk,by omega,⟨(iq rfl),trivial⟩,trivial,rfl,rfl⟩
 ·intro h1
  refine aE<|eT<|eT<|eB<|gA<|laT Z<|nG<|aR ?_
  refine end_ret ?_ trivial
  rfl
theorem eqWriteS_e(cs:List Write)(hm:cs.length≤1000000000)(hb:∀c∈cs,c.bytes.length≤1000000000):GC Try.prog 61 [.p (.lst 123 2 (rowsW cs)),.p (.lst 123 2 (rowsW cs))] [] (boo true) []:=by
 refine gi 4 Try.func61 rfl Try.ntmps61 rfl ?_
 intro L O w0
 refine sL<|laZ Z<|nG<|aS<|sL<|lmL Z<|lnI ty.sl32 Z ?_
 refine AL.slot 7 (int (cs.length:Int)) (congrArg (fun n:Nat=>int (n:Int)) (rowsW_len _)) ?_
 refine lmL Z<|lnI ty.sl32 Z ?_
 refine AL.slot 9 (int (cs.length:Int)) (congrArg (fun n:Nat=>int (n:Int)) (rowsW_len _)) ?_
 refine lbB Z<|lsB 10 false rfl (by simp)<|nG<|aN Z<|aK<|gT<|aS<|sL<|laI Z<|nG<|aB ?_
 refine aW [0,1,4] [] (D:=Nat) (fun k=>[(5,int (k:Int))]) (fun k=>[]) (fun k=>k≤cs.length) (fun k=>cs.length-k) (0) (Nat.zero_le _) ⟨rfl,trivial⟩ trivial ?_
 intro k hI
 refine aS<|sL<|lmI Z<|lmL Z<|lnI ty.sl32 Z ?_
 refine AL.slot 13 (int (cs.length:Int)) (congrArg (fun n:Nat=>int (n:Int)) (rowsW_len _)) ?_
 refine lbB Z<|nG ?_
 refine AW.cond rfl ?_ ?_
 ·intro h1
  refine aK<|gT<|aS<|aB<|aS ?_
  have hk:k<cs.length:=by have h:=h1;simp only[decide_eq_true_eq]at h;omega
  refine aF []<|pq 0 (qmL Z)<|pq 1 (qmX (vI _ _) Z)<|sq 2 (ri k ty.el32 Z (rowsW_at hk))<|sq 3 (rrX (.agg [vI _ _,vL _ _ _]) ty.kd123 Z)<|pq 4 (qmL Z)<|vq 5 (rmI Z)<|vq 6 (ri k ty.el32 Z (rowsW_at hk))<|vq 7 (rrX (.agg [vI _ _,vL _ _ _]) ty.kd123 Z)<|vst 8 Z (zL Try.func109 (eqWrite_e cs[k] (hb _ (List.getElem_mem hk))) Z) (.inr Z)<|fT [0,1,4,5,25] [] ?_
  refine vq 9 (ruZ rfl)<|fsB 26 false rfl (by simp)<|fD<|gT<|aN Z<|aK<|gB<|gT<|aL<|lmI Z<|lgI Z<|laI Z<|nG ?_
  refine⟨k+1,hk,by omega,⟨(iq rfl),trivial⟩,trivial,rfl,rfl⟩
 ·intro h1
  refine aE<|eT<|eT<|eB<|gA<|laT Z<|nG<|aR ?_
  refine end_ret ?_ trivial
  rfl
structure DkE(d:Disk):Prop where
 lc:d.cells.length≤1000000000
 lw:d.dirty.length≤1000000000
 bc:∀c∈d.cells,c.bytes.length≤1000000000
 bw:∀w∈d.dirty,w.bytes.length≤1000000000
theorem DkZ.e{d:Disk}(h:DkZ d):DkE d:=⟨Nat.le_trans h.lc (by decide),Nat.le_trans h.lw (by decide),fun c hc=>Nat.le_trans (h.bc c hc) (by decide),fun c hc=>Nat.le_trans (h.bw c hc) (by decide)⟩
theorem eqDisk_e(d:Disk)(he:DkE d):GC Try.prog 22 [diskV d,diskV d] [] (boo true) []:=by
 refine gi 4 Try.func22 rfl Try.ntmps22 rfl ?_
 intro L O w0
 refine sL<|lst (zX 2002 rfl) Z<|lst (zX 2003 rfl) Z<|laZ Z<|nG<|aS<|sL<|lf 0 ty.F34_0 Z<|loL ty.kd31 Z<|lf 0 ty.F34_0 Z<|loL ty.kd31 Z<|lst (zL Try.func60 (eqCellS_e d.cells he.lc he.bc) rfl) Z<|luZ Z<|lsB 10 false rfl (by simp)<|nG<|aN Z<|aK<|gT<|aS<|sL<|lf 1 ty.F34_1 Z<|loL ty.kd32 Z<|lf 1 ty.F34_1 Z<|loL ty.kd32 Z<|lst (zL Try.func61 (eqWriteS_e d.dirty he.lw he.bw) rfl) rfl ?_
 refine lT [4,15] [2002,2003] ?_
 refine luZ Z<|lsB 16 false rfl (by simp)<|nG<|aN Z<|aK<|gA<|laT Z<|nG<|aR ?_
 refine end_ret ?_ trivial
 rfl
theorem famC_at{vs:List Value}{cs:List Cell}{j:Nat}{v:Value}(h:vs.length=cs.length)(hj:j<cs.length)(hv:vs[j]? = some v):(famB vs (byC cs))[j]? = some (.arr ⟨5,some v⟩ 1 (rowsOf encU cs[j].bytes)):=by
 have e:=(List.getElem?_eq_some_iff.1 hv).2
 rw[famB_at (by simpa using h) (by simpa using hj)]
 simp[byC,e]
theorem famW_at{vs:List Value}{cs:List Write}{j:Nat}{v:Value}(h:vs.length=cs.length)(hj:j<cs.length)(hv:vs[j]? = some v):(famB vs (byW cs))[j]? = some (.arr ⟨5,some v⟩ 1 (rowsOf encU cs[j].bytes)):=by
 have e:=(List.getElem?_eq_some_iff.1 hv).2
 rw[famB_at (by simpa using h) (by simpa using hj)]
 simp[byW,e]
theorem markByteS_e(u:Value)(b:List Int)(k:Int)(hm:b.length≤100000000)(hk:0≤k∧k≤1000000000000):GC Try.prog 110 [.own 0,int k] [(0,.arr ⟨5,some u⟩ 1 (rowsOf encU b))] (int (k+(b.length:Int))) [(0,.arr ⟨5,some u⟩ 1 (rowsOf encU (mkdB k b.length)))]:=by
 refine gi 4 Try.func110 rfl Try.ntmps110 rfl ?_
 intro L O w0
 refine sL<|laI Z<|nG<|aS<|sL<|laI Z<|nG<|aB ?_
 refine aW [0,4] [] (D:=Nat) (fun j=>[(5,int (j:Int)),(1,int (k+1*(j:Int)))]) (fun j=>[(0,.arr ⟨5,some u⟩ 1 (rowsOf encU (mkdB k j++b.drop j)))]) (fun j=>j≤b.length) (fun j=>b.length-j) (0) (Nat.zero_le _) ⟨rfl,(congrArg int (by omega)),trivial⟩ ⟨rfl,trivial⟩ ?_
 intro j hI
 refine aS<|sL<|lmI Z<|lmO Z<|lnI ty.sl56 Z<|lbB Z<|nG ?_
 refine AW.cond rfl ?_ ?_
 ·intro h1
  refine aK<|gT<|aS<|aB<|aS ?_
  have hj:j<b.length:=by have h:=h1;simp[length_rowsOf,mkLs_len]at h;omega
  refine aL<|lmO Z<|lmI Z<|lmI Z<|lq (rd (x:=vI _ _) (rd_conv Z ty.ik3 ty.ik5 Z) Z) ?_
  refine AL.slot 15 (yv ((k+1*(j:Int))%256)) (Eq.trans (b:=yv _) rfl (congrArg yv (wrap_u8 _))) ?_
  refine lq (rj j ty.el56 rfl (by simp[length_rowsOf,mkLs_len];omega))<|lst (zQ 0 [.v (.int .u8 ((k+1*(j:Int))%256))] ty.co5 ty.inf5 rfl (rows_some (marked_get mkLs_len hj))) Z<|nG<|aL<|lmI Z<|lgI Z<|laI Z<|lN<|gB<|gT<|aL<|lmI Z<|lgI Z<|laI Z<|nG ?_
  refine⟨j+1,hj,by omega,⟨(iq rfl),(iq rfl),trivial⟩,⟨(Eq.trans (b:=AO.arr ⟨5,some u⟩ 1 ((rowsOf encU (mkdB k j++b.drop j)).set j ((encU ((k+1*(j:Int))%256)).map PV.v))) rfl (congrArg (AO.arr ⟨5,some u⟩ 1) (rows_set.trans (congrArg (rowsOf encU) (marked_set mkLs_len mkLs_succ hj))))),trivial⟩,rfl,rfl⟩
 ·intro h1
  refine aE<|eT<|eT<|eB<|gA<|lmI Z<|laI Z<|nG<|aR ?_
  have hje:j=b.length:=by have h:=h1;simp[length_rowsOf,mkLs_len]at h;omega
  refine end_ret ?_ ⟨(congrArg (fun q=>AO.arr ⟨5,some u⟩ 1 (rowsOf encU q)) (by rw[←hje,hje,List.drop_length,List.append_nil])),trivial⟩
  rw[←hje]
  exact congrArg (fun n=>some (int n)) (by omega)
structure DkM(d:Disk):Prop where
 lc:d.cells.length≤100000000
 lw:d.dirty.length≤100000000
 cc:cntG mCe d.cells≤100000000
 cw:cntG mWr d.dirty≤100000000
theorem DkZ.m{d:Disk}(h:DkZ d):DkM d:=⟨Nat.le_trans h.lc (by decide),Nat.le_trans h.lw (by decide),Int.le_trans h.cc (by decide),Int.le_trans h.cw (by decide)⟩
theorem dcnt_bd{d:Disk}(h:DkM d):0≤dcnt d∧dcnt d≤200000000:=by
 have:=cntG_nn mCe_nn d.cells
 have:=cntG_nn mWr_nn d.dirty
 have:=h.cc
 have:=h.cw
 unfold dcnt
 omega
theorem markCellS_e(u:Value)(vs:List Value)(cs:List Cell)(R:List AO)(k:Int)(hv:vs.length=cs.length)(hR:rowF R)(hRl:R.length≤5000000)(hm:cs.length≤1048576)(hc:cntG mCe cs≤100000000)(hk:0≤k∧k≤100000000000):GN Try.prog 62 [.own 0,int k] [(0,.arr ⟨115,some u⟩ 1 (rowsCV vs))] (famB vs (byC cs)++R) (fun y l1 F1=>y=int (k+cntG mCe cs)∧l1=[(0,.arr ⟨115,some u⟩ 1 (rowsCV vs))]∧F1=famB vs (byC (mkG mCe gCe cs k))++R):=by
 have hrf0:rowF (famB vs (byC cs)++R):=rowF.app famB_row hR
 refine GN.intro (rs:=[.tmp 4]) Try.func62 rfl Try.ntmps62 (Nat.le_of_ble_eq_true rfl) ⟨rfl,trivial⟩ rfl ?_
 intro L O w0
 refine sL<|laI Z<|nG<|aS<|sL<|laI Z<|nG<|aB ?_
 refine AW.loopT (D:=Nat) [(0,.own _),(4,vI _ _)] [(0,.arr _ _ _)] (fun j=>[(5,int (j:Int)),(1,int (k+cntG mCe (cs.take j)))]) (fun j=>[]) (fun j=>famB vs (byC (mkJ mCe gCe cs k j))++R) (fun j=>j≤cs.length) (fun j=>cs.length-j) (0) (Nat.zero_le _) ⟨rfl,(congrArg int (by rw[List.take_zero];show k=k+0;omega)),trivial⟩ trivial ⟨rfl,rfl,trivial⟩ ⟨rfl,trivial⟩ (by rw[mkJ_zero];exact tlp) ?_
 intro j hI
 have hrf:rowF (famB vs (byC (mkJ mCe gCe cs k j))++R):=rowF.app famB_row hR
 refine aS<|sL<|lmI Z<|lmO Z<|lnI ty.sl31 Z ?_
 refine AL.slot 8 (int (cs.length:Int)) (congrArg (fun n:Nat=>int (n:Int)) (show (rowsCV vs).length=cs.length by rw[rowsCV_len,hv])) ?_
 refine lbB Z<|nG ?_
 refine AW.cond rfl ?_ ?_
 ·intro h1
  refine aK<|gT<|aS<|aB ?_
  have hj:j<cs.length:=by have h:=h1;simp only[decide_eq_true_eq]at h;omega
  have hpt:=cntG_take (n:=mCe) hj
  have hp0:=cntG_nn mCe_nn (cs.take j)
  have hp1:=cntG_le mCe_nn (l:=cs) (j:=j+1)
  have hbq:(cs[j].bytes.length:Int)≤cntG mCe cs:=cntG_mem mCe_nn (List.getElem_mem hj)
  have hbl:(cs[j].bytes.length:Int)≤100000000:=by omega
  have hpt2:cntG mCe (cs.take (j+1))=cntG mCe (cs.take j)+((cs[j].bytes.length:Int)):=hpt
  have hvj:vs[j]? = some (vs[j]'(by omega)):=List.getElem?_eq_getElem _
  have hrow:=rowsCV_at (vs:=vs) (i:=j) (by omega)
  have hfam:=famC_at (vs:=vs) (cs:=(mkJ mCe gCe cs k j)) (j:=j) (v:=vs[j]'(by omega)) (by rw[mkJ_len];exact hv) (by rw[mkJ_len];exact hj) hvj
  rw[mkJ_at hj]at hfam
  generalize hVJ:vs[j]'(by omega)=vj at hrow hfam hvj
  have hfl:(famB vs (byC (mkJ mCe gCe cs k j))).length=cs.length:=by rw[famB_len (by rw[List.length_map,mkJ_len];exact hv),List.length_map,mkJ_len]
  have hfam2:(famB vs (byC (mkJ mCe gCe cs k j))++R)[j]? = some (.arr ⟨5,some vj⟩ 1 (rowsOf encU cs[j].bytes)):=by rw[List.getElem?_append_left (by omega)];exact hfam
  refine aL<|lmO Z<|lmI Z<|lq (rj j ty.el31 rfl (by rw[rowsCV_len];omega))<|lf 0 ty.F115_0 Z<|lq (rd (x:=vV _) (rd_load_arr rfl ty.kd56 rfl rfl rfl (hrow) rfl) rfl) ?_
  refine AL.borrow 77 j 16 rfl rfl hfam2 tlp ?_
  have hrf2:rowF ((famB vs (byC (mkJ mCe gCe cs k j))++R).set j .gone):=rowF.set (rowF.app famB_row hR) rfl
  refine lmI rfl ?_
  refine lst (zC [(0,77)] [] [0] Try.func110 (markByteS_e vj cs[j].bytes (k+cntG mCe (cs.take j)) (by omega) (by omega)) (⟨stays.arr (by simp[rowsOf,mkLs_len]),trivial⟩) rfl rfl) Z<|laI Z<|lN<|gB<|gT ?_
  refine aTt (((famB vs (byC (mkJ mCe gCe cs k j))++R).set j .gone)) [0,1,4,5] [0,77] ?_
  refine AW.putBack 77 j rfl rfl hrf2 (by rw[List.getElem?_set_self (by rw[List.length_append];omega)]) ?_
  rw[List.set_set]
  have hrf3:rowF ((famB vs (byC (mkJ mCe gCe cs k j))++R).set j (.arr ⟨5,some vj⟩ 1 (rowsOf encU (mkdB (k+cntG mCe (cs.take j)) cs[j].bytes.length)))):=rowF.set (rowF.app famB_row hR) rfl
  refine aL<|lmI Z<|lgI Z<|laI Z<|nG ?_
  refine⟨j+1,hj,by omega,⟨(iq rfl),(Eq.trans (b:=int _) rfl (congrArg int (by rw[hpt2];omega))),trivial⟩,trivial,⟨rfl,rfl,trivial⟩,⟨rfl,trivial⟩,(by rw[mkJ_succ hj,famC_put hvj,←List.set_append_left _ _ (by omega)];exact tlp)⟩
 ·intro h1
  refine aE<|eT<|eT<|eB<|gA<|lmI Z<|laI Z<|nG<|aR ?_
  have hje:j=cs.length:=by have h:=h1;simp only[decide_eq_false_iff_not]at h;omega
  subst hje
  rw[mkJ_all]at hrf ⊢
  rw[List.take_length]
  refine end_nret (F1:=(famB vs (byC (mkG mCe gCe cs k))++R)) (int (k+cntG mCe cs)) ([(0,.arr ⟨115,some u⟩ 1 (rowsCV vs))]) ?_ (by rw[List.length_append,famB_len (by rw[List.length_map,mkG_len];exact hv),List.length_map,mkG_len];omega) rfl rfl ⟨rfl,trivial⟩ tlp
  exact⟨rfl,rfl,rfl⟩
theorem markWriteS_e(u:Value)(vs:List Value)(cs:List Write)(R:List AO)(k:Int)(hv:vs.length=cs.length)(hR:rowF R)(hRl:R.length≤5000000)(hm:cs.length≤1048576)(hc:cntG mWr cs≤100000000)(hk:0≤k∧k≤100000000000):GN Try.prog 63 [.own 0,int k] [(0,.arr ⟨123,some u⟩ 2 (rowsWV vs cs))] (famB vs (byW cs)++R) (fun y l1 F1=>y=int (k+cntG mWr cs)∧l1=[(0,.arr ⟨123,some u⟩ 2 (rowsWV vs (mkG mWr gWr cs k)))]∧F1=famB vs (byW (mkG mWr gWr cs k))++R):=by
 have hrf0:rowF (famB vs (byW cs)++R):=rowF.app famB_row hR
 refine GN.intro (rs:=[.tmp 4]) Try.func63 rfl Try.ntmps63 (Nat.le_of_ble_eq_true rfl) ⟨rfl,trivial⟩ rfl ?_
 intro L O w0
 refine sL<|laI Z<|nG<|aS<|sL<|laI Z<|nG<|aB ?_
 refine AW.loopT (D:=Nat) [(0,.own _),(4,vI _ _)] [] (fun j=>[(5,int (j:Int)),(1,int (k+cntG mWr (cs.take j)))]) (fun j=>[(0,.arr ⟨123,some u⟩ 2 (rowsWV vs (mkJ mWr gWr cs k j)))]) (fun j=>famB vs (byW (mkJ mWr gWr cs k j))++R) (fun j=>j≤cs.length) (fun j=>cs.length-j) (0) (Nat.zero_le _) ⟨rfl,(congrArg int (by rw[List.take_zero];show k=k+0;omega)),trivial⟩ ⟨(by rw[mkJ_zero];rfl),trivial⟩ ⟨rfl,rfl,trivial⟩ trivial (by rw[mkJ_zero];exact tlp) ?_
 intro j hI
 have hrf:rowF (famB vs (byW (mkJ mWr gWr cs k j))++R):=rowF.app famB_row hR
 refine aS<|sL<|lmI Z<|lmO Z<|lnI ty.sl32 Z ?_
 refine AL.slot 8 (int (cs.length:Int)) (congrArg (fun n:Nat=>int (n:Int)) (show (rowsWV vs (mkJ mWr gWr cs k j)).length=cs.length by rw[rowsWV_len (by rw[mkJ_len];exact hv),mkJ_len])) ?_
 refine lbB Z<|nG ?_
 refine AW.cond rfl ?_ ?_
 ·intro h1
  refine aK<|gT<|aS<|aB<|aS ?_
  have hj:j<cs.length:=by have h:=h1;simp only[decide_eq_true_eq]at h;omega
  have hpt:=cntG_take (n:=mWr) hj
  have hp0:=cntG_nn mWr_nn (cs.take j)
  have hp1:=cntG_le mWr_nn (l:=cs) (j:=j+1)
  have hbq:1+(cs[j].bytes.length:Int)≤cntG mWr cs:=cntG_mem mWr_nn (List.getElem_mem hj)
  have hbl:(cs[j].bytes.length:Int)≤100000000:=by omega
  have hpt2:cntG mWr (cs.take (j+1))=cntG mWr (cs.take j)+(1+(cs[j].bytes.length:Int)):=hpt
  have hvj:vs[j]? = some (vs[j]'(by omega)):=List.getElem?_eq_getElem _
  have hrow:=rowsWV_at (vs:=vs) (ws:=mkJ mWr gWr cs k j) (i:=j) (by rw[mkJ_len];exact hv) (by rw[mkJ_len];exact hj)
  have hfam:=famW_at (vs:=vs) (cs:=(mkJ mWr gWr cs k j)) (j:=j) (v:=vs[j]'(by omega)) (by rw[mkJ_len];exact hv) (by rw[mkJ_len];exact hj) hvj
  rw[mkJ_at hj]at hrow hfam
  generalize hVJ:vs[j]'(by omega)=vj at hrow hfam hvj
  have hfl:(famB vs (byW (mkJ mWr gWr cs k j))).length=cs.length:=by rw[famB_len (by rw[List.length_map,mkJ_len];exact hv),List.length_map,mkJ_len]
  have hfam2:(famB vs (byW (mkJ mWr gWr cs k j))++R)[j]? = some (.arr ⟨5,some vj⟩ 1 (rowsOf encU cs[j].bytes)):=by rw[List.getElem?_append_left (by omega)];exact hfam
  refine aL<|lmO Z<|lmI Z<|lmI Z<|lq (rj j ty.el32 rfl (by rw[rowsWV_len (by rw[mkJ_len];exact hv),mkJ_len];exact hj))<|lf 0 ty.F123_0 Z<|lst (zQ 0 [.v (.int .i64 (k+cntG mWr (cs.take j)))] ty.co3 ty.inf3 rfl (hrow)) Z<|nA<|lmI Z<|lgI Z<|laI Z<|nG<|aL<|lmO Z<|lmI Z<|lq (rj j ty.el32 rfl (by rw[List.length_set];rw[rowsWV_len (by rw[mkJ_len];exact hv),mkJ_len];exact hj))<|lf 1 ty.F123_1 Z<|lq (rd (x:=vV _) (rd_load_arr rfl ty.kd56 rfl rfl rfl (List.getElem?_set_self (by rw[rowsWV_len (by rw[mkJ_len];exact hv),mkJ_len];exact hj)) rfl) rfl) ?_
  refine AL.borrow 77 j 23 rfl rfl hfam2 tlp ?_
  have hrf2:rowF ((famB vs (byW (mkJ mWr gWr cs k j))++R).set j .gone):=rowF.set (rowF.app famB_row hR) rfl
  refine lmI rfl ?_
  refine lst (zC [(0,77)] [] [0] Try.func110 (markByteS_e vj cs[j].bytes (k+cntG mWr (cs.take j)+1) (by omega) (by omega)) (⟨stays.arr (by simp[rowsOf,mkLs_len]),trivial⟩) rfl rfl) rfl ?_
  refine lTt (((famB vs (byW (mkJ mWr gWr cs k j))++R).set j .gone)) [0,1,4,5,25] [0,77] ?_
  refine laI Z<|lN<|gB<|gT ?_
  refine aTt (((famB vs (byW (mkJ mWr gWr cs k j))++R).set j .gone)) [0,1,4,5] [0,77] ?_
  refine AW.putBack 77 j rfl rfl hrf2 (by rw[List.getElem?_set_self (by rw[List.length_append];omega)]) ?_
  rw[List.set_set]
  have hrf3:rowF ((famB vs (byW (mkJ mWr gWr cs k j))++R).set j (.arr ⟨5,some vj⟩ 1 (rowsOf encU (mkdB (k+cntG mWr (cs.take j)+1) cs[j].bytes.length)))):=rowF.set (rowF.app famB_row hR) rfl
  refine aL<|lmI Z<|lgI Z<|laI Z<|nG ?_
  refine⟨j+1,hj,by omega,⟨(iq rfl),(Eq.trans (b:=int _) rfl (congrArg int (by rw[hpt2];omega))),trivial⟩,⟨(Eq.trans (b:=AO.arr ⟨123,some u⟩ 2 ((rowsWV vs (mkJ mWr gWr cs k j)).set j [.v (.int .i64 (k+cntG mWr (cs.take j))),.v vj])) rfl (congrArg (AO.arr ⟨123,some u⟩ 2) (by rw[mkJ_succ hj,rowsWV_set hvj]))),trivial⟩,⟨rfl,rfl,trivial⟩,trivial,(by rw[mkJ_succ hj,famW_put hvj,←List.set_append_left _ _ (by omega)];exact tlp)⟩
 ·intro h1
  refine aE<|eT<|eT<|eB<|gA<|lmI Z<|laI Z<|nG<|aR ?_
  have hje:j=cs.length:=by have h:=h1;simp only[decide_eq_false_iff_not]at h;omega
  subst hje
  rw[mkJ_all]at hrf ⊢
  rw[List.take_length]
  refine end_nret (F1:=(famB vs (byW (mkG mWr gWr cs k))++R)) (int (k+cntG mWr cs)) ([(0,.arr ⟨123,some u⟩ 2 (rowsWV vs (mkG mWr gWr cs k)))]) ?_ (by rw[List.length_append,famB_len (by rw[List.length_map,mkG_len];exact hv),List.length_map,mkG_len];omega) rfl rfl ⟨rfl,trivial⟩ tlp
  exact⟨rfl,rfl,rfl⟩
abbrev obP(u1 u2:Value)(vs us:List Value)(d:Disk):List (Nat×AO):=[(1,.arr ⟨115,some u1⟩ 1 (rowsCV vs)),(2,.arr ⟨123,some u2⟩ 2 (rowsWV us d.dirty))]
theorem famD_assoc{vs us:List Value}{d:Disk}{R:List AO}:famD vs us d++R=famB vs (byC d.cells)++(famB us (byW d.dirty)++R):=List.append_assoc ..
theorem markDisk_e(u1 u2:Value)(vs us:List Value)(d:Disk)(R:List AO)(k:Int)(hv:vs.length=d.cells.length)(hu:us.length=d.dirty.length)(hR:rowF R)(hRl:R.length≤3000000)(hz:DkZ d)(hk:0≤k∧k≤10000000000):GN Try.prog 23 [.agg [.own 1,.own 2],int k] (obP u1 u2 vs us d) (famD vs us d++R) (fun y l1 F1=>y=int (k+dcnt d)∧l1=obP u1 u2 vs us (mkDk d k)∧F1=famD vs us (mkDk d k)++R):=by
 have hrf0:rowF (famD vs us d++R):=rowF.app famD_row hR
 refine GN.intro (rs:=[.tmp 4]) Try.func23 rfl Try.ntmps23 (Nat.le_of_ble_eq_true rfl) ⟨rfl,trivial⟩ rfl ?_
 intro L O w0
 refine sL<|lst (zX 2002 Z) Z<|laI Z<|nG<|aS ?_
 rw[famD_assoc]
 have hr1:rowF (famB vs (byC d.cells)++(famB us (byW d.dirty)++R)):=rowF.app famB_row (rowF.app famB_row hR)
 have hu2:(famB us (byW d.dirty)).length=d.dirty.length:=by rw[famB_len (by simpa using hu),List.length_map]
 have hv2:(famB vs (byC d.cells)).length=d.cells.length:=by rw[famB_len (by simpa using hv),List.length_map]
 have hc0:=cntG_nn mCe_nn d.cells
 have hc1:=hz.cc
 have hw0:=cntG_nn mWr_nn d.dirty
 have hw1:=hz.cw
 have hlc:=hz.lc
 have hlw:=hz.lw
 refine aL<|lf 0 ty.F34_0 Z<|loO ty.kd31 Z<|lmI Z ?_
 refine AL.stx (StX.callN (F:=(famB vs (byC d.cells)++(famB us (byW d.dirty)++R))) [(0,1)] [] [0] 0 Try.func62 (markCellS_e u1 vs d.cells (famB us (byW d.dirty)++R) k hv (rowF.app famB_row hR) (by rw[List.length_append,hu2];omega) hz.lc (by omega) (by omega)) tlp List.drop_zero List.take_zero (Nat.zero_le _) ((by rw[List.length_append,List.length_append,hu2,hv2];omega)) ((fun y l F ⟨_,e2,_⟩=>by subst e2;exact⟨stays.arr rfl,trivial⟩)) rfl rfl) rfl ?_
 rintro _ _ ⟨xz1,oz1,Fz1,hz1,hF1,hM1,rfl,rfl⟩
 obtain⟨rfl,rfl,rfl⟩:=hz1
 have hrf1:rowF ([]++(famB vs (byC (mkG mCe gCe d.cells k))++(famB us (byW d.dirty)++R))):=rowF.app (by first|assumption|exact rowF.nil) hF1
 refine laI Z<|nG<|aS ?_
 rw[List.nil_append]
 have hrA:rowF (famB vs (byC (mkG mCe gCe d.cells k))):=famB_row
 have hr2:rowF (famB vs (byC (mkG mCe gCe d.cells k))++(famB us (byW d.dirty)++R)):=rowF.app famB_row (rowF.app famB_row hR)
 have hv3:(famB vs (byC (mkG mCe gCe d.cells k))).length=d.cells.length:=by rw[famB_len (by rw[List.length_map,mkG_len];exact hv),List.length_map,mkG_len]
 refine aL<|lf 1 ty.F34_1 Z<|loO ty.kd32 Z<|lmI Z ?_
 refine AL.stx (StX.callN (F:=(famB vs (byC (mkG mCe gCe d.cells k))++(famB us (byW d.dirty)++R))) [(0,2)] [] [0] (famB vs (byC (mkG mCe gCe d.cells k))).length Try.func63 (markWriteS_e u2 us d.dirty R (k+cntG mCe d.cells) hu hR (by omega) hz.lw (by omega) (by omega)) tlp List.drop_left List.take_left (by simp) ((by rw[List.length_append,List.length_append,hu2,hv3];omega)) ((fun y l F ⟨_,e2,_⟩=>by subst e2;exact⟨stays.arr (by rw[rowsWV_len (by rw[mkG_len];exact hu),mkG_len,rowsWV_len hu]),trivial⟩)) rfl rfl) rfl ?_
 rintro _ _ ⟨xz2,oz2,Fz2,hz2,hF2,hM2,rfl,rfl⟩
 obtain⟨rfl,rfl,rfl⟩:=hz2
 have hrf2:rowF (famB vs (byC (mkG mCe gCe d.cells k))++(famB us (byW (mkG mWr gWr d.dirty (k+cntG mCe d.cells)))++R)):=rowF.app (by first|assumption|exact rowF.nil) hF2
 refine laI Z<|nA<|lmI Z<|laI Z<|nG<|aR ?_
 have hrE:rowF (famD vs us (mkDk d k)++R):=rowF.app famD_row hR
 rw[show famB vs (byC (mkG mCe gCe d.cells k))++(famB us (byW (mkG mWr gWr d.dirty (k+cntG mCe d.cells)))++R)=famD vs us (mkDk d k)++R from(famD_assoc (vs:=vs) (us:=us) (d:=mkDk d k) (R:=R)).symm]
 refine end_nret (F1:=(famD vs us (mkDk d k)++R)) (int ((k+cntG mCe d.cells)+cntG mWr d.dirty)) (obP u1 u2 vs us (mkDk d k)) ?_ (by rw[List.length_append,famD_len (d:=(mkDk d k)) (by show vs.length=(mkG mCe gCe d.cells k).length;rw[mkG_len];exact hv) (by show us.length=(mkG mWr gWr d.dirty _).length;rw[mkG_len];exact hu)];show (mkG mCe gCe d.cells k).length+(mkG mWr gWr d.dirty _).length+R.length≤_;rw[mkG_len,mkG_len];omega) rfl rfl ⟨rfl,rfl,trivial⟩ tlp
 exact⟨congrArg int (by unfold dcnt;omega),rfl,rfl⟩
end Go.Proofs.Yteblcdnhnckkaaa

