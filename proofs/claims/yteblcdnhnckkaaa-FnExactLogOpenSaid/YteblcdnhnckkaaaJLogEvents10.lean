/- FnExactLogOpen is proved: the given statement holds with no condition. Texts joined: EP3, LdRV, LFnExactLogOpen, CFnExactLogOpen. -/
import Derived.Test.YteblcdnhnckkaaaJLogEvents9
import Derived.Test.YteblcdnhnckkaaaJLogEvents6
import Derived.Test.YteblcdnhnckkaaaJLogEvents7
import Derived.Test.YteblcdnhnckkaaaRows
import Derived.Test.YteblcdnhnckkaaaKOpn
namespace Go.Proofs.Yteblcdnhnckkaaa
open Go.RowKit
set_option maxHeartbeats 16000000
set_option maxRecDepth 100000
set_option linter.unusedSimpArgs false
set_option linter.unusedVariables false
theorem toDisk_f(d:Disk)(hz:DkZ d):GC Try.prog 19 [ldiskV d] [] (diskV d) []:=diskRel_f (toDisk_n d hz)
theorem flat_CV{vs:List Value}:∀r∈rowsCV vs,∀p∈r,∃v,p=PV.v v:=fun r hr p hp=>by
 unfold rowsCV at hr
 obtain⟨v,_,rfl⟩:=List.mem_map.1 hr
 rw[List.mem_singleton.1 hp]
 exact⟨_,rfl⟩
theorem flat_WV:∀ {vs:List Value} {ws:List Write},∀r∈rowsWV vs ws,∀p∈r,∃v,p=PV.v v
 |[],_,r,hr=>by unfold rowsWV at hr;simp at hr
 |_::_,[],r,hr=>by unfold rowsWV at hr;simp at hr
 |v::vs,q::ws,r,hr=>by
  unfold rowsWV at hr
  rw[List.zipWith_cons_cons]at hr
  rcases List.mem_cons.1 hr with rfl|hr
  ·intro p hp
   simp at hp
   rcases hp with rfl|rfl
   ·exact⟨_,rfl⟩
   ·exact⟨_,rfl⟩
  ·exact flat_WV (vs:=vs) (ws:=ws) r hr
theorem flat_famB:∀ {vs:List Value} {bs:List (List Int)},∀o∈famB vs bs,flatR o
 |[],_,r,hr=>by unfold famB at hr;simp at hr
 |_::_,[],r,hr=>by unfold famB at hr;simp at hr
 |v::vs,q::bs,r,hr=>by
  unfold famB at hr
  rw[List.zipWith_cons_cons]at hr
  rcases List.mem_cons.1 hr with rfl|hr
  ·exact flat_rowsOf
  ·exact flat_famB (vs:=vs) (bs:=bs) r hr
theorem flat_famD{vs us:List Value}{d:Disk}:∀o∈famD vs us d,flatR o:=fun o ho=>by
 unfold famD at ho
 rcases List.mem_append.1 ho with q|q
 ·exact flat_famB o q
 ·exact flat_famB o q
abbrev obQ(u1 u2:Value)(vs us:List Value)(d:Disk):List (Nat×AO):=[(4,.arr ⟨115,some u1⟩ 1 (rowsCV vs)),(5,.arr ⟨123,some u2⟩ 2 (rowsWV us d.dirty))]
theorem rdQ{u1 u2:Value}{vs us:List Value}{d:Disk}(hv:vs.length=d.cells.length)(hu:us.length=d.dirty.length):Reads (tl (ofO (obQ u1 u2 vs us d)) (famD vs us d)) (.agg [.own 4,.own 5]) (diskV d):=
 fun{L ρ w c} hob hx=>rdDisk (s:=0) (Tl.tl famD_row) rfl rfl hv hu (fun i _=>by rw[Nat.zero_add]) hob hx
theorem rdLog{H:Nat→AO}{F:List AO}{a b:Nat}{pa pb:Option Value}{vs us:List Value}{d:Disk}{n e:Int}{s:Nat}(hT:Tl H F)(ha:H a=.arr ⟨115,pa⟩ 1 (rowsCV vs))(hb:H b=.arr ⟨123,pb⟩ 2 (rowsWV us d.dirty))(hv:vs.length=d.cells.length)(hu:us.length=d.dirty.length)(hF:∀i,i<(famD vs us d).length→F[s+i]? = (famD vs us d)[i]?):Reads H (.agg [.own a,.own b,int n,int e]) (.agg [.p (.lst 115 1 (rowsC d.cells)),.p (.lst 123 2 (rowsW d.dirty)),int n,int e]):=by
 have l1:(famB vs (byC d.cells)).length=d.cells.length:=by rw[famB_len (by simpa using hv),List.length_map]
 have l2:(famB us (byW d.dirty)).length=d.dirty.length:=by rw[famB_len (by simpa using hu),List.length_map]
 have k1:∀i,i<d.cells.length→F[s+i]? = (famB vs (byC d.cells))[i]?:=fun i hi=>by
  rw[hF i (by unfold famD;rw[List.length_append];omega)];unfold famD;rw[List.getElem?_append_left (by omega)]
 have k2:∀i,i<d.dirty.length→F[s+d.cells.length+i]? = (famB us (byW d.dirty))[i]?:=fun i hi=>by
  rw[Nat.add_assoc,hF (d.cells.length+i) (by unfold famD;rw[List.length_append];omega)];unfold famD;rw[List.getElem?_append_right (by omega)];congr 1;omega
 intro L ρ w c hob hx
 exact Reads.agg (.cons (Reads.own ha (deepCV hT hv k1)) (.cons (Reads.own hb (deepWV hT hu k2)) (.cons (Reads.lend rfl) (.cons (Reads.lend rfl) .nil)))) hob hx
theorem syncs_ok:∀(ws:List Write) (cs:List Cell),cs.all cellOk=true→(∀w∈ws,w.bytes.length=128)→(ws.foldl syncStep cs).all cellOk=true
 |[],cs,h,_=>h
 |w::ws,cs,h,hw=>by
  rw[List.foldl_cons]
  exact syncs_ok ws _ (cells_set h (hw w (by simp))) (fun x hx=>hw x (by simp[hx]))
theorem dok_diskS{d:Disk}(h:diskOk d=true):diskOk (diskS d)=true:=by
 have h1:=dok_iff h
 rw[diskS_y h]
 refine dok_y ⟨by show 1≤(synK d _).length;rw[synK_len];exact h1.1.1,by show (synK d _).length≤600;rw[synK_len];exact h1.1.2.1,Nat.zero_le _⟩ (syncs_ok _ _ h1.2.1 fun w hw=>?_) rfl
 obtain⟨j,hj,rfl⟩:=List.getElem_of_mem (List.mem_of_mem_take hw)
 exact dok_w h hj
theorem dok_z{d:Disk}(h:diskOk d=true):DkZ d:=by
 have h1:=(dok_iff h).1
 have hc:∀c∈d.cells,c.bytes.length≤128:=fun c hc=>by
  obtain⟨j,hj,rfl⟩:=List.getElem_of_mem hc
  exact dok_c h hj
 have hw:∀c∈d.dirty,c.bytes.length≤128:=fun c hc=>by
  obtain⟨j,hj,rfl⟩:=List.getElem_of_mem hc
  exact Nat.le_of_eq (dok_w h hj)
 have k1:=cntG_bd (n:=mCe) (B:=128) (l:=d.cells) fun c q=>⟨mCe_nn c,by have:=hc c q;show (c.bytes.length:Int)≤128;omega⟩
 have k2:=cntG_bd (n:=mWr) (B:=129) (l:=d.dirty) fun c q=>⟨mWr_nn c,by have:=hw c q;show 1+(c.bytes.length:Int)≤129;omega⟩
 exact⟨by omega,by omega,fun c q=>Nat.le_trans (hc c q) (by decide),fun c q=>Nat.le_trans (hw c q) (by decide),by omega,by omega⟩
theorem zero_z:DkZ ⟨[],[]⟩:=⟨by simp,by simp,(fun c h=>by cases h),(fun c h=>by cases h),by simp[cntG],by simp[cntG]⟩
theorem lgOp_cases(d:Disk):lgOpC d=0∧diskOk d=true∧diskOk (lgOpL d).disk=true∨lgOpC d≠0∧lgOpL d=⟨⟨[],[]⟩,0,0⟩:=by
 by_cases hc:lgOpC d=0
 ·have hd:diskOk d=true:=by
   unfold lgOpC at hc
   cases h:diskOk d with
   |true=>rfl
   |false=>rw[h]at hc;cases hc
  have h0:d.dirty.length=0:=by
   unfold lgOpC at hc
   by_cases h:d.dirty.length=0
   ·exact h
   ·rw[hd,if_neg (by simp[h])]at hc;cases hc
  have h2:¬((logR d).length=d.cells.length∨16000000≤logTop d):=fun q=>by rw[lg2 hd h0 q]at hc;cases hc
  have:=logR_le hd
  refine .inl ⟨hc,hd,?_⟩
  rw[lgL_y hc]
  exact dok_diskS (dok_diskW hd (by omega) (by omega) (secB_length (Nat.le_of_ble_eq_true rfl)))
 ·exact .inr ⟨hc,lgL_n hc⟩
theorem lgOp_z(d:Disk):DkZ (lgOpL d).disk:=by
 rcases lgOp_cases d with h|h
 ·exact dok_z h.2.2
 ·rw[h.2];exact zero_z
theorem lgOpE_len(d:Disk):(lgOpE d).length≤600:=by
 unfold lgOpE
 split
 ·exact logE_len d
 ·simp
abbrev lgOpV(d:Disk):AV:=.tup [logV (lgOpL d),.p (.lst 40 7 (rowsOf encEvent (lgOpE d))),int (lgOpC d)]
theorem logOpen_f(d:Disk)(hb:DkB d):GC Try.prog 27 [diskV d] [] (lgOpV d) []:=
 (GX.frozen (Z:=fun y=>y=lgOpV d) (show GX Try.prog _ _ [] _ from logOpen_n d hb) fun x ob ⟨l1,F1,hs,hF,hM,e,⟨vs,us,hv,hu,e1,e2,e3⟩⟩=>by
   subst e e1 e2 e3
   refine⟨lgOpV d,?_,rfl⟩
   have hT:Tl (ofO (obL vs us (lgOpL d).disk (lgOpE d)++famL 1000000 (famD vs us (lgOpL d).disk))) (famD vs us (lgOpL d).disk):=by rw[ofO_fam rfl];exact Tl.tl hF
   have l1:(famB vs (byC (lgOpL d).disk.cells)).length=(lgOpL d).disk.cells.length:=by rw[famB_len (by simpa using hv),List.length_map]
   exact Still.tup (H:=ofO (obL vs us (lgOpL d).disk (lgOpE d)++famL 1000000 (famD vs us (lgOpL d).disk))) (.cons (Still.agg (.cons (Still.own (id:=1) (e:=⟨115,none⟩) (sz:=1) (rows:=rowsCV vs) rfl (deepCV hT hv (s:=0) fun i hi=>by unfold famD;rw[Nat.zero_add,List.getElem?_append_left (by omega)]))
    (.cons (Still.own (id:=2) (e:=⟨123,none⟩) (sz:=2) (rows:=rowsWV us (lgOpL d).disk.dirty) rfl (deepWV hT hu (s:=(lgOpL d).disk.cells.length) fun i hi=>by unfold famD;rw[List.getElem?_append_right (by omega)];congr 1;omega)) (.cons (Still.p _) (.cons (Still.p _) .nil))))) (.cons (Still.row (id:=3) (e:=⟨40,none⟩) (sz:=7) (rows:=rowsOf encEvent (lgOpE d)) rfl) (.cons (Still.p _) .nil)))).mono fun y o ⟨e1,e2⟩=>⟨e2,e1⟩
theorem slogOpen_f(d:Disk)(hb:DkB d):GC Try.prog 26 [diskV d] [] (lgOpV d) []:=
 (GX.frozen (Z:=fun y=>y=lgOpV d) (slogOpen_o d hb) fun x ob ⟨h1,h2⟩=>by
   subst h1 h2
   exact⟨_,Still.tup (.cons (Still.agg (.cons (Still.row (e:=⟨115,none⟩) (sz:=1) (rows:=rowsC (lgOpL d).disk.cells) rfl) (.cons (Still.row (e:=⟨123,none⟩) (sz:=2) (rows:=rowsW (lgOpL d).disk.dirty) rfl) (.cons (Still.p _) (.cons (Still.p _) .nil))))) (.cons (Still.row (e:=⟨40,none⟩) (sz:=7) (rows:=rowsOf encEvent (lgOpE d)) rfl) (.cons (Still.p _) .nil))),rfl⟩).mono fun y o ⟨e1,e2⟩=>⟨e2,e1⟩
theorem lentOp(u1 u2:Value)(vs us:List Value)(d:Disk)(hb:DkB d)(hz:DkZ d)(hv:vs.length=d.cells.length)(hu:us.length=d.dirty.length) :
 GN Try.prog 27 [.agg [.own 4,.own 5]] (obQ u1 u2 vs us d) (famD vs us d) fun y l F=>∃vs2 us2:List Value,vs2.length=(lgOpL d).disk.cells.length∧us2.length=(lgOpL d).disk.dirty.length∧y=.tup [.agg [.own 1,.own 2,int (lgOpL d).next,int (lgOpL d).epoch],.own 3,int (lgOpC d)]∧l=obL vs2 us2 (lgOpL d).disk (lgOpE d)++obQ u1 u2 vs us d∧F=famD vs us d++famD vs2 us2 (lgOpL d).disk:=
 (GN.lentD (logOpen_n d hb) (.cons (rdQ hv hu) .nil) famD_row rfl (fun x l1 F1 ⟨vs2,us2,h1,h2,e1,e2,e3⟩=>by
   subst e1 e2 e3
   have hz2:=lgOp_z d
   refine⟨rfl,fun id hid=>?_,fun p hp=>?_,flat_famD,?_⟩
   ·simp[ownN,ownNL]at hid
    rcases hid with rfl|rfl|rfl<;>rfl
   ·simp at hp
    rcases hp with rfl|rfl|rfl
    ·exact flat_CV
    ·exact flat_WV
    ·exact flat_rowsOf
   ·rw[famD_len hv hu,famD_len h1 h2];have:=hz.lc;have:=hz.lw;have:=hz2.lc;have:=hz2.lw;omega)).mono fun y ob ⟨l1,F1,q1,q2,q3,q4,l2,F2,⟨vs2,us2,h1,h2,e1,e2,e3⟩,e4,e5⟩=>by
   subst e1 e2 e3 e4 e5
   exact⟨_,_,q1,q2,q3,q4,vs2,us2,h1,h2,rfl,rfl,rfl⟩
theorem FnExactLogOpen_e(x:Disk)(hb:DkB x)(hmc:x.cells.length≤9223372036854775807)(hbc:∀c∈x.cells,c.bytes.length≤9223372036854775807)(hmw:x.dirty.length≤9223372036854775807)(hbw:∀c∈x.dirty,c.bytes.length≤9223372036854775807):GC Try.prog 5 [ldiskV x] [] (boo true) []:=by
 refine gi 2 Try.func5 rfl Try.ntmps5 rfl ?_
 intro L O w0
 refine sL<|lst (zX 2001 rfl) Z<|laZ Z<|nA<|laI Z<|nA<|loX (.agg [vL _ _ _,vL _ _ _]) ty.kd25 Z<|lmI Z<|lst (zL Try.func17 (szDisk_e x 1048576 (by omega) (by omega) hmc hbc hmw hbw) rfl) Z<|laI Z<|nG<|aS<|sL<|lmI Z<|lbB Z<|nG ?_
 refine AW.cond rfl ?_ ?_
 ·intro h1
  refine sL<|laT Z<|nG<|aR<|rT ?_
  refine end_ret ?_ trivial
  rfl
 ·intro h1
  refine aK<|gT<|aS ?_
  have hs:0≤szD x 1048576:=by have h:=h1;simp only[decide_eq_false_iff_not]at h;omega
  have hz:=szD_y hs
  obtain⟨hc0,hc1⟩:=dcnt_bd hz.m
  have hlc:=hz.lc
  have hlw:=hz.lw
  have hz2:=lgOp_z x
  obtain⟨hd0,hd1⟩:=dcnt_bd hz2.m
  have hel:=lgOpE_len x
  have hlc2:=hz2.lc
  have hlw2:=hz2.lw
  refine aL<|loX (.agg [vL _ _ _,vL _ _ _]) ty.kd25 Z<|lst (zC [] [] [] Try.func19 (toDisk_f x hz) (trivial) Z Z) Z<|lst (zC [] [] [] Try.func26 (slogOpen_f x hb) (trivial) Z Z) Z<|lmX (.tup [.agg [vL _ _ _,vL _ _ _,vI _ _,vI _ _],vL _ _ _,vI _ _]) Z<|lxX (.agg [vL _ _ _,vL _ _ _,vI _ _,vI _ _]) Z<|lxL Z<|lxI Z<|lst (zA 2004 ty.ze36 Z) Z ?_
  refine lTt ([]) [1,2,4,26,27,28] [2001,2004] ?_
  refine lst (zB 2004 ty.co36 ty.inf36 Z) Z<|laL Z<|laI Z<|nA<|loX (.agg [vL _ _ _,vL _ _ _]) ty.kd25 Z ?_
  refine AL.stx (StX.callN (F:=[]) [(1,11),(2,12)] [11,12] [] ([]).length Try.func19 (toDisk_n x hz) tlp List.drop_length List.take_length (Nat.le_refl _) ((by simp)) (fun _ _ _ _=>trivial) rfl rfl) rfl ?_
  rintro _ _ ⟨xz1,oz1,Fz1,hz1,hF1,hM1,rfl,rfl⟩
  obtain⟨vs1,us1,hv1,hu1,rfl,rfl,rfl⟩:=hz1
  have hrf1:rowF ([]++famD vs1 us1 x):=rowF.app (by first|assumption|exact rowF.nil) hF1
  refine lst (zA 2007 ty.ze34 Z) Z<|lst (zB 2007 ty.co34 ty.inf34 Z) Z<|nG<|aS ?_
  rw[List.nil_append]
  have hrf1:rowF (famD vs1 us1 x):=famD_row
  have hFl:=famD_len hv1 hu1
  refine AW.pinA 11 rfl ?_
  intro u11
  refine AW.pinA 12 rfl ?_
  intro u12
  refine aL<|loX (.agg [.own _,.own _]) ty.kd34 Z ?_
  refine AL.stx (StX.callN (F:=(famD vs1 us1 x)) [(1,21),(2,22),(3,23),(4,11),(5,12)] [21,22,23] [4,5] 0 Try.func27 (lentOp u11 u12 vs1 us1 x hb hz hv1 hu1) tlp List.drop_zero List.take_zero (Nat.zero_le _) ((by rw[hFl];omega)) ((fun y l F ⟨_,_,_,_,_,e2,_⟩=>by subst e2;exact⟨stays.arr rfl,stays.arr rfl,trivial⟩)) rfl rfl) rfl ?_
  rintro _ _ ⟨xz2,oz2,Fz2,hz2,hF2,hM2,rfl,rfl⟩
  obtain⟨vs2,us2,hv2,hu2,rfl,rfl,rfl⟩:=hz2
  have hrf2:rowF ([]++(famD vs1 us1 x++famD vs2 us2 (lgOpL x).disk)):=rowF.app (by first|assumption|exact rowF.nil) hF2
  refine lmX (.tup [.agg [.own _,.own _,vI _ _,vI _ _],.own _,vI _ _]) Z<|lxX (.agg [.own _,.own _,vI _ _,vI _ _]) Z<|lxO Z<|lxI Z<|lst (zA 2008 ty.ze36 Z) Z ?_
  refine lTt (([]++(famD vs1 us1 x++famD vs2 us2 (lgOpL x).disk))) [1,2,4,5,6,7,8,34,35,36] [11,12,21,22,23,2001,2004,2007,2008] ?_
  refine lst (zB 2008 ty.co36 ty.inf36 Z) Z<|laO Z<|laI Z<|nG<|aS<|aS ?_
  rw[List.nil_append]
  have hrf2:rowF (famD vs1 us1 x++famD vs2 us2 (lgOpL x).disk):=rowF.app famD_row famD_row
  have hFl2:=famD_len hv2 hu2
  refine aL<|loX (.agg [.own _,.own _,vI _ _,vI _ _]) ty.kd36 Z<|loX (.agg [vL _ _ _,vL _ _ _,vI _ _,vI _ _]) ty.kd36 Z<|lst (zLN Try.func14 (eqLog_e (lgOpL x) hz2.e) rfl (.cons (rdLog (vs:=vs2) (us:=us2) (d:=(lgOpL x).disk) (s:=(famD vs1 us1 x).length) tlp rfl rfl hv2 hu2 at_last) (.cons (Reads.lend rfl) .nil))) Z<|luZ Z<|lsB 40 false rfl (by first|(simp;done)|(simp;omega))<|lmZ Z<|lmO Z<|lmL Z<|lst (zL Try.func21 (eqEventS_e (lgOpE x) (by omega)) rfl) Z<|luZ Z<|lsB 45 false rfl (by first|(simp;done)|(simp;omega))<|lkZ Z<|lmZ Z<|lmI Z<|lmI Z<|lbB Z<|lsB 50 false rfl (by first|(simp;done)|(simp;omega))<|lkZ Z<|nG<|aN Z<|aK<|gT<|aS<|aS<|aF []<|sq 0 (roX (.agg [.own _,.own _]) ty.kd34 rfl)<|vq 1 (roX (.agg [vL _ _ _,vL _ _ _]) ty.kd25 rfl)<|vst 2 rfl (zC [] [] [] Try.func19 (toDisk_f x hz) (trivial) rfl rfl) (.inr rfl) ?_
  refine fTt ((famD vs1 us1 x++famD vs2 us2 (lgOpL x).disk)) [1,2,4,5,6,7,8,9,10,52,54] [11,12,21,22,23,2001,2004,2007,2008] ?_
  refine vst 3 rfl (zLN Try.func22 (eqDisk_e x hz.e) rfl (.cons (rdDisk (vs:=vs1) (us:=us1) (d:=x) (s:=0) tlp rfl rfl hv1 hu1 (fun j hj=>by rw[Nat.zero_add,List.getElem?_append_left hj])) (.cons (Reads.lend rfl) .nil))) (.inr rfl)<|vq 4 (ruZ rfl)<|fsB 56 false rfl (by first|(simp;done)|(simp;omega))<|fD<|gT<|aN Z<|aK<|gA<|laI Z<|nA<|loX (.agg [.own _,.own _]) ty.kd34 Z<|lmI rfl ?_
  refine AL.stx (StX.callN (F:=(famD vs1 us1 x++famD vs2 us2 (lgOpL x).disk)) [(1,11),(2,12)] [] [1,2] 0 Try.func23 (markDisk_e u11 u12 vs1 us1 x (famD vs2 us2 (lgOpL x).disk) 1 hv1 hu1 famD_row (by rw[hFl2];omega) hz (by omega)) tlp List.drop_zero List.take_zero (Nat.zero_le _) ((by rw[List.length_append,hFl,hFl2];omega)) ((fun y l F ⟨_,e2,_⟩=>by subst e2;exact⟨stays.arr rfl,stays.arr (by show (rowsWV us1 (mkG mWr gWr _ _)).length=_;rw[rowsWV_len (by rw[mkG_len];exact hu1),mkG_len,rowsWV_len hu1]),trivial⟩)) rfl rfl) rfl ?_
  rintro _ _ ⟨xz3,oz3,Fz3,hz3,hF3,hM3,rfl,rfl⟩
  obtain⟨rfl,rfl,rfl⟩:=hz3
  have hrf3:rowF ([]++(famD vs1 us1 (mkDk x 1)++famD vs2 us2 (lgOpL x).disk)):=rowF.app (by first|assumption|exact rowF.nil) hF3
  refine laI Z<|nG<|aS<|aS ?_
  rw[List.nil_append]
  have hrA:rowF (famD vs1 us1 (mkDk x 1)):=famD_row
  have hrf3:rowF (famD vs1 us1 (mkDk x 1)++famD vs2 us2 (lgOpL x).disk):=rowF.app famD_row famD_row
  refine aL<|lmI Z<|lbB Z<|lsB 61 false rfl (by first|(simp;done)|(simp;omega))<|lmZ Z<|loX (.agg [.own _,.own _,vI _ _,vI _ _]) ty.kd36 Z<|loX (.agg [vL _ _ _,vL _ _ _,vI _ _,vI _ _]) ty.kd36 Z<|lst (zLN Try.func14 (eqLog_e (lgOpL x) hz2.e) rfl (.cons (rdLog (vs:=vs2) (us:=us2) (d:=(lgOpL x).disk) (s:=(famD vs1 us1 (mkDk x 1)).length) tlp rfl rfl hv2 hu2 at_last) (.cons (Reads.lend rfl) .nil))) Z<|luZ Z<|lsB 66 false rfl (by first|(simp;done)|(simp;omega))<|lkZ Z<|lmZ Z<|lmO Z<|lmL Z<|lst (zL Try.func21 (eqEventS_e (lgOpE x) (by omega)) rfl) rfl ?_
  refine lTt ((famD vs1 us1 (mkDk x 1)++famD vs2 us2 (lgOpL x).disk)) [1,2,4,5,6,8,9,10,68,71] [21,22,23,2001,2004,2008] ?_
  refine luZ Z<|lsB 72 false rfl (by first|(simp;done)|(simp;omega))<|lkZ Z<|lmZ Z<|lmI Z<|lmI Z<|lbB Z<|lsB 77 false rfl (by first|(simp;done)|(simp;omega))<|lkZ Z<|nG<|aN Z<|aK<|gA<|laI Z<|nG<|aS ?_
  refine AW.pinA 21 rfl ?_
  intro u21
  refine AW.pinA 22 rfl ?_
  intro u22
  rw[←List.append_nil (famD vs2 us2 (lgOpL x).disk)]
  have hrf4:rowF (famD vs1 us1 (mkDk x 1)++(famD vs2 us2 (lgOpL x).disk++[])):=rowF.app famD_row (rowF.app famD_row rowF.nil)
  refine aL<|loX (.agg [.own _,.own _,vI _ _,vI _ _]) ty.kd36 Z<|lmI Z ?_
  refine AL.stx (StX.callN (F:=(famD vs1 us1 (mkDk x 1)++(famD vs2 us2 (lgOpL x).disk++[]))) [(1,21),(2,22)] [] [1,2] (famD vs1 us1 (mkDk x 1)).length Try.func15 (markLog_e u21 u22 vs2 us2 (lgOpL x).disk [] 1 hv2 hu2 rowF.nil (by simp) hz2 (by omega) (lgOpL x).next (lgOpL x).epoch) tlp List.drop_left List.take_left (by simp) ((by rw[List.length_append,List.append_nil,hFl2,famD_len (d:=mkDk x 1) (by show _=(mkG mCe gCe _ _).length;rw[mkG_len];exact hv1) (by show _=(mkG mWr gWr _ _).length;rw[mkG_len];exact hu1)];show (mkG mCe gCe _ _).length+(mkG mWr gWr _ _).length+_≤_;rw[mkG_len,mkG_len];omega)) ((fun y l F ⟨_,e2,_⟩=>by subst e2;exact⟨stays.arr rfl,stays.arr (by show (rowsWV us2 (mkG mWr gWr _ _)).length=_;rw[rowsWV_len (by rw[mkG_len];exact hu2),mkG_len,rowsWV_len hu2]),trivial⟩)) rfl rfl) rfl ?_
  rintro _ _ ⟨xz4,oz4,Fz4,hz4,hF4,hM4,rfl,rfl⟩
  obtain⟨rfl,rfl,rfl⟩:=hz4
  have hrf4:rowF (famD vs1 us1 (mkDk x 1)++(famD vs2 us2 (mkDk (lgOpL x).disk 1)++[])):=rowF.app (by first|assumption|exact rowF.nil) hF4
  refine laI Z<|nG<|aS ?_
  rw[List.append_nil (famD vs2 us2 (mkDk (lgOpL x).disk 1))]
  have hrf5:rowF (famD vs1 us1 (mkDk x 1)++famD vs2 us2 (mkDk (lgOpL x).disk 1)):=rowF.app famD_row famD_row
  refine AW.pinA 23 rfl ?_
  intro u23
  refine aL<|lmO Z<|lmI Z ?_
  refine lst (zC [(0,23)] [] [0] Try.func24 (markEventS_e u23 (lgOpE x) (1+dcnt (lgOpL x).disk) (by omega) (by omega)) (⟨stays.arr (by simp[rowsOf,mkLs_len]),trivial⟩) rfl rfl) rfl ?_
  refine lTt ((famD vs1 us1 (mkDk x 1)++famD vs2 us2 (mkDk (lgOpL x).disk 1))) [1,2,4,5,6,8,9,12,84] [21,22,23,2001,2004,2008] ?_
  refine laI Z<|nA<|laI Z<|nA<|loX (.agg [.own _,.own _,vI _ _,vI _ _]) ty.kd36 Z<|lmI Z<|lst (zLN Try.func16 (heldLog_e (lgOpL x) 1 hz2.m (by omega)) rfl (.cons (rdLog (vs:=vs2) (us:=us2) (d:=mkDk (lgOpL x).disk 1) (s:=(famD vs1 us1 (mkDk x 1)).length) tlp rfl rfl (by show _=(mkG mCe gCe _ _).length;rw[mkG_len];exact hv2) (by show _=(mkG mWr gWr _ _).length;rw[mkG_len];exact hu2) at_last) (.cons (Reads.lend rfl) .nil))) Z<|laI Z<|nG<|aS<|sL<|lmI Z<|lbB Z<|lsB 89 false rfl (by first|(simp;done)|(simp;omega))<|nG<|aN Z<|aK<|gA<|lmO rfl ?_
  refine lmI Z<|lst (zL Try.func25 (heldEventS_e (lgOpE x).length (1+dcnt (lgOpL x).disk) (by omega) (by omega)) rfl) Z<|laI Z<|nG<|aS<|sL<|lmI Z<|lbB Z<|lsB 94 false rfl (by first|(simp;done)|(simp;omega))<|nG<|aN Z<|aK<|gT<|aS<|sL<|lmI Z<|lmI Z<|lbB Z<|lsB 97 false rfl (by first|(simp;done)|(simp;omega))<|nG<|aN Z<|aK<|gA ?_
  refine loX (.agg [vL _ _ _,vL _ _ _]) ty.kd25 Z<|lst (zC [] [] [] Try.func19 (toDisk_f x hz) (trivial) Z Z) Z ?_
  refine lTt ((famD vs1 us1 (mkDk x 1)++famD vs2 us2 (mkDk (lgOpL x).disk 1))) [2,4,5,6,8,9,12,13,100] [21,22,23,2004,2008] ?_
  refine lst (zC [] [] [] Try.func27 (logOpen_f x hb) (trivial) rfl rfl) Z<|lmX (.tup [.agg [vL _ _ _,vL _ _ _,vI _ _,vI _ _],vL _ _ _,vI _ _]) Z<|lxX (.agg [vL _ _ _,vL _ _ _,vI _ _,vI _ _]) Z<|lxL Z<|lxI Z<|lst (zA 2014 ty.ze36 rfl) Z<|lst (zB 2014 ty.co36 ty.inf36 rfl) Z<|laL Z<|laI Z<|nG<|aS<|sL<|loX (.agg [vL _ _ _,vL _ _ _,vI _ _,vI _ _]) ty.kd36 Z<|loX (.agg [vL _ _ _,vL _ _ _,vI _ _,vI _ _]) ty.kd36 Z<|lst (zL Try.func14 (eqLog_e (lgOpL x) hz2.e) rfl) Z<|luZ Z<|lsB 108 false rfl (by first|(simp;done)|(simp;omega))<|lmZ Z<|lmL Z<|lmL Z<|lst (zL Try.func21 (eqEventS_e (lgOpE x) (by omega)) rfl) rfl ?_
  refine lTt ((famD vs1 us1 (mkDk x 1)++famD vs2 us2 (mkDk (lgOpL x).disk 1))) [2,6,8,9,12,13,16,109,112] [21,22,23,2008] ?_
  refine luZ Z<|lsB 113 false rfl (by first|(simp;done)|(simp;omega))<|lkZ Z<|lmZ Z<|lmI Z<|lmI Z<|lbB Z<|lsB 118 false rfl (by first|(simp;done)|(simp;omega))<|lkZ Z<|nG<|aN Z<|aK<|gA<|laI Z<|nA<|loX (.agg [.own _,.own _,vI _ _,vI _ _]) ty.kd36 Z<|lmI Z<|lst (zLN Try.func16 (heldLog_e (lgOpL x) 1 hz2.m (by omega)) rfl (.cons (rdLog (vs:=vs2) (us:=us2) (d:=mkDk (lgOpL x).disk 1) (s:=(famD vs1 us1 (mkDk x 1)).length) tlp rfl rfl (by show _=(mkG mCe gCe _ _).length;rw[mkG_len];exact hv2) (by show _=(mkG mWr gWr _ _).length;rw[mkG_len];exact hu2) at_last) (.cons (Reads.lend rfl) .nil))) Z<|laI Z<|nG<|aS<|sL ?_
  refine lmI Z<|lbB Z<|lsB 124 false rfl (by first|(simp;done)|(simp;omega))<|nG<|aN Z<|aK<|gA<|lmO Z<|lmI Z<|lst (zL Try.func25 (heldEventS_e (lgOpE x).length (1+dcnt (lgOpL x).disk) (by omega) (by omega)) rfl) rfl ?_
  refine lTt ((famD vs1 us1 (mkDk x 1)++famD vs2 us2 (mkDk (lgOpL x).disk 1))) [2,12,13,127] [] ?_
  refine laI Z<|nG<|aS<|sL<|lmI Z<|lbB Z<|lsB 129 false rfl (by first|(simp;done)|(simp;omega))<|nG<|aN Z<|aK<|gT<|aS<|sL<|lmI Z<|lmI Z<|lbB Z<|lsB 132 false rfl (by first|(simp;done)|(simp;omega))<|nG<|aN Z<|aK<|gA<|laT Z<|lN ?_
  refine gT<|aR ?_
  refine end_ret ?_ trivial
  rfl

theorem SlR.eachD{α:Type}{sz:Nat}{rep:World→Nat→Nat→List Value→α→Prop}{w:World}{lo hi:Nat}{v:Value}{xs:List α}{p:α→Prop}(h:SlR sz rep w lo hi v xs)(hp:∀lo hi cs x,rep w lo hi cs x→p x):∀x∈xs,p x:=by
 obtain⟨a,cap,rfl,c1,c2,hsl⟩:=h
 intro x hx
 rcases hsl with hz|⟨b,off,rfl,b1,b2,hel⟩
 ·subst hz;simp at hx
 ·obtain⟨i,hi,rfl⟩:=List.getElem_of_mem hx
  obtain⟨cs,h1,_⟩:=hel i hi
  exact hp _ _ _ _ h1
theorem SlR.short{α:Type}{sz:Nat}{rep:World→Nat→Nat→List Value→α→Prop}{w:World}{lo hi:Nat}{v:Value}{xs:List α}(h:SlR sz rep w lo hi v xs):xs.length≤9223372036854775807:=by
 obtain⟨a,c,_,k1,k2,_⟩:=h
 unfold maxLen at k2
 omega
theorem byteRW{w:World}{lo hi:Nat}{v:Value}{b:List Int}(h:SlR 1 repByte w lo hi v b)(hh:hi≤w.heap.size):∃fp,RW w false (lstB b) v fp:=by
 have:=RV.of_slr (L:=fun _=>False) (ρ:=fun _=>undef) (H:=ofO []) (e:=5) h (fun cs x q=>(show cs=encU x from q.1)) (fun _=>rfl) (by intro c u hu;simp[encU]at hu;subst hu;rfl) hh (fun _ _ _=>no_live)
 rw[RV]at this
 obtain⟨fp,q,_⟩:=this
 exact⟨fp,q⟩
theorem byteOk{w:World}{lo hi:Nat}{v:Value}{b:List Int}(h:SlR 1 repByte w lo hi v b):BytesOk b:=fun x hx=>(h.eachD fun _ _ _ _ q=>q.2) x hx
theorem cellRW{w:World}{lo hi:Nat}(hh:hi≤w.heap.size){cs:List Value}{x:Cell}(h:repCell w lo hi cs x):cs.length=1∧∃fp,RWL w false [lstB x.bytes] cs fp:=by
 obtain⟨v0,rfl,q,_⟩:=h
 obtain⟨fp,k⟩:=byteRW q hh
 refine⟨rfl,fp++[],?_⟩
 rw[RWL]
 exact⟨v0,[],fp,[],rfl,rfl,k,by rw[RWL];exact⟨rfl,rfl⟩⟩
theorem writeRW{w:World}{lo hi:Nat}(hh:hi≤w.heap.size){cs:List Value}{x:Write}(h:repWrite w lo hi cs x):cs.length=2∧∃fp,RWL w false [.v (.int .i64 x.at_),lstB x.bytes] cs fp:=by
 obtain⟨v0,rfl,q,_⟩:=h
 obtain⟨fp,k⟩:=byteRW q hh
 refine⟨rfl,[]++(fp++[]),?_⟩
 rw[RWL]
 refine⟨_,[v0],[],fp++[],rfl,rfl,by rw[RW];exact⟨rfl,rfl,rfl⟩,?_⟩
 rw[RWL]
 exact⟨v0,[],fp,[],rfl,rfl,k,by rw[RWL];exact⟨rfl,rfl⟩⟩
structure DkR(d:Disk):Prop where
 hb:DkB d
 lc:d.cells.length≤9223372036854775807
 bc:∀c∈d.cells,c.bytes.length≤9223372036854775807
 lw:d.dirty.length≤9223372036854775807
 bw:∀c∈d.dirty,c.bytes.length≤9223372036854775807
theorem DkR.of{d:Disk}{w:World}{v0 v1:Value}(h0:SlR 1 repCell w 0 w.heap.size v0 d.cells)(h1:SlR 2 repWrite w 0 w.heap.size v1 d.dirty):DkR d:=
 ⟨⟨fun c hc=>(h0.eachD (p:=fun c=>BytesOk c.bytes) fun _ _ _ _ ⟨_,_,q,_⟩=>byteOk q) c hc,fun c hc=>(h1.eachD (p:=fun c=>BytesOk c.bytes) fun _ _ _ _ ⟨_,_,q,_⟩=>byteOk q) c hc⟩,h0.short,fun c hc=>(h0.eachD (p:=fun c=>c.bytes.length≤9223372036854775807) fun _ _ _ _ ⟨_,_,q,_⟩=>q.short) c hc,h1.short,fun c hc=>(h1.eachD (p:=fun c=>c.bytes.length≤9223372036854775807) fun _ _ _ _ ⟨_,_,q,_⟩=>q.short) c hc⟩
theorem cellsRV{e:TypeId}{d:List Cell}{w:World}{v:Value}(h:SlR 1 repCell w 0 w.heap.size v d):RV (fun _=>False) (fun _=>undef) (ofO []) w (.p (.lst e 1 (rowsC d))) v:=by
 obtain⟨fp,q⟩:=RV.of_slrD (e:=e) (row:=fun c:Cell=>[lstB c.bytes]) h (fun cs x k=>cellRW (Nat.le_refl _) k) (fun _=>rfl) (Nat.le_refl _)
 rw[RV]
 exact⟨fp,q,fun _ _=>no_live⟩
theorem writesRV{e:TypeId}{d:List Write}{w:World}{v:Value}(h:SlR 2 repWrite w 0 w.heap.size v d):RV (fun _=>False) (fun _=>undef) (ofO []) w (.p (.lst e 2 (rowsW d))) v:=by
 obtain⟨fp,q⟩:=RV.of_slrD (e:=e) (row:=fun c:Write=>[.v (.int .i64 c.at_),lstB c.bytes]) h (fun cs x k=>writeRW (Nat.le_refl _) k) (fun _=>rfl) (Nat.le_refl _)
 rw[RV]
 exact⟨fp,q,fun _ _=>no_live⟩
theorem diskRV{e1 e2:TypeId}{d:Disk}{w:World}{v0 v1:Value}(h0:SlR 1 repCell w 0 w.heap.size v0 d.cells)(h1:SlR 2 repWrite w 0 w.heap.size v1 d.dirty):RV (fun _=>False) (fun _=>undef) (ofO []) w (.agg [.p (.lst e1 1 (rowsC d.cells)),.p (.lst e2 2 (rowsW d.dirty))]) (.agg #[v0,v1]):=by
 rw[RV]
 refine⟨[v0,v1],rfl,?_⟩
 simp only[RVL]
 exact⟨_,_,rfl,cellsRV h0,_,_,rfl,writesRV h1,rfl⟩

theorem FnExactLogOpen_walk(x:Disk)(a0:Option Addr)(c0:Nat)(a1:Option Addr)(c1:Nat)(w:World)(h0:SlR 1 repCell w 0 w.heap.size (.slice a0 x.cells.length c0) x.cells)(h1:SlR 2 repWrite w 0 w.heap.size (.slice a1 x.dirty.length c1) x.dirty)(wf0:wfDisk x) :
 Calls Try.prog 5 #[.agg #[.slice a0 x.cells.length c0,.slice a1 x.dirty.length c1]] w fun r w'=>r=.returned (.bool true)∧Grow w w':=
 let k:=DkR.of h0 h1
 GC.calls (cs:=[_]) rfl (FnExactLogOpen_e x k.hb k.lc k.bc k.lw k.bw) (by
  simp only[RVL]
  exact⟨_,_,rfl,diskRV h0 h1,rfl⟩)
end Go.Proofs.Yteblcdnhnckkaaa

namespace Go.Proofs.Yteblcdnhnckkaaa.fnExactLogOpen
open Go.ChangeShapes Go.WideShapes Go.ChangeAt Go.RowKit Go.Proofs.Yteblcdnhnckkaaa
set_option maxHeartbeats 16000000
set_option maxRecDepth 100000
set_option linter.unusedVariables false
theorem own:ownKnob Try.prog.godebug=none:=by kernel_rfl
theorem laid:laidOutB Try.prog=true:=by kernel_rfl
theorem readable:∀t∈[25],Try.prog.readableRec t=true∧t<Try.prog.types.size:=by
 intro t ht
 simp only[List.mem_cons,List.not_mem_nil,or_false]at ht
 rcases ht with rfl
 all_goals exact⟨by kernel_rfl,of_decide_eq_true (by kernel_rfl)⟩
theorem lifted(os:Os)(started:os.Started)(H:Type)(enc:TypeId×Value→H) :
 ReturnsInHanded {} Try.checked os 5 .any (Rows.fnExactLogOpenSpec.pre6 enc Try.prog Try.f5 Rows.fnExactLogOpenRow.domain false) (Rows.fnExactLogOpenSpec.post enc Try.prog Try.f5 false true false false):=by
 refine returnsInHanded_of_change (C:=Try.checked) own started (by kernel_rfl) Try.func5
  (ChangeSpec.witness6 (enc:=enc) (C:=Try.checked) false ⟨#[],#[.agg #[.slice none 0 0,.slice none 0 0]],[]⟩ 8 (by kernel_rfl) (by kernel_rfl) (by kernel_rfl) (by kernel_rfl)) ?_
 intro W base args ds gs before hval0 hW hcnd _
 have hval:∀(j:Nat) t v,Try.f5.params[j]? = some t→args[j]? = some v→Value.okWide Try.prog W .any base t v:=hval0
 have hW':=hW
 obtain⟨p,q,hA0,hV,rfl,hfz,hnd⟩:=hW
 have hA:DataW.TrodAll enc Try.prog W 0 (fun _=>true) true Try.f5.params.toList args.toList ds p:=hA0
 rw[Try.params5]at hA hval
 have hB:=hA
 obtain⟨v0,vs0,d0,ds0,p0,q0,hargs,rfl,rfl,h0,r0⟩:=trodAll_cons hA
 obtain⟨rfl,rfl,rfl⟩:=trodAll_nil r0
 obtain rfl:args=#[v0]:=by cases args;simp_all
 obtain⟨rfl,rfl⟩:=trodVars_none hV
 obtain⟨cs0,rfl,_⟩:=okWide_struct Try.underlying25 (hval 0 25 v0 rfl rfl)
 obtain⟨fu0,t0⟩:=h0
 obtain⟨x0,u0_0,u0_1,e0,s0_0,s0_1,w0⟩:=trodDisk t0
 have e0:cs0=#[u0_0,u0_1]:=Array.ext' (by simpa[Value.cells]using e0)
 subst e0
 obtain⟨a0_0,c0_0,rfl⟩:∃a c,u0_0=Value.slice a x0.cells.length c:=let ⟨a,c,h,_⟩:=s0_0;⟨a,c,h⟩
 obtain⟨a0_1,c0_1,rfl⟩:∃a c,u0_1=Value.slice a x0.dirty.length c:=let ⟨a,c,h,_⟩:=s0_1;⟨a,c,h⟩
 clear hA0 hval0
 simp only[List.append_nil]at hW'
 refine(FnExactLogOpen_walk x0 a0_0 c0_0 a0_1 c0_1 W s0_0 s0_1 w0).mono fun e W' ⟨he,hg⟩=>?_
 subst he
 exact⟨_,rfl,_,_,_,_,_,[],hW',trodAll_mk1 (shut_bool Try.underlying4 true),
  trodAll_below laid hg.below (readable) hB,rfl,hg.below.frame _,fun h=>by cases h⟩
theorem over:Rows.fnExactLogOpenRow.holds Try.pinned (OpenSpec.ofChange Rows.fnExactLogOpenSpec):=
 OpenClaim.holds_of_wide 5 Try.f5 rfl rfl rfl rfl rfl rfl rfl ⟨rfl,rfl,rfl,rfl,rfl⟩ rfl rfl rfl rfl rfl (by kernel_rfl) Try.func5 (by kernel_rfl)
  (of_decide_eq_true (by kernel_rfl)) (by unfold Func.isWrapper;first|(rw[if_pos (by decide +kernel)];kernel_rfl)|(rw[if_neg (by decide +kernel)];exact⟨rfl,rfl⟩))
  (fun os started H enc _=>lifted os started H enc)
theorem proved:Rows.FnExactLogOpenSaid:=
 over
#print axioms proved
end Go.Proofs.Yteblcdnhnckkaaa.fnExactLogOpen

