/- Texts of the proof of FnLogEvents, joined: EP3. -/
import Derived.Test.YteblcdnhnckkaaaJLogEvents7
import Derived.Test.YteblcdnhnckkaaaJLogEvents8
namespace Go.Proofs.Yteblcdnhnckkaaa
open Go.RowKit
set_option maxHeartbeats 16000000
set_option maxRecDepth 100000
set_option linter.unusedSimpArgs false
set_option linter.unusedVariables false
theorem flat_CV{vs:List Value}:∀r∈rowsCV vs,∀p∈r,∃v,p=PV.v v:=fun r hr p hp=>by
 unfold rowsCV at hr
 obtain⟨v,_,rfl⟩:=List.mem_map.1 hr
 rw[List.mem_singleton.1 hp]
 exact⟨_,rfl⟩
theorem flat_WV:∀ {vs:List Value} {ws:List Write},∀r∈rowsWV vs ws,∀p∈r,∃v,p=PV.v v
 |[],_,r,hr=>by unfold rowsWV at hr;simp at hr
 |_::_,[],r,hr=>by unfold rowsWV at hr;simp at hr
 |v::vs,q::ws,r,hr=>by
  unfold rowsWV at hr
  rw[List.zipWith_cons_cons]at hr
  rcases List.mem_cons.1 hr with rfl|hr
  ·intro p hp
   simp at hp
   rcases hp with rfl|rfl
   ·exact⟨_,rfl⟩
   ·exact⟨_,rfl⟩
  ·exact flat_WV (vs:=vs) (ws:=ws) r hr
theorem flat_famB:∀ {vs:List Value} {bs:List (List Int)},∀o∈famB vs bs,flatR o
 |[],_,r,hr=>by unfold famB at hr;simp at hr
 |_::_,[],r,hr=>by unfold famB at hr;simp at hr
 |v::vs,q::bs,r,hr=>by
  unfold famB at hr
  rw[List.zipWith_cons_cons]at hr
  rcases List.mem_cons.1 hr with rfl|hr
  ·exact flat_rowsOf
  ·exact flat_famB (vs:=vs) (bs:=bs) r hr
theorem flat_famD{vs us:List Value}{d:Disk}:∀o∈famD vs us d,flatR o:=fun o ho=>by
 unfold famD at ho
 rcases List.mem_append.1 ho with q|q
 ·exact flat_famB o q
 ·exact flat_famB o q
abbrev obQ(u1 u2:Value)(vs us:List Value)(d:Disk):List (Nat×AO):=[(4,.arr ⟨115,some u1⟩ 1 (rowsCV vs)),(5,.arr ⟨123,some u2⟩ 2 (rowsWV us d.dirty))]
theorem rdLog{H:Nat→AO}{F:List AO}{a b:Nat}{pa pb:Option Value}{vs us:List Value}{d:Disk}{n e:Int}{s:Nat}(hT:Tl H F)(ha:H a=.arr ⟨115,pa⟩ 1 (rowsCV vs))(hb:H b=.arr ⟨123,pb⟩ 2 (rowsWV us d.dirty))(hv:vs.length=d.cells.length)(hu:us.length=d.dirty.length)(hF:∀i,i<(famD vs us d).length→F[s+i]? = (famD vs us d)[i]?):Reads H (.agg [.own a,.own b,int n,int e]) (.agg [.p (.lst 115 1 (rowsC d.cells)),.p (.lst 123 2 (rowsW d.dirty)),int n,int e]):=by
 have l1:(famB vs (byC d.cells)).length=d.cells.length:=by rw[famB_len (by simpa using hv),List.length_map]
 have l2:(famB us (byW d.dirty)).length=d.dirty.length:=by rw[famB_len (by simpa using hu),List.length_map]
 have k1:∀i,i<d.cells.length→F[s+i]? = (famB vs (byC d.cells))[i]?:=fun i hi=>by
  rw[hF i (by unfold famD;rw[List.length_append];omega)];unfold famD;rw[List.getElem?_append_left (by omega)]
 have k2:∀i,i<d.dirty.length→F[s+d.cells.length+i]? = (famB us (byW d.dirty))[i]?:=fun i hi=>by
  rw[Nat.add_assoc,hF (d.cells.length+i) (by unfold famD;rw[List.length_append];omega)];unfold famD;rw[List.getElem?_append_right (by omega)];congr 1;omega
 intro L ρ w c hob hx
 exact Reads.agg (.cons (Reads.own ha (deepCV hT hv k1)) (.cons (Reads.own hb (deepWV hT hu k2)) (.cons (Reads.lend rfl) (.cons (Reads.lend rfl) .nil)))) hob hx
theorem dok_z{d:Disk}(h:diskOk d=true):DkZ d:=by
 have h1:=(dok_iff h).1
 have hc:∀c∈d.cells,c.bytes.length≤128:=fun c hc=>by
  obtain⟨j,hj,rfl⟩:=List.getElem_of_mem hc
  exact dok_c h hj
 have hw:∀c∈d.dirty,c.bytes.length≤128:=fun c hc=>by
  obtain⟨j,hj,rfl⟩:=List.getElem_of_mem hc
  exact Nat.le_of_eq (dok_w h hj)
 have k1:=cntG_bd (n:=mCe) (B:=128) (l:=d.cells) fun c q=>⟨mCe_nn c,by have:=hc c q;show (c.bytes.length:Int)≤128;omega⟩
 have k2:=cntG_bd (n:=mWr) (B:=129) (l:=d.dirty) fun c q=>⟨mWr_nn c,by have:=hw c q;show 1+(c.bytes.length:Int)≤129;omega⟩
 exact⟨by omega,by omega,fun c q=>Nat.le_trans (hc c q) (by decide),fun c q=>Nat.le_trans (hw c q) (by decide),by omega,by omega⟩
theorem zero_z:DkZ ⟨[],[]⟩:=⟨by simp,by simp,(fun c h=>by cases h),(fun c h=>by cases h),by simp[cntG],by simp[cntG]⟩
theorem lgAd_z(l:Log)(e:Event):DkZ (lgAddL l e).disk:=by
 by_cases hc:lgAddC l e=0
 ·rw[adL_y hc]
  have h1:diskOk l.disk=true:=by cases h:diskOk l.disk with|true=>rfl|false=>rw[ad1 (.inl h)]at hc;cases hc
  have h2:inB l.next 0 l.disk.cells.length=true:=by cases h:inB l.next 0 l.disk.cells.length with|true=>rfl|false=>rw[ad1 (.inr (.inl h))]at hc;cases hc
  have h3:inB l.epoch 1 16000000=true:=by cases h:inB l.epoch 1 16000000 with|true=>rfl|false=>rw[ad1 (.inr (.inr (.inl h)))]at hc;cases hc
  have h4:eventOk e=true:=by cases h:eventOk e with|true=>rfl|false=>rw[ad1 (.inr (.inr (.inr h)))]at hc;cases hc
  have h5:¬(l.next=l.disk.cells.length∨600≤l.disk.dirty.length):=fun q=>by rw[ad2 h1 h2 h3 h4 q]at hc;cases hc
  have:=inB_iff.1 h2
  exact dok_z (dok_diskW h1 (by omega) (by omega) (secB_length (by show (evB e).length≤100;rw[evB_length];decide)))
 ·rw[adL_n hc];exact zero_z
abbrev adV(l:Log)(c:Int):AV:=.tup [logV l,int c]
theorem lgRel_f{f:FuncId}{args:List AV}{l:Log}(h:GN Try.prog f args [] [] (lgRel l)):GC Try.prog f args [] (logV l) []:=
 (GX.frozen (Z:=fun y=>y=logV l) (show GX Try.prog _ _ [] _ from h) fun x ob ⟨l1,F1,hs,hF,hM,e,⟨vs,us,hv,hu,e1,e2,e3⟩⟩=>by
   subst e e1 e2 e3
   refine⟨logV l,?_,rfl⟩
   have hT:Tl (ofO (obD vs us l.disk++famL 1000000 (famD vs us l.disk))) (famD vs us l.disk):=by rw[ofO_fam rfl];exact Tl.tl hF
   have l1:(famB vs (byC l.disk.cells)).length=l.disk.cells.length:=by rw[famB_len (by simpa using hv),List.length_map]
   exact Still.agg (H:=ofO (obD vs us l.disk++famL 1000000 (famD vs us l.disk))) (.cons (Still.own (id:=1) (e:=⟨115,none⟩) (sz:=1) (rows:=rowsCV vs) rfl (deepCV hT hv (s:=0) fun i hi=>by unfold famD;rw[Nat.zero_add,List.getElem?_append_left (by omega)]))
    (.cons (Still.own (id:=2) (e:=⟨123,none⟩) (sz:=2) (rows:=rowsWV us l.disk.dirty) rfl (deepWV hT hu (s:=l.disk.cells.length) fun i hi=>by unfold famD;rw[List.getElem?_append_right (by omega)];congr 1;omega)) (.cons (Still.p _) (.cons (Still.p _) .nil))))).mono fun y o ⟨e1,e2⟩=>⟨e2,e1⟩
theorem lgAdRel_f{f:FuncId}{args:List AV}{l:Log}{c:Int}(h:GN Try.prog f args [] [] (lgAdRel l c)):GC Try.prog f args [] (adV l c) []:=
 (GX.frozen (Z:=fun y=>y=adV l c) (show GX Try.prog _ _ [] _ from h) fun x ob ⟨l1,F1,hs,hF,hM,e,⟨vs,us,hv,hu,e1,e2,e3⟩⟩=>by
   subst e e1 e2 e3
   refine⟨adV l c,?_,rfl⟩
   have hT:Tl (ofO (obD vs us l.disk++famL 1000000 (famD vs us l.disk))) (famD vs us l.disk):=by rw[ofO_fam rfl];exact Tl.tl hF
   have l1:(famB vs (byC l.disk.cells)).length=l.disk.cells.length:=by rw[famB_len (by simpa using hv),List.length_map]
   exact Still.tup (H:=ofO (obD vs us l.disk++famL 1000000 (famD vs us l.disk))) (.cons (Still.agg (.cons (Still.own (id:=1) (e:=⟨115,none⟩) (sz:=1) (rows:=rowsCV vs) rfl (deepCV hT hv (s:=0) fun i hi=>by unfold famD;rw[Nat.zero_add,List.getElem?_append_left (by omega)]))
    (.cons (Still.own (id:=2) (e:=⟨123,none⟩) (sz:=2) (rows:=rowsWV us l.disk.dirty) rfl (deepWV hT hu (s:=l.disk.cells.length) fun i hi=>by unfold famD;rw[List.getElem?_append_right (by omega)];congr 1;omega)) (.cons (Still.p _) (.cons (Still.p _) .nil))))) (.cons (Still.p _) .nil))).mono fun y o ⟨e1,e2⟩=>⟨e2,e1⟩
theorem toLog_f(d:Log)(hz:DkZ d.disk):GC Try.prog 11 [llogV d] [] (logV d) []:=lgRel_f (toLog_n d hz)
theorem logAdd_f(l:Log)(e:Event):GC Try.prog 13 [logV l,evV e] [] (adV (lgAddL l e) (lgAddC l e)) []:=lgAdRel_f (logAdd_n l e)
theorem slogAdd_f(l:Log)(e:Event):GC Try.prog 10 [logV l,evV e] [] (adV (lgAddL l e) (lgAddC l e)) []:=
 (GX.frozen (Z:=fun y=>y=adV (lgAddL l e) (lgAddC l e)) (slogAdd_o l e) fun x ob ⟨h1,h2⟩=>by
   subst h1 h2
   exact⟨_,Still.tup (.cons (Still.agg (.cons (Still.row (e:=⟨115,none⟩) (sz:=1) (rows:=rowsC (lgAddL l e).disk.cells) rfl) (.cons (Still.row (e:=⟨123,none⟩) (sz:=2) (rows:=rowsW (lgAddL l e).disk.dirty) rfl) (.cons (Still.p _) (.cons (Still.p _) .nil))))) (.cons (Still.p _) .nil)),rfl⟩).mono fun y o ⟨e1,e2⟩=>⟨e2,e1⟩
theorem rdQL{u1 u2:Value}{vs us:List Value}{d:Disk}{n e:Int}(hv:vs.length=d.cells.length)(hu:us.length=d.dirty.length):Reads (tl (ofO (obQ u1 u2 vs us d)) (famD vs us d)) (.agg [.own 4,.own 5,int n,int e]) (.agg [.p (.lst 115 1 (rowsC d.cells)),.p (.lst 123 2 (rowsW d.dirty)),int n,int e]):=
 fun{L ρ w c} hob hx=>rdLog (s:=0) (Tl.tl famD_row) rfl rfl hv hu (fun i _=>by rw[Nat.zero_add]) hob hx
theorem lentAd(u1 u2:Value)(vs us:List Value)(l:Log)(e:Event)(hz:DkZ l.disk)(hv:vs.length=l.disk.cells.length)(hu:us.length=l.disk.dirty.length) :
 GN Try.prog 13 [.agg [.own 4,.own 5,int l.next,int l.epoch],evV e] (obQ u1 u2 vs us l.disk) (famD vs us l.disk) fun y l1 F=>∃vs2 us2:List Value,vs2.length=(lgAddL l e).disk.cells.length∧us2.length=(lgAddL l e).disk.dirty.length∧y=.tup [.agg [.own 1,.own 2,int (lgAddL l e).next,int (lgAddL l e).epoch],int (lgAddC l e)]∧l1=obD vs2 us2 (lgAddL l e).disk++obQ u1 u2 vs us l.disk∧F=famD vs us l.disk++famD vs2 us2 (lgAddL l e).disk:=
 (GN.lentD (logAdd_n l e) (.cons (rdQL hv hu) (.cons (Reads.lend rfl) .nil)) famD_row rfl (fun x l1 F1 ⟨vs2,us2,h1,h2,e1,e2,e3⟩=>by
   subst e1 e2 e3
   have hz2:=lgAd_z l e
   refine⟨rfl,fun id hid=>?_,fun p hp=>?_,flat_famD,?_⟩
   ·simp[ownN,ownNL]at hid
    rcases hid with rfl|rfl<;>rfl
   ·simp at hp
    rcases hp with rfl|rfl
    ·exact flat_CV
    ·exact flat_WV
   ·rw[famD_len hv hu,famD_len h1 h2];have:=hz.lc;have:=hz.lw;have:=hz2.lc;have:=hz2.lw;omega)).mono fun y ob ⟨l1,F1,q1,q2,q3,q4,l2,F2,⟨vs2,us2,h1,h2,e1,e2,e3⟩,e4,e5⟩=>by
   subst e1 e2 e3 e4 e5
   exact⟨_,_,q1,q2,q3,q4,vs2,us2,h1,h2,rfl,rfl,rfl⟩
theorem FnExactLogAdd_e(x:Log)(e:Event)(hb:DkB x.disk)(hmc:x.disk.cells.length≤9223372036854775807)(hbc:∀c∈x.disk.cells,c.bytes.length≤9223372036854775807)(hmw:x.disk.dirty.length≤9223372036854775807)(hbw:∀c∈x.disk.dirty,c.bytes.length≤9223372036854775807):GC Try.prog 3 [llogV x,evV e] [] (boo true) []:=by
 refine gi 4 Try.func3 rfl Try.ntmps3 rfl ?_
 intro L O w0
 refine sL<|lst (zX 2002 rfl) Z<|lst (zX 2003 rfl) Z<|laZ Z<|nA<|laI Z<|nA<|loX (.agg [vL _ _ _,vL _ _ _,vI _ _,vI _ _]) ty.kd27 Z<|lmI Z<|lst (zL Try.func9 (szLog_e x 1048576 (by omega) (by omega) hmc hbc hmw hbw) rfl) Z<|laI Z<|nG<|aS<|sL<|lmI Z<|lbB Z<|nG ?_
 refine AW.cond rfl ?_ ?_
 ·intro h1
  refine sL<|laT Z<|nG<|aR<|rT ?_
  refine end_ret ?_ trivial
  rfl
 ·intro h1
  refine aK<|gT<|aS ?_
  have hs:0≤szD x.disk 1048576:=by have h:=h1;simp only[decide_eq_false_iff_not]at h;omega
  have hz:=szD_y hs
  obtain⟨hc0,hc1⟩:=dcnt_bd hz.m
  have hlc:=hz.lc
  have hlw:=hz.lw
  have hz2:=lgAd_z x e
  obtain⟨hd0,hd1⟩:=dcnt_bd hz2.m
  have hlc2:=hz2.lc
  have hlw2:=hz2.lw
  refine aF [9]<|sq 0 (roX (.agg [vL _ _ _,vL _ _ _,vI _ _,vI _ _]) ty.kd27 Z)<|sq 2 (roX (.agg [vI _ _,vI _ _,vI _ _,vI _ _,vI _ _,vI _ _,vB _]) ty.kd29 Z) ?_
  refine AF.two (i:=1) (j:=8) (by kernel_rfl) ?_ ?_
  ·refine v1 1 rfl (zC [] [] [] Try.func11 (toLog_f x hz) (trivial) rfl rfl) (.inr rfl) ?_
   refine fTt ([]) [2,3,4,23,24] [2002,2003] ?_
   refine AF.two (i:=3) (j:=8) (by kernel_rfl) ?_ ?_
   ·refine v1 3 rfl (zL Try.func12 (toEvent_e e) rfl) (.inr rfl) ?_
    refine AF.two (i:=4) (j:=8) (by kernel_rfl) ?_ ?_
    ·refine v1 4 Z (zC [] [] [] Try.func10 (slogAdd_f x e) (trivial) Z Z) (.inr Z)<|pq 5 (qmX (.tup [.agg [vL _ _ _,vL _ _ _,vI _ _,vI _ _],vI _ _]) Z)<|pq 6 (qxX (.agg [vL _ _ _,vL _ _ _,vI _ _,vI _ _]) Z)<|pq 7 (qxI Z)<|vst 8 Z (zA 2006 ty.ze36 Z) (.inr Z)<|vst 9 Z (zB 2006 ty.co36 ty.inf36 Z) (.inl Z)<|vq 10 (raI Z)<|fD<|gA<|loX (.agg [vL _ _ _,vL _ _ _,vI _ _,vI _ _]) ty.kd27 Z ?_
     refine AL.stx (StX.callN (F:=[]) [(1,11),(2,12)] [11,12] [] ([]).length Try.func11 (toLog_n x hz) tlp List.drop_length List.take_length (Nat.le_refl _) ((by simp)) (fun _ _ _ _=>trivial) rfl rfl) rfl ?_
     rintro _ _ ⟨xz1,oz1,Fz1,hz1,hF1,hM1,rfl,rfl⟩
     obtain⟨vs1,us1,hv1,hu1,rfl,rfl,rfl⟩:=hz1
     have hrf1:rowF ([]++famD vs1 us1 x.disk):=rowF.app (by first|assumption|exact rowF.nil) hF1
     refine lst (zA 2008 ty.ze36 Z) Z<|lst (zB 2008 ty.co36 ty.inf36 Z) Z<|nG<|aS ?_
     rw[List.nil_append]
     have hrf1:rowF (famD vs1 us1 x.disk):=famD_row
     have hFl:=famD_len hv1 hu1
     refine AW.pinA 11 rfl ?_
     intro u11
     refine AW.pinA 12 rfl ?_
     intro u12
     refine aF [3,8]<|sq 0 (roX (.agg [.own _,.own _,vI _ _,vI _ _]) ty.kd36 Z)<|sq 1 (roX (.agg [vI _ _,vI _ _,vI _ _,vI _ _,vI _ _,vI _ _,vB _]) ty.kd29 Z) ?_
     refine AF.two (i:=2) (j:=7) (by kernel_rfl) ?_ ?_
     ·refine v1 2 rfl (zL Try.func12 (toEvent_e e) rfl) (.inr rfl) ?_
      refine fTt ((famD vs1 us1 x.disk)) [2,3,4,6,7,8,32,34] [11,12,2002,2003,2006,2008] ?_
      refine AF.two (i:=3) (j:=7) (by kernel_rfl) ?_ ?_
      ·refine AF1.stx (i:=3) rfl (StX.callN (F:=(famD vs1 us1 x.disk)) [(1,21),(2,22),(4,11),(5,12)] [21,22] [4,5] 0 Try.func13 (lentAd u11 u12 vs1 us1 x e hz hv1 hu1) tlp List.drop_zero List.take_zero (Nat.zero_le _) ((by rw[hFl];omega)) ((fun y l F ⟨_,_,_,_,_,e2,_⟩=>by subst e2;exact⟨stays.arr rfl,stays.arr rfl,trivial⟩)) rfl rfl) (.inl rfl) rfl ?_
       rintro _ _ ⟨xz3,oz3,Fz3,hz3,hF3,hM3,rfl,rfl⟩
       obtain⟨vs2,us2,hv2,hu2,rfl,rfl,rfl⟩:=hz3
       have hrf3:rowF ([]++(famD vs1 us1 x.disk++famD vs2 us2 (lgAddL x e).disk)):=rowF.app (by first|assumption|exact rowF.nil) hF3
       refine pq 4 (qmX (.tup [.agg [.own _,.own _,vI _ _,vI _ _],vI _ _]) Z)<|pq 5 (qxX (.agg [.own _,.own _,vI _ _,vI _ _]) Z)<|pq 6 (qxI Z)<|vst 7 Z (zA 2009 ty.ze36 Z) (.inr Z)<|vst 8 Z (zB 2009 ty.co36 ty.inf36 Z) (.inl Z)<|vq 9 (raI Z)<|fD<|gT<|aS<|aS ?_
       rw[List.nil_append]
       have hrf2:rowF (famD vs1 us1 x.disk++famD vs2 us2 (lgAddL x e).disk):=rowF.app famD_row famD_row
       have hFl2:=famD_len hv2 hu2
       refine aL<|loX (.agg [.own _,.own _,vI _ _,vI _ _]) ty.kd36 Z<|loX (.agg [vL _ _ _,vL _ _ _,vI _ _,vI _ _]) ty.kd36 Z<|lst (zLN Try.func14 (eqLog_e (lgAddL x e) hz2.e) rfl (.cons (rdLog (vs:=vs2) (us:=us2) (d:=(lgAddL x e).disk) (s:=(famD vs1 us1 x.disk).length) tlp rfl rfl hv2 hu2 at_last) (.cons (Reads.lend rfl) .nil))) Z<|luZ Z<|lsB 41 false rfl (by first|(simp;done)|(simp;omega))<|lmZ Z<|lmI Z<|lmI Z<|lbB Z<|lsB 45 false rfl (by first|(simp;done)|(simp;omega))<|lkZ Z<|nG<|aN Z<|aK<|gT<|aS<|aS<|aF []<|sq 0 (roX (.agg [.own _,.own _,vI _ _,vI _ _]) ty.kd36 rfl)<|vq 1 (roX (.agg [vL _ _ _,vL _ _ _,vI _ _,vI _ _]) ty.kd27 rfl)<|vst 2 rfl (zC [] [] [] Try.func11 (toLog_f x hz) (trivial) rfl rfl) (.inr rfl) ?_
       refine fTt ((famD vs1 us1 x.disk++famD vs2 us2 (lgAddL x e).disk)) [2,3,4,6,7,8,9,10,47,49] [11,12,21,22,2002,2003,2006,2008,2009] ?_
       refine vst 3 rfl (zLN Try.func14 (eqLog_e x hz.e) rfl (.cons (rdLog (vs:=vs1) (us:=us1) (d:=x.disk) (s:=0) tlp rfl rfl hv1 hu1 (fun j hj=>by rw[Nat.zero_add,List.getElem?_append_left hj])) (.cons (Reads.lend rfl) .nil))) (.inr rfl)<|vq 4 (ruZ rfl)<|fsB 51 false rfl (by first|(simp;done)|(simp;omega))<|fD<|gT<|aN Z<|aK<|gA<|laI Z<|nA<|loX (.agg [.own _,.own _,vI _ _,vI _ _]) ty.kd36 Z<|lmI rfl ?_
       refine AL.stx (StX.callN (F:=(famD vs1 us1 x.disk++famD vs2 us2 (lgAddL x e).disk)) [(1,11),(2,12)] [] [1,2] 0 Try.func15 (markLog_e u11 u12 vs1 us1 x.disk (famD vs2 us2 (lgAddL x e).disk) 1 hv1 hu1 famD_row (by rw[hFl2];omega) hz (by omega) x.next x.epoch) tlp List.drop_zero List.take_zero (Nat.zero_le _) ((by rw[List.length_append,hFl,hFl2];omega)) ((fun y l F ⟨_,e2,_⟩=>by subst e2;exact⟨stays.arr rfl,stays.arr (by show (rowsWV us1 (mkG mWr gWr _ _)).length=_;rw[rowsWV_len (by rw[mkG_len];exact hu1),mkG_len,rowsWV_len hu1]),trivial⟩)) rfl rfl) rfl ?_
       rintro _ _ ⟨xz4,oz4,Fz4,hz4,hF4,hM4,rfl,rfl⟩
       obtain⟨rfl,rfl,rfl⟩:=hz4
       have hrf4:rowF ([]++(famD vs1 us1 (mkDk x.disk 1)++famD vs2 us2 (lgAddL x e).disk)):=rowF.app (by first|assumption|exact rowF.nil) hF4
       refine laI Z<|nG<|aS<|aS ?_
       rw[List.nil_append]
       have hrA:rowF (famD vs1 us1 (mkDk x.disk 1)):=famD_row
       have hrf3:rowF (famD vs1 us1 (mkDk x.disk 1)++famD vs2 us2 (lgAddL x e).disk):=rowF.app famD_row famD_row
       refine aL<|lmI Z<|lbB Z<|lsB 56 false rfl (by first|(simp;done)|(simp;omega))<|lmZ Z<|loX (.agg [.own _,.own _,vI _ _,vI _ _]) ty.kd36 Z<|loX (.agg [vL _ _ _,vL _ _ _,vI _ _,vI _ _]) ty.kd36 Z<|lst (zLN Try.func14 (eqLog_e (lgAddL x e) hz2.e) rfl (.cons (rdLog (vs:=vs2) (us:=us2) (d:=(lgAddL x e).disk) (s:=(famD vs1 us1 (mkDk x.disk 1)).length) tlp rfl rfl hv2 hu2 at_last) (.cons (Reads.lend rfl) .nil))) Z<|luZ Z<|lsB 61 false rfl (by first|(simp;done)|(simp;omega))<|lkZ Z<|lmZ Z<|lmI Z<|lmI Z<|lbB Z<|lsB 66 false rfl (by first|(simp;done)|(simp;omega))<|lkZ Z<|nG<|aN Z<|aK<|gA<|laI Z<|nG<|aS ?_
       refine AW.pinA 21 rfl ?_
       intro u21
       refine AW.pinA 22 rfl ?_
       intro u22
       rw[←List.append_nil (famD vs2 us2 (lgAddL x e).disk)]
       have hrf4:rowF (famD vs1 us1 (mkDk x.disk 1)++(famD vs2 us2 (lgAddL x e).disk++[])):=rowF.app famD_row (rowF.app famD_row rowF.nil)
       refine aL<|loX (.agg [.own _,.own _,vI _ _,vI _ _]) ty.kd36 Z<|lmI Z ?_
       refine AL.stx (StX.callN (F:=(famD vs1 us1 (mkDk x.disk 1)++(famD vs2 us2 (lgAddL x e).disk++[]))) [(1,21),(2,22)] [] [1,2] (famD vs1 us1 (mkDk x.disk 1)).length Try.func15 (markLog_e u21 u22 vs2 us2 (lgAddL x e).disk [] 1 hv2 hu2 rowF.nil (by simp) hz2 (by omega) (lgAddL x e).next (lgAddL x e).epoch) tlp List.drop_left List.take_left (by simp) ((by rw[List.length_append,List.append_nil,hFl2,famD_len (d:=mkDk x.disk 1) (by show _=(mkG mCe gCe _ _).length;rw[mkG_len];exact hv1) (by show _=(mkG mWr gWr _ _).length;rw[mkG_len];exact hu1)];show (mkG mCe gCe _ _).length+(mkG mWr gWr _ _).length+_≤_;rw[mkG_len,mkG_len];omega)) ((fun y l F ⟨_,e2,_⟩=>by subst e2;exact⟨stays.arr rfl,stays.arr (by show (rowsWV us2 (mkG mWr gWr _ _)).length=_;rw[rowsWV_len (by rw[mkG_len];exact hu2),mkG_len,rowsWV_len hu2]),trivial⟩)) rfl rfl) rfl ?_
       rintro _ _ ⟨xz5,oz5,Fz5,hz5,hF5,hM5,rfl,rfl⟩
       obtain⟨rfl,rfl,rfl⟩:=hz5
       have hrf5:rowF (famD vs1 us1 (mkDk x.disk 1)++(famD vs2 us2 (mkDk (lgAddL x e).disk 1)++[])):=rowF.app (by first|assumption|exact rowF.nil) hF5
       refine lTt ((famD vs1 us1 (mkDk x.disk 1)++(famD vs2 us2 (mkDk (lgAddL x e).disk 1)++[]))) [2,3,4,6,7,9,12,70] [21,22,2002,2003,2006,2009] ?_
       refine laI Z<|nG<|aS ?_
       rw[List.append_nil (famD vs2 us2 (mkDk (lgAddL x e).disk 1))]
       have hrf5:rowF (famD vs1 us1 (mkDk x.disk 1)++famD vs2 us2 (mkDk (lgAddL x e).disk 1)):=rowF.app famD_row famD_row
       refine aL<|laI Z<|nA<|loX (.agg [.own _,.own _,vI _ _,vI _ _]) ty.kd36 Z<|lmI Z<|lst (zLN Try.func16 (heldLog_e (lgAddL x e) 1 hz2.m (by omega)) rfl (.cons (rdLog (vs:=vs2) (us:=us2) (d:=mkDk (lgAddL x e).disk 1) (s:=(famD vs1 us1 (mkDk x.disk 1)).length) tlp rfl rfl (by show _=(mkG mCe gCe _ _).length;rw[mkG_len];exact hv2) (by show _=(mkG mWr gWr _ _).length;rw[mkG_len];exact hu2) at_last) (.cons (Reads.lend rfl) .nil))) Z<|laI Z<|nG<|aS<|sL<|lmI Z<|lbB Z<|lsB 75 false rfl (by first|(simp;done)|(simp;omega))<|nG<|aN Z<|aK<|gT<|aS<|sL<|lmI Z<|lmI Z<|lbB Z<|lsB 78 false rfl (by first|(simp;done)|(simp;omega)) ?_
       refine nG<|aN Z<|aK<|gT<|aS<|aF [9]<|sq 0 (roX (.agg [vL _ _ _,vL _ _ _,vI _ _,vI _ _]) ty.kd27 Z)<|sq 2 (roX (.agg [vI _ _,vI _ _,vI _ _,vI _ _,vI _ _,vI _ _,vB _]) ty.kd29 Z) ?_
       refine AF.two (i:=1) (j:=8) (by kernel_rfl) ?_ ?_
       ·refine v1 1 rfl (zC [] [] [] Try.func11 (toLog_f x hz) (trivial) rfl rfl) (.inr rfl) ?_
        refine fTt ((famD vs1 us1 (mkDk x.disk 1)++famD vs2 us2 (mkDk (lgAddL x e).disk 1))) [4,6,7,9,12,13,81,82] [21,22,2006,2009] ?_
        refine AF.two (i:=3) (j:=8) (by kernel_rfl) ?_ ?_
        ·refine v1 3 rfl (zL Try.func12 (toEvent_e e) rfl) (.inr rfl) ?_
         refine AF.two (i:=4) (j:=8) (by kernel_rfl) ?_ ?_
         ·refine v1 4 rfl (zC [] [] [] Try.func13 (logAdd_f x e) (trivial) rfl rfl) (.inr rfl)<|pq 5 (qmX (.tup [.agg [vL _ _ _,vL _ _ _,vI _ _,vI _ _],vI _ _]) rfl)<|pq 6 (qxX (.agg [vL _ _ _,vL _ _ _,vI _ _,vI _ _]) rfl)<|pq 7 (qxI rfl)<|vst 8 rfl (zA 2014 ty.ze36 rfl) (.inr rfl)<|vst 9 rfl (zB 2014 ty.co36 ty.inf36 rfl) (.inl rfl)<|vq 10 (raI rfl)<|fD<|gT<|aS<|sL<|loX (.agg [vL _ _ _,vL _ _ _,vI _ _,vI _ _]) ty.kd36 Z<|loX (.agg [vL _ _ _,vL _ _ _,vI _ _,vI _ _]) ty.kd36 Z<|lst (zL Try.func14 (eqLog_e (lgAddL x e) hz2.e) rfl) Z<|luZ Z<|lsB 90 false rfl (by first|(simp;done)|(simp;omega))<|lmZ Z<|lmI Z<|lmI Z<|lbB Z<|lsB 94 false rfl (by first|(simp;done)|(simp;omega))<|lkZ Z<|nG<|aN Z<|aK<|gA ?_
          refine laI Z<|nA<|loX (.agg [.own _,.own _,vI _ _,vI _ _]) ty.kd36 Z<|lmI Z<|lst (zLN Try.func16 (heldLog_e (lgAddL x e) 1 hz2.m (by omega)) rfl (.cons (rdLog (vs:=vs2) (us:=us2) (d:=mkDk (lgAddL x e).disk 1) (s:=(famD vs1 us1 (mkDk x.disk 1)).length) tlp rfl rfl (by show _=(mkG mCe gCe _ _).length;rw[mkG_len];exact hv2) (by show _=(mkG mWr gWr _ _).length;rw[mkG_len];exact hu2) at_last) (.cons (Reads.lend rfl) .nil))) rfl ?_
          refine lTt ((famD vs1 us1 (mkDk x.disk 1)++famD vs2 us2 (mkDk (lgAddL x e).disk 1))) [4,12,13,98] [] ?_
          refine laI Z<|nG<|aS<|sL<|lmI Z<|lbB Z<|lsB 100 false rfl (by first|(simp;done)|(simp;omega))<|nG<|aN Z<|aK<|gT<|aS<|sL<|lmI Z<|lmI Z<|lbB Z<|lsB 103 false rfl (by first|(simp;done)|(simp;omega))<|nG<|aN Z<|aK<|gA<|laT Z<|lN ?_
          refine gT<|aR ?_
          refine end_ret ?_ trivial
          rfl
         ·refine v1 8 Z (zA 2014 ty.ze36 Z) (.inr Z)<|vst 4 Z (zC [] [] [] Try.func13 (logAdd_f x e) (trivial) Z Z) (.inr Z)<|vq 5 (rmX (.tup [.agg [vL _ _ _,vL _ _ _,vI _ _,vI _ _],vI _ _]) Z)<|pq 6 (qxX (.agg [vL _ _ _,vL _ _ _,vI _ _,vI _ _]) Z)<|pq 7 (qxI Z)<|vst 9 Z (zB 2014 ty.co36 ty.inf36 Z) (.inl Z)<|vq 10 (raI Z)<|fD<|gT<|aS<|sL<|loX (.agg [vL _ _ _,vL _ _ _,vI _ _,vI _ _]) ty.kd36 Z<|loX (.agg [vL _ _ _,vL _ _ _,vI _ _,vI _ _]) ty.kd36 Z<|lst (zL Try.func14 (eqLog_e (lgAddL x e) hz2.e) Z) Z ?_
          refine lTt ((famD vs1 us1 (mkDk x.disk 1)++famD vs2 us2 (mkDk (lgAddL x e).disk 1))) [4,7,9,12,13,15,89] [21,22,2009] ?_
          refine luZ Z<|lsB 90 false rfl (by first|(simp;done)|(simp;omega))<|lmZ Z<|lmI Z<|lmI Z<|lbB Z<|lsB 94 false rfl (by first|(simp;done)|(simp;omega))<|lkZ Z<|nG<|aN Z<|aK<|gA<|laI Z<|nA<|loX (.agg [.own _,.own _,vI _ _,vI _ _]) ty.kd36 Z<|lmI Z<|lst (zLN Try.func16 (heldLog_e (lgAddL x e) 1 hz2.m (by omega)) rfl (.cons (rdLog (vs:=vs2) (us:=us2) (d:=mkDk (lgAddL x e).disk 1) (s:=(famD vs1 us1 (mkDk x.disk 1)).length) tlp rfl rfl (by show _=(mkG mCe gCe _ _).length;rw[mkG_len];exact hv2) (by show _=(mkG mWr gWr _ _).length;rw[mkG_len];exact hu2) at_last) (.cons (Reads.lend rfl) .nil))) Z<|laI Z<|nG<|aS<|sL<|lmI rfl ?_
          refine lbB Z<|lsB 100 false rfl (by first|(simp;done)|(simp;omega))<|nG<|aN Z<|aK<|gT<|aS<|sL<|lmI Z<|lmI Z<|lbB Z<|lsB 103 false rfl (by first|(simp;done)|(simp;omega))<|nG<|aN Z<|aK<|gA<|laT Z<|nG<|aR ?_
          refine end_ret ?_ trivial
          rfl
        ·refine v1 8 rfl (zA 2014 ty.ze36 rfl) (.inr rfl) ?_
         refine fTt ((famD vs1 us1 (mkDk x.disk 1)++famD vs2 us2 (mkDk (lgAddL x e).disk 1))) [4,6,7,9,12,13,14,81,82] [21,22,2006,2009,2014] ?_
         refine vst 3 rfl (zL Try.func12 (toEvent_e e) rfl) (.inr rfl)<|vst 4 rfl (zC [] [] [] Try.func13 (logAdd_f x e) (trivial) rfl rfl) (.inr rfl)<|vq 5 (rmX (.tup [.agg [vL _ _ _,vL _ _ _,vI _ _,vI _ _],vI _ _]) rfl)<|pq 6 (qxX (.agg [vL _ _ _,vL _ _ _,vI _ _,vI _ _]) rfl)<|pq 7 (qxI rfl)<|vst 9 rfl (zB 2014 ty.co36 ty.inf36 rfl) (.inl rfl)<|vq 10 (raI rfl)<|fD<|gT<|aS<|sL<|loX (.agg [vL _ _ _,vL _ _ _,vI _ _,vI _ _]) ty.kd36 Z<|loX (.agg [vL _ _ _,vL _ _ _,vI _ _,vI _ _]) ty.kd36 Z<|lst (zL Try.func14 (eqLog_e (lgAddL x e) hz2.e) rfl) Z<|luZ Z<|lsB 90 false rfl (by first|(simp;done)|(simp;omega))<|lmZ Z<|lmI Z<|lmI Z<|lbB Z<|lsB 94 false rfl (by first|(simp;done)|(simp;omega))<|lkZ Z<|nG<|aN Z<|aK<|gA ?_
         refine laI Z<|nA<|loX (.agg [.own _,.own _,vI _ _,vI _ _]) ty.kd36 Z<|lmI Z<|lst (zLN Try.func16 (heldLog_e (lgAddL x e) 1 hz2.m (by omega)) rfl (.cons (rdLog (vs:=vs2) (us:=us2) (d:=mkDk (lgAddL x e).disk 1) (s:=(famD vs1 us1 (mkDk x.disk 1)).length) tlp rfl rfl (by show _=(mkG mCe gCe _ _).length;rw[mkG_len];exact hv2) (by show _=(mkG mWr gWr _ _).length;rw[mkG_len];exact hu2) at_last) (.cons (Reads.lend rfl) .nil))) rfl ?_
         refine lTt ((famD vs1 us1 (mkDk x.disk 1)++famD vs2 us2 (mkDk (lgAddL x e).disk 1))) [4,12,13,98] [] ?_
         refine laI Z<|nG<|aS<|sL<|lmI Z<|lbB Z<|lsB 100 false rfl (by first|(simp;done)|(simp;omega))<|nG<|aN Z<|aK<|gT<|aS<|sL<|lmI Z<|lmI Z<|lbB Z<|lsB 103 false rfl (by first|(simp;done)|(simp;omega))<|nG<|aN Z<|aK<|gA<|laT Z<|lN ?_
         refine gT<|aR ?_
         refine end_ret ?_ trivial
         rfl
       ·refine v1 8 Z (zA 2014 ty.ze36 Z) (.inr Z)<|vst 1 Z (zC [] [] [] Try.func11 (toLog_f x hz) (trivial) Z Z) (.inr Z)<|vst 3 Z (zL Try.func12 (toEvent_e e) Z) (.inr Z)<|vst 4 Z (zC [] [] [] Try.func13 (logAdd_f x e) (trivial) Z Z) (.inr Z)<|vq 5 (rmX (.tup [.agg [vL _ _ _,vL _ _ _,vI _ _,vI _ _],vI _ _]) Z)<|pq 6 (qxX (.agg [vL _ _ _,vL _ _ _,vI _ _,vI _ _]) Z)<|pq 7 (qxI Z)<|vst 9 Z (zB 2014 ty.co36 ty.inf36 Z) (.inl Z) ?_
        refine fTt ((famD vs1 us1 (mkDk x.disk 1)++famD vs2 us2 (mkDk (lgAddL x e).disk 1))) [4,6,7,9,12,13,14,86] [21,22,2006,2009,2014] ?_
        refine vq 10 (raI rfl)<|fD<|gT<|aS<|sL<|loX (.agg [vL _ _ _,vL _ _ _,vI _ _,vI _ _]) ty.kd36 Z<|loX (.agg [vL _ _ _,vL _ _ _,vI _ _,vI _ _]) ty.kd36 Z<|lst (zL Try.func14 (eqLog_e (lgAddL x e) hz2.e) rfl) Z<|luZ Z<|lsB 90 false rfl (by first|(simp;done)|(simp;omega))<|lmZ Z<|lmI Z<|lmI Z<|lbB Z<|lsB 94 false rfl (by first|(simp;done)|(simp;omega))<|lkZ Z<|nG<|aN Z<|aK<|gA<|laI Z<|nA<|loX (.agg [.own _,.own _,vI _ _,vI _ _]) ty.kd36 rfl ?_
        refine lmI Z<|lst (zLN Try.func16 (heldLog_e (lgAddL x e) 1 hz2.m (by omega)) rfl (.cons (rdLog (vs:=vs2) (us:=us2) (d:=mkDk (lgAddL x e).disk 1) (s:=(famD vs1 us1 (mkDk x.disk 1)).length) tlp rfl rfl (by show _=(mkG mCe gCe _ _).length;rw[mkG_len];exact hv2) (by show _=(mkG mWr gWr _ _).length;rw[mkG_len];exact hu2) at_last) (.cons (Reads.lend rfl) .nil))) rfl ?_
        refine lTt ((famD vs1 us1 (mkDk x.disk 1)++famD vs2 us2 (mkDk (lgAddL x e).disk 1))) [4,12,13,98] [] ?_
        refine laI Z<|nG<|aS<|sL<|lmI Z<|lbB Z<|lsB 100 false rfl (by first|(simp;done)|(simp;omega))<|nG<|aN Z<|aK<|gT<|aS<|sL<|lmI Z<|lmI Z<|lbB Z<|lsB 103 false rfl (by first|(simp;done)|(simp;omega))<|nG<|aN Z<|aK<|gA<|laT Z<|lN ?_
        refine gT<|aR ?_
        refine end_ret ?_ trivial
        rfl
      ·refine v1 7 rfl (zA 2009 ty.ze36 rfl) (.inr rfl) ?_
       refine AF.stx (i:=3) rfl (by kernel_rfl) (StX.callN (F:=(famD vs1 us1 x.disk)) [(1,21),(2,22),(4,11),(5,12)] [21,22] [4,5] 0 Try.func13 (lentAd u11 u12 vs1 us1 x e hz hv1 hu1) tlp List.drop_zero List.take_zero (Nat.zero_le _) ((by rw[hFl];omega)) ((fun y l F ⟨_,_,_,_,_,e2,_⟩=>by subst e2;exact⟨stays.arr rfl,stays.arr rfl,trivial⟩)) rfl rfl) (.inl rfl) rfl ?_
       rintro _ _ ⟨xz6,oz6,Fz6,hz6,hF6,hM6,rfl,rfl⟩
       obtain⟨vs2,us2,hv2,hu2,rfl,rfl,rfl⟩:=hz6
       have hrf6:rowF ([]++(famD vs1 us1 x.disk++famD vs2 us2 (lgAddL x e).disk)):=rowF.app (by first|assumption|exact rowF.nil) hF6
       refine vq 4 (rmX (.tup [.agg [.own _,.own _,vI _ _,vI _ _],vI _ _]) Z)<|pq 5 (qxX (.agg [.own _,.own _,vI _ _,vI _ _]) Z)<|pq 6 (qxI Z)<|vst 8 Z (zB 2009 ty.co36 ty.inf36 Z) (.inl Z)<|vq 9 (raI Z)<|fD<|gT<|aS<|aS ?_
       rw[List.nil_append]
       have hrf2:rowF (famD vs1 us1 x.disk++famD vs2 us2 (lgAddL x e).disk):=rowF.app famD_row famD_row
       have hFl2:=famD_len hv2 hu2
       refine aL<|loX (.agg [.own _,.own _,vI _ _,vI _ _]) ty.kd36 Z<|loX (.agg [vL _ _ _,vL _ _ _,vI _ _,vI _ _]) ty.kd36 Z<|lst (zLN Try.func14 (eqLog_e (lgAddL x e) hz2.e) Z (.cons (rdLog (vs:=vs2) (us:=us2) (d:=(lgAddL x e).disk) (s:=(famD vs1 us1 x.disk).length) tlp Z Z hv2 hu2 at_last) (.cons (Reads.lend Z) .nil))) Z ?_
       refine lTt ((famD vs1 us1 x.disk++famD vs2 us2 (lgAddL x e).disk)) [2,3,4,6,7,8,9,10,40] [11,12,21,22,2002,2003,2006,2008,2009] ?_
       refine luZ Z<|lsB 41 false rfl (by first|(simp;done)|(simp;omega))<|lmZ Z<|lmI Z<|lmI Z<|lbB Z<|lsB 45 false rfl (by first|(simp;done)|(simp;omega))<|lkZ Z<|nG<|aN Z<|aK<|gT<|aS<|aS<|aF []<|sq 0 (roX (.agg [.own _,.own _,vI _ _,vI _ _]) ty.kd36 rfl)<|vq 1 (roX (.agg [vL _ _ _,vL _ _ _,vI _ _,vI _ _]) ty.kd27 rfl)<|vst 2 rfl (zC [] [] [] Try.func11 (toLog_f x hz) (trivial) rfl rfl) (.inr rfl)<|vst 3 rfl (zLN Try.func14 (eqLog_e x hz.e) rfl (.cons (rdLog (vs:=vs1) (us:=us1) (d:=x.disk) (s:=0) tlp rfl rfl hv1 hu1 (fun j hj=>by rw[Nat.zero_add,List.getElem?_append_left hj])) (.cons (Reads.lend rfl) .nil))) (.inr rfl)<|vq 4 (ruZ rfl)<|fsB 51 false rfl (by first|(simp;done)|(simp;omega))<|fD<|gT<|aN Z<|aK<|gA<|laI rfl ?_
       refine nA<|loX (.agg [.own _,.own _,vI _ _,vI _ _]) ty.kd36 Z<|lmI Z ?_
       refine AL.stx (StX.callN (F:=(famD vs1 us1 x.disk++famD vs2 us2 (lgAddL x e).disk)) [(1,11),(2,12)] [] [1,2] 0 Try.func15 (markLog_e u11 u12 vs1 us1 x.disk (famD vs2 us2 (lgAddL x e).disk) 1 hv1 hu1 famD_row (by rw[hFl2];omega) hz (by omega) x.next x.epoch) tlp List.drop_zero List.take_zero (Nat.zero_le _) ((by rw[List.length_append,hFl,hFl2];omega)) ((fun y l F ⟨_,e2,_⟩=>by subst e2;exact⟨stays.arr rfl,stays.arr (by show (rowsWV us1 (mkG mWr gWr _ _)).length=_;rw[rowsWV_len (by rw[mkG_len];exact hu1),mkG_len,rowsWV_len hu1]),trivial⟩)) rfl rfl) rfl ?_
       rintro _ _ ⟨xz7,oz7,Fz7,hz7,hF7,hM7,rfl,rfl⟩
       obtain⟨rfl,rfl,rfl⟩:=hz7
       have hrf7:rowF ([]++(famD vs1 us1 (mkDk x.disk 1)++famD vs2 us2 (lgAddL x e).disk)):=rowF.app (by first|assumption|exact rowF.nil) hF7
       refine lTt (([]++(famD vs1 us1 (mkDk x.disk 1)++famD vs2 us2 (lgAddL x e).disk))) [2,3,4,6,7,9,10,11,54] [21,22,2002,2003,2006,2009] ?_
       refine laI Z<|nG<|aS<|aS ?_
       rw[List.nil_append]
       have hrA:rowF (famD vs1 us1 (mkDk x.disk 1)):=famD_row
       have hrf3:rowF (famD vs1 us1 (mkDk x.disk 1)++famD vs2 us2 (lgAddL x e).disk):=rowF.app famD_row famD_row
       refine aL<|lmI Z<|lbB Z<|lsB 56 false rfl (by first|(simp;done)|(simp;omega))<|lmZ Z<|loX (.agg [.own _,.own _,vI _ _,vI _ _]) ty.kd36 Z<|loX (.agg [vL _ _ _,vL _ _ _,vI _ _,vI _ _]) ty.kd36 Z<|lst (zLN Try.func14 (eqLog_e (lgAddL x e) hz2.e) rfl (.cons (rdLog (vs:=vs2) (us:=us2) (d:=(lgAddL x e).disk) (s:=(famD vs1 us1 (mkDk x.disk 1)).length) tlp rfl rfl hv2 hu2 at_last) (.cons (Reads.lend rfl) .nil))) Z<|luZ Z<|lsB 61 false rfl (by first|(simp;done)|(simp;omega))<|lkZ Z<|lmZ Z<|lmI Z<|lmI Z<|lbB Z<|lsB 66 false rfl (by first|(simp;done)|(simp;omega))<|lkZ Z<|nG<|aN Z<|aK<|gA<|laI Z<|nG<|aS ?_
       refine AW.pinA 21 rfl ?_
       intro u21
       refine AW.pinA 22 rfl ?_
       intro u22
       rw[←List.append_nil (famD vs2 us2 (lgAddL x e).disk)]
       have hrf4:rowF (famD vs1 us1 (mkDk x.disk 1)++(famD vs2 us2 (lgAddL x e).disk++[])):=rowF.app famD_row (rowF.app famD_row rowF.nil)
       refine aL<|loX (.agg [.own _,.own _,vI _ _,vI _ _]) ty.kd36 Z<|lmI Z ?_
       refine AL.stx (StX.callN (F:=(famD vs1 us1 (mkDk x.disk 1)++(famD vs2 us2 (lgAddL x e).disk++[]))) [(1,21),(2,22)] [] [1,2] (famD vs1 us1 (mkDk x.disk 1)).length Try.func15 (markLog_e u21 u22 vs2 us2 (lgAddL x e).disk [] 1 hv2 hu2 rowF.nil (by simp) hz2 (by omega) (lgAddL x e).next (lgAddL x e).epoch) tlp List.drop_left List.take_left (by simp) ((by rw[List.length_append,List.append_nil,hFl2,famD_len (d:=mkDk x.disk 1) (by show _=(mkG mCe gCe _ _).length;rw[mkG_len];exact hv1) (by show _=(mkG mWr gWr _ _).length;rw[mkG_len];exact hu1)];show (mkG mCe gCe _ _).length+(mkG mWr gWr _ _).length+_≤_;rw[mkG_len,mkG_len];omega)) ((fun y l F ⟨_,e2,_⟩=>by subst e2;exact⟨stays.arr rfl,stays.arr (by show (rowsWV us2 (mkG mWr gWr _ _)).length=_;rw[rowsWV_len (by rw[mkG_len];exact hu2),mkG_len,rowsWV_len hu2]),trivial⟩)) rfl rfl) rfl ?_
       rintro _ _ ⟨xz8,oz8,Fz8,hz8,hF8,hM8,rfl,rfl⟩
       obtain⟨rfl,rfl,rfl⟩:=hz8
       have hrf8:rowF (famD vs1 us1 (mkDk x.disk 1)++(famD vs2 us2 (mkDk (lgAddL x e).disk 1)++[])):=rowF.app (by first|assumption|exact rowF.nil) hF8
       refine lTt ((famD vs1 us1 (mkDk x.disk 1)++(famD vs2 us2 (mkDk (lgAddL x e).disk 1)++[]))) [2,3,4,6,7,9,12,70] [21,22,2002,2003,2006,2009] ?_
       refine laI Z<|nG<|aS ?_
       rw[List.append_nil (famD vs2 us2 (mkDk (lgAddL x e).disk 1))]
       have hrf5:rowF (famD vs1 us1 (mkDk x.disk 1)++famD vs2 us2 (mkDk (lgAddL x e).disk 1)):=rowF.app famD_row famD_row
       refine aL<|laI Z<|nA<|loX (.agg [.own _,.own _,vI _ _,vI _ _]) ty.kd36 Z<|lmI Z<|lst (zLN Try.func16 (heldLog_e (lgAddL x e) 1 hz2.m (by omega)) rfl (.cons (rdLog (vs:=vs2) (us:=us2) (d:=mkDk (lgAddL x e).disk 1) (s:=(famD vs1 us1 (mkDk x.disk 1)).length) tlp rfl rfl (by show _=(mkG mCe gCe _ _).length;rw[mkG_len];exact hv2) (by show _=(mkG mWr gWr _ _).length;rw[mkG_len];exact hu2) at_last) (.cons (Reads.lend rfl) .nil))) Z<|laI Z<|nG<|aS<|sL<|lmI Z<|lbB Z<|lsB 75 false rfl (by first|(simp;done)|(simp;omega))<|nG<|aN Z<|aK<|gT<|aS<|sL<|lmI Z<|lmI Z<|lbB Z<|lsB 78 false rfl (by first|(simp;done)|(simp;omega)) ?_
       refine nG<|aN Z<|aK<|gT<|aS<|aF [9]<|sq 0 (roX (.agg [vL _ _ _,vL _ _ _,vI _ _,vI _ _]) ty.kd27 Z)<|sq 2 (roX (.agg [vI _ _,vI _ _,vI _ _,vI _ _,vI _ _,vI _ _,vB _]) ty.kd29 Z) ?_
       refine AF.two (i:=1) (j:=8) (by kernel_rfl) ?_ ?_
       ·refine v1 1 rfl (zC [] [] [] Try.func11 (toLog_f x hz) (trivial) rfl rfl) (.inr rfl) ?_
        refine fTt ((famD vs1 us1 (mkDk x.disk 1)++famD vs2 us2 (mkDk (lgAddL x e).disk 1))) [4,6,7,9,12,13,81,82] [21,22,2006,2009] ?_
        refine AF.two (i:=3) (j:=8) (by kernel_rfl) ?_ ?_
        ·refine v1 3 rfl (zL Try.func12 (toEvent_e e) rfl) (.inr rfl) ?_
         refine AF.two (i:=4) (j:=8) (by kernel_rfl) ?_ ?_
         ·refine v1 4 rfl (zC [] [] [] Try.func13 (logAdd_f x e) (trivial) rfl rfl) (.inr rfl)<|pq 5 (qmX (.tup [.agg [vL _ _ _,vL _ _ _,vI _ _,vI _ _],vI _ _]) rfl)<|pq 6 (qxX (.agg [vL _ _ _,vL _ _ _,vI _ _,vI _ _]) rfl)<|pq 7 (qxI rfl)<|vst 8 rfl (zA 2014 ty.ze36 rfl) (.inr rfl)<|vst 9 rfl (zB 2014 ty.co36 ty.inf36 rfl) (.inl rfl)<|vq 10 (raI rfl)<|fD<|gT<|aS<|sL<|loX (.agg [vL _ _ _,vL _ _ _,vI _ _,vI _ _]) ty.kd36 Z<|loX (.agg [vL _ _ _,vL _ _ _,vI _ _,vI _ _]) ty.kd36 Z<|lst (zL Try.func14 (eqLog_e (lgAddL x e) hz2.e) rfl) Z<|luZ Z<|lsB 90 false rfl (by first|(simp;done)|(simp;omega))<|lmZ Z<|lmI Z<|lmI Z<|lbB Z<|lsB 94 false rfl (by first|(simp;done)|(simp;omega))<|lkZ Z<|nG<|aN Z<|aK<|gA ?_
          refine laI Z<|nA<|loX (.agg [.own _,.own _,vI _ _,vI _ _]) ty.kd36 Z<|lmI Z<|lst (zLN Try.func16 (heldLog_e (lgAddL x e) 1 hz2.m (by omega)) rfl (.cons (rdLog (vs:=vs2) (us:=us2) (d:=mkDk (lgAddL x e).disk 1) (s:=(famD vs1 us1 (mkDk x.disk 1)).length) tlp rfl rfl (by show _=(mkG mCe gCe _ _).length;rw[mkG_len];exact hv2) (by show _=(mkG mWr gWr _ _).length;rw[mkG_len];exact hu2) at_last) (.cons (Reads.lend rfl) .nil))) rfl ?_
          refine lTt ((famD vs1 us1 (mkDk x.disk 1)++famD vs2 us2 (mkDk (lgAddL x e).disk 1))) [4,12,13,98] [] ?_
          refine laI Z<|nG<|aS<|sL<|lmI Z<|lbB Z<|lsB 100 false rfl (by first|(simp;done)|(simp;omega))<|nG<|aN Z<|aK<|gT<|aS<|sL<|lmI Z<|lmI Z<|lbB Z<|lsB 103 false rfl (by first|(simp;done)|(simp;omega))<|nG<|aN Z<|aK<|gA<|laT Z<|lN ?_
          refine gT<|aR ?_
          refine end_ret ?_ trivial
          rfl
         ·refine v1 8 Z (zA 2014 ty.ze36 Z) (.inr Z)<|vst 4 Z (zC [] [] [] Try.func13 (logAdd_f x e) (trivial) Z Z) (.inr Z)<|vq 5 (rmX (.tup [.agg [vL _ _ _,vL _ _ _,vI _ _,vI _ _],vI _ _]) Z)<|pq 6 (qxX (.agg [vL _ _ _,vL _ _ _,vI _ _,vI _ _]) Z)<|pq 7 (qxI Z)<|vst 9 Z (zB 2014 ty.co36 ty.inf36 Z) (.inl Z)<|vq 10 (raI Z)<|fD<|gT<|aS<|sL<|loX (.agg [vL _ _ _,vL _ _ _,vI _ _,vI _ _]) ty.kd36 Z<|loX (.agg [vL _ _ _,vL _ _ _,vI _ _,vI _ _]) ty.kd36 Z<|lst (zL Try.func14 (eqLog_e (lgAddL x e) hz2.e) Z) Z ?_
          refine lTt ((famD vs1 us1 (mkDk x.disk 1)++famD vs2 us2 (mkDk (lgAddL x e).disk 1))) [4,7,9,12,13,15,89] [21,22,2009] ?_
          refine luZ Z<|lsB 90 false rfl (by first|(simp;done)|(simp;omega))<|lmZ Z<|lmI Z<|lmI Z<|lbB Z<|lsB 94 false rfl (by first|(simp;done)|(simp;omega))<|lkZ Z<|nG<|aN Z<|aK<|gA<|laI Z<|nA<|loX (.agg [.own _,.own _,vI _ _,vI _ _]) ty.kd36 Z<|lmI Z<|lst (zLN Try.func16 (heldLog_e (lgAddL x e) 1 hz2.m (by omega)) rfl (.cons (rdLog (vs:=vs2) (us:=us2) (d:=mkDk (lgAddL x e).disk 1) (s:=(famD vs1 us1 (mkDk x.disk 1)).length) tlp rfl rfl (by show _=(mkG mCe gCe _ _).length;rw[mkG_len];exact hv2) (by show _=(mkG mWr gWr _ _).length;rw[mkG_len];exact hu2) at_last) (.cons (Reads.lend rfl) .nil))) Z<|laI Z<|nG<|aS<|sL<|lmI rfl ?_
          refine lbB Z<|lsB 100 false rfl (by first|(simp;done)|(simp;omega))<|nG<|aN Z<|aK<|gT<|aS<|sL<|lmI Z<|lmI Z<|lbB Z<|lsB 103 false rfl (by first|(simp;done)|(simp;omega))<|nG<|aN Z<|aK<|gA<|laT Z<|nG<|aR ?_
          refine end_ret ?_ trivial
          rfl
        ·refine v1 8 rfl (zA 2014 ty.ze36 rfl) (.inr rfl) ?_
         refine fTt ((famD vs1 us1 (mkDk x.disk 1)++famD vs2 us2 (mkDk (lgAddL x e).disk 1))) [4,6,7,9,12,13,14,81,82] [21,22,2006,2009,2014] ?_
         refine vst 3 rfl (zL Try.func12 (toEvent_e e) rfl) (.inr rfl)<|vst 4 rfl (zC [] [] [] Try.func13 (logAdd_f x e) (trivial) rfl rfl) (.inr rfl)<|vq 5 (rmX (.tup [.agg [vL _ _ _,vL _ _ _,vI _ _,vI _ _],vI _ _]) rfl)<|pq 6 (qxX (.agg [vL _ _ _,vL _ _ _,vI _ _,vI _ _]) rfl)<|pq 7 (qxI rfl)<|vst 9 rfl (zB 2014 ty.co36 ty.inf36 rfl) (.inl rfl)<|vq 10 (raI rfl)<|fD<|gT<|aS<|sL<|loX (.agg [vL _ _ _,vL _ _ _,vI _ _,vI _ _]) ty.kd36 Z<|loX (.agg [vL _ _ _,vL _ _ _,vI _ _,vI _ _]) ty.kd36 Z<|lst (zL Try.func14 (eqLog_e (lgAddL x e) hz2.e) rfl) Z<|luZ Z<|lsB 90 false rfl (by first|(simp;done)|(simp;omega))<|lmZ Z<|lmI Z<|lmI Z<|lbB Z<|lsB 94 false rfl (by first|(simp;done)|(simp;omega))<|lkZ Z<|nG<|aN Z<|aK<|gA ?_
         refine laI Z<|nA<|loX (.agg [.own _,.own _,vI _ _,vI _ _]) ty.kd36 Z<|lmI Z<|lst (zLN Try.func16 (heldLog_e (lgAddL x e) 1 hz2.m (by omega)) rfl (.cons (rdLog (vs:=vs2) (us:=us2) (d:=mkDk (lgAddL x e).disk 1) (s:=(famD vs1 us1 (mkDk x.disk 1)).length) tlp rfl rfl (by show _=(mkG mCe gCe _ _).length;rw[mkG_len];exact hv2) (by show _=(mkG mWr gWr _ _).length;rw[mkG_len];exact hu2) at_last) (.cons (Reads.lend rfl) .nil))) rfl ?_
         refine lTt ((famD vs1 us1 (mkDk x.disk 1)++famD vs2 us2 (mkDk (lgAddL x e).disk 1))) [4,12,13,98] [] ?_
         refine laI Z<|nG<|aS<|sL<|lmI Z<|lbB Z<|lsB 100 false rfl (by first|(simp;done)|(simp;omega))<|nG<|aN Z<|aK<|gT<|aS<|sL<|lmI Z<|lmI Z<|lbB Z<|lsB 103 false rfl (by first|(simp;done)|(simp;omega))<|nG<|aN Z<|aK<|gA<|laT Z<|lN ?_
         refine gT<|aR ?_
         refine end_ret ?_ trivial
         rfl
       ·refine v1 8 Z (zA 2014 ty.ze36 Z) (.inr Z)<|vst 1 Z (zC [] [] [] Try.func11 (toLog_f x hz) (trivial) Z Z) (.inr Z)<|vst 3 Z (zL Try.func12 (toEvent_e e) Z) (.inr Z)<|vst 4 Z (zC [] [] [] Try.func13 (logAdd_f x e) (trivial) Z Z) (.inr Z)<|vq 5 (rmX (.tup [.agg [vL _ _ _,vL _ _ _,vI _ _,vI _ _],vI _ _]) Z)<|pq 6 (qxX (.agg [vL _ _ _,vL _ _ _,vI _ _,vI _ _]) Z)<|pq 7 (qxI Z)<|vst 9 Z (zB 2014 ty.co36 ty.inf36 Z) (.inl Z) ?_
        refine fTt ((famD vs1 us1 (mkDk x.disk 1)++famD vs2 us2 (mkDk (lgAddL x e).disk 1))) [4,6,7,9,12,13,14,86] [21,22,2006,2009,2014] ?_
        refine vq 10 (raI rfl)<|fD<|gT<|aS<|sL<|loX (.agg [vL _ _ _,vL _ _ _,vI _ _,vI _ _]) ty.kd36 Z<|loX (.agg [vL _ _ _,vL _ _ _,vI _ _,vI _ _]) ty.kd36 Z<|lst (zL Try.func14 (eqLog_e (lgAddL x e) hz2.e) rfl) Z<|luZ Z<|lsB 90 false rfl (by first|(simp;done)|(simp;omega))<|lmZ Z<|lmI Z<|lmI Z<|lbB Z<|lsB 94 false rfl (by first|(simp;done)|(simp;omega))<|lkZ Z<|nG<|aN Z<|aK<|gA<|laI Z<|nA<|loX (.agg [.own _,.own _,vI _ _,vI _ _]) ty.kd36 rfl ?_
        refine lmI Z<|lst (zLN Try.func16 (heldLog_e (lgAddL x e) 1 hz2.m (by omega)) rfl (.cons (rdLog (vs:=vs2) (us:=us2) (d:=mkDk (lgAddL x e).disk 1) (s:=(famD vs1 us1 (mkDk x.disk 1)).length) tlp rfl rfl (by show _=(mkG mCe gCe _ _).length;rw[mkG_len];exact hv2) (by show _=(mkG mWr gWr _ _).length;rw[mkG_len];exact hu2) at_last) (.cons (Reads.lend rfl) .nil))) rfl ?_
        refine lTt ((famD vs1 us1 (mkDk x.disk 1)++famD vs2 us2 (mkDk (lgAddL x e).disk 1))) [4,12,13,98] [] ?_
        refine laI Z<|nG<|aS<|sL<|lmI Z<|lbB Z<|lsB 100 false rfl (by first|(simp;done)|(simp;omega))<|nG<|aN Z<|aK<|gT<|aS<|sL<|lmI Z<|lmI Z<|lbB Z<|lsB 103 false rfl (by first|(simp;done)|(simp;omega))<|nG<|aN Z<|aK<|gA<|laT Z<|lN ?_
        refine gT<|aR ?_
        refine end_ret ?_ trivial
        rfl
     ·refine v1 7 Z (zA 2009 ty.ze36 Z) (.inr Z)<|vst 2 Z (zL Try.func12 (toEvent_e e) Z) (.inr Z) ?_
      refine AF.stx (i:=3) rfl (by kernel_rfl) (StX.callN (F:=(famD vs1 us1 x.disk)) [(1,21),(2,22),(4,11),(5,12)] [21,22] [4,5] 0 Try.func13 (lentAd u11 u12 vs1 us1 x e hz hv1 hu1) tlp List.drop_zero List.take_zero (Nat.zero_le _) ((by rw[hFl];omega)) ((fun y l F ⟨_,_,_,_,_,e2,_⟩=>by subst e2;exact⟨stays.arr rfl,stays.arr rfl,trivial⟩)) rfl rfl) (.inl rfl) rfl ?_
      rintro _ _ ⟨xz9,oz9,Fz9,hz9,hF9,hM9,rfl,rfl⟩
      obtain⟨vs2,us2,hv2,hu2,rfl,rfl,rfl⟩:=hz9
      have hrf9:rowF ([]++(famD vs1 us1 x.disk++famD vs2 us2 (lgAddL x e).disk)):=rowF.app (by first|assumption|exact rowF.nil) hF9
      refine vq 4 (rmX (.tup [.agg [.own _,.own _,vI _ _,vI _ _],vI _ _]) Z)<|pq 5 (qxX (.agg [.own _,.own _,vI _ _,vI _ _]) Z)<|pq 6 (qxI Z)<|vst 8 Z (zB 2009 ty.co36 ty.inf36 Z) (.inl Z) ?_
      refine fTt (([]++(famD vs1 us1 x.disk++famD vs2 us2 (lgAddL x e).disk))) [2,3,4,6,7,8,9,37] [11,12,21,22,2002,2003,2006,2008,2009] ?_
      refine vq 9 (raI Z)<|fD<|gT<|aS<|aS ?_
      rw[List.nil_append]
      have hrf2:rowF (famD vs1 us1 x.disk++famD vs2 us2 (lgAddL x e).disk):=rowF.app famD_row famD_row
      have hFl2:=famD_len hv2 hu2
      refine aL<|loX (.agg [.own _,.own _,vI _ _,vI _ _]) ty.kd36 Z<|loX (.agg [vL _ _ _,vL _ _ _,vI _ _,vI _ _]) ty.kd36 Z<|lst (zLN Try.func14 (eqLog_e (lgAddL x e) hz2.e) rfl (.cons (rdLog (vs:=vs2) (us:=us2) (d:=(lgAddL x e).disk) (s:=(famD vs1 us1 x.disk).length) tlp rfl rfl hv2 hu2 at_last) (.cons (Reads.lend rfl) .nil))) Z<|luZ Z<|lsB 41 false rfl (by first|(simp;done)|(simp;omega))<|lmZ Z<|lmI Z<|lmI Z<|lbB Z<|lsB 45 false rfl (by first|(simp;done)|(simp;omega))<|lkZ Z<|nG<|aN Z<|aK<|gT<|aS<|aS<|aF []<|sq 0 (roX (.agg [.own _,.own _,vI _ _,vI _ _]) ty.kd36 rfl)<|vq 1 (roX (.agg [vL _ _ _,vL _ _ _,vI _ _,vI _ _]) ty.kd27 rfl)<|vst 2 rfl (zC [] [] [] Try.func11 (toLog_f x hz) (trivial) rfl rfl) (.inr rfl)<|vst 3 rfl (zLN Try.func14 (eqLog_e x hz.e) rfl (.cons (rdLog (vs:=vs1) (us:=us1) (d:=x.disk) (s:=0) tlp rfl rfl hv1 hu1 (fun j hj=>by rw[Nat.zero_add,List.getElem?_append_left hj])) (.cons (Reads.lend rfl) .nil))) (.inr rfl) ?_
      refine fTt ((famD vs1 us1 x.disk++famD vs2 us2 (lgAddL x e).disk)) [2,3,4,6,7,8,9,10,50] [11,12,21,22,2002,2003,2006,2008,2009] ?_
      refine vq 4 (ruZ rfl)<|fsB 51 false rfl (by first|(simp;done)|(simp;omega))<|fD<|gT<|aN Z<|aK<|gA<|laI Z<|nA<|loX (.agg [.own _,.own _,vI _ _,vI _ _]) ty.kd36 Z<|lmI rfl ?_
      refine AL.stx (StX.callN (F:=(famD vs1 us1 x.disk++famD vs2 us2 (lgAddL x e).disk)) [(1,11),(2,12)] [] [1,2] 0 Try.func15 (markLog_e u11 u12 vs1 us1 x.disk (famD vs2 us2 (lgAddL x e).disk) 1 hv1 hu1 famD_row (by rw[hFl2];omega) hz (by omega) x.next x.epoch) tlp List.drop_zero List.take_zero (Nat.zero_le _) ((by rw[List.length_append,hFl,hFl2];omega)) ((fun y l F ⟨_,e2,_⟩=>by subst e2;exact⟨stays.arr rfl,stays.arr (by show (rowsWV us1 (mkG mWr gWr _ _)).length=_;rw[rowsWV_len (by rw[mkG_len];exact hu1),mkG_len,rowsWV_len hu1]),trivial⟩)) rfl rfl) rfl ?_
      rintro _ _ ⟨xz10,oz10,Fz10,hz10,hF10,hM10,rfl,rfl⟩
      obtain⟨rfl,rfl,rfl⟩:=hz10
      have hrf10:rowF ([]++(famD vs1 us1 (mkDk x.disk 1)++famD vs2 us2 (lgAddL x e).disk)):=rowF.app (by first|assumption|exact rowF.nil) hF10
      refine laI Z<|nG<|aS<|aS ?_
      rw[List.nil_append]
      have hrA:rowF (famD vs1 us1 (mkDk x.disk 1)):=famD_row
      have hrf3:rowF (famD vs1 us1 (mkDk x.disk 1)++famD vs2 us2 (lgAddL x e).disk):=rowF.app famD_row famD_row
      refine aL<|lmI Z<|lbB Z<|lsB 56 false rfl (by first|(simp;done)|(simp;omega))<|lmZ Z<|loX (.agg [.own _,.own _,vI _ _,vI _ _]) ty.kd36 Z<|loX (.agg [vL _ _ _,vL _ _ _,vI _ _,vI _ _]) ty.kd36 Z<|lst (zLN Try.func14 (eqLog_e (lgAddL x e) hz2.e) rfl (.cons (rdLog (vs:=vs2) (us:=us2) (d:=(lgAddL x e).disk) (s:=(famD vs1 us1 (mkDk x.disk 1)).length) tlp rfl rfl hv2 hu2 at_last) (.cons (Reads.lend rfl) .nil))) Z<|luZ Z<|lsB 61 false rfl (by first|(simp;done)|(simp;omega))<|lkZ Z<|lmZ Z<|lmI Z<|lmI Z<|lbB Z<|lsB 66 false rfl (by first|(simp;done)|(simp;omega))<|lkZ Z<|nG<|aN Z<|aK<|gA<|laI Z<|nG<|aS ?_
      refine AW.pinA 21 rfl ?_
      intro u21
      refine AW.pinA 22 rfl ?_
      intro u22
      rw[←List.append_nil (famD vs2 us2 (lgAddL x e).disk)]
      have hrf4:rowF (famD vs1 us1 (mkDk x.disk 1)++(famD vs2 us2 (lgAddL x e).disk++[])):=rowF.app famD_row (rowF.app famD_row rowF.nil)
      refine aL<|loX (.agg [.own _,.own _,vI _ _,vI _ _]) ty.kd36 Z<|lmI Z ?_
      refine AL.stx (StX.callN (F:=(famD vs1 us1 (mkDk x.disk 1)++(famD vs2 us2 (lgAddL x e).disk++[]))) [(1,21),(2,22)] [] [1,2] (famD vs1 us1 (mkDk x.disk 1)).length Try.func15 (markLog_e u21 u22 vs2 us2 (lgAddL x e).disk [] 1 hv2 hu2 rowF.nil (by simp) hz2 (by omega) (lgAddL x e).next (lgAddL x e).epoch) tlp List.drop_left List.take_left (by simp) ((by rw[List.length_append,List.append_nil,hFl2,famD_len (d:=mkDk x.disk 1) (by show _=(mkG mCe gCe _ _).length;rw[mkG_len];exact hv1) (by show _=(mkG mWr gWr _ _).length;rw[mkG_len];exact hu1)];show (mkG mCe gCe _ _).length+(mkG mWr gWr _ _).length+_≤_;rw[mkG_len,mkG_len];omega)) ((fun y l F ⟨_,e2,_⟩=>by subst e2;exact⟨stays.arr rfl,stays.arr (by show (rowsWV us2 (mkG mWr gWr _ _)).length=_;rw[rowsWV_len (by rw[mkG_len];exact hu2),mkG_len,rowsWV_len hu2]),trivial⟩)) rfl rfl) rfl ?_
      rintro _ _ ⟨xz11,oz11,Fz11,hz11,hF11,hM11,rfl,rfl⟩
      obtain⟨rfl,rfl,rfl⟩:=hz11
      have hrf11:rowF (famD vs1 us1 (mkDk x.disk 1)++(famD vs2 us2 (mkDk (lgAddL x e).disk 1)++[])):=rowF.app (by first|assumption|exact rowF.nil) hF11
      refine lTt ((famD vs1 us1 (mkDk x.disk 1)++(famD vs2 us2 (mkDk (lgAddL x e).disk 1)++[]))) [2,3,4,6,7,9,12,70] [21,22,2002,2003,2006,2009] ?_
      refine laI Z<|nG<|aS ?_
      rw[List.append_nil (famD vs2 us2 (mkDk (lgAddL x e).disk 1))]
      have hrf5:rowF (famD vs1 us1 (mkDk x.disk 1)++famD vs2 us2 (mkDk (lgAddL x e).disk 1)):=rowF.app famD_row famD_row
      refine aL<|laI Z<|nA<|loX (.agg [.own _,.own _,vI _ _,vI _ _]) ty.kd36 Z<|lmI Z<|lst (zLN Try.func16 (heldLog_e (lgAddL x e) 1 hz2.m (by omega)) rfl (.cons (rdLog (vs:=vs2) (us:=us2) (d:=mkDk (lgAddL x e).disk 1) (s:=(famD vs1 us1 (mkDk x.disk 1)).length) tlp rfl rfl (by show _=(mkG mCe gCe _ _).length;rw[mkG_len];exact hv2) (by show _=(mkG mWr gWr _ _).length;rw[mkG_len];exact hu2) at_last) (.cons (Reads.lend rfl) .nil))) Z<|laI Z<|nG<|aS<|sL<|lmI Z<|lbB Z<|lsB 75 false rfl (by first|(simp;done)|(simp;omega))<|nG<|aN Z<|aK<|gT<|aS<|sL<|lmI Z<|lmI Z<|lbB Z<|lsB 78 false rfl (by first|(simp;done)|(simp;omega)) ?_
      refine nG<|aN Z<|aK<|gT<|aS<|aF [9]<|sq 0 (roX (.agg [vL _ _ _,vL _ _ _,vI _ _,vI _ _]) ty.kd27 Z)<|sq 2 (roX (.agg [vI _ _,vI _ _,vI _ _,vI _ _,vI _ _,vI _ _,vB _]) ty.kd29 Z) ?_
      refine AF.two (i:=1) (j:=8) (by kernel_rfl) ?_ ?_
      ·refine v1 1 rfl (zC [] [] [] Try.func11 (toLog_f x hz) (trivial) rfl rfl) (.inr rfl) ?_
       refine fTt ((famD vs1 us1 (mkDk x.disk 1)++famD vs2 us2 (mkDk (lgAddL x e).disk 1))) [4,6,7,9,12,13,81,82] [21,22,2006,2009] ?_
       refine AF.two (i:=3) (j:=8) (by kernel_rfl) ?_ ?_
       ·refine v1 3 rfl (zL Try.func12 (toEvent_e e) rfl) (.inr rfl) ?_
        refine AF.two (i:=4) (j:=8) (by kernel_rfl) ?_ ?_
        ·refine v1 4 rfl (zC [] [] [] Try.func13 (logAdd_f x e) (trivial) rfl rfl) (.inr rfl)<|pq 5 (qmX (.tup [.agg [vL _ _ _,vL _ _ _,vI _ _,vI _ _],vI _ _]) rfl)<|pq 6 (qxX (.agg [vL _ _ _,vL _ _ _,vI _ _,vI _ _]) rfl)<|pq 7 (qxI rfl)<|vst 8 rfl (zA 2014 ty.ze36 rfl) (.inr rfl)<|vst 9 rfl (zB 2014 ty.co36 ty.inf36 rfl) (.inl rfl)<|vq 10 (raI rfl)<|fD<|gT<|aS<|sL<|loX (.agg [vL _ _ _,vL _ _ _,vI _ _,vI _ _]) ty.kd36 Z<|loX (.agg [vL _ _ _,vL _ _ _,vI _ _,vI _ _]) ty.kd36 Z<|lst (zL Try.func14 (eqLog_e (lgAddL x e) hz2.e) rfl) Z<|luZ Z<|lsB 90 false rfl (by first|(simp;done)|(simp;omega))<|lmZ Z<|lmI Z<|lmI Z<|lbB Z<|lsB 94 false rfl (by first|(simp;done)|(simp;omega))<|lkZ Z<|nG<|aN Z<|aK<|gA ?_
         refine laI Z<|nA<|loX (.agg [.own _,.own _,vI _ _,vI _ _]) ty.kd36 Z<|lmI Z<|lst (zLN Try.func16 (heldLog_e (lgAddL x e) 1 hz2.m (by omega)) rfl (.cons (rdLog (vs:=vs2) (us:=us2) (d:=mkDk (lgAddL x e).disk 1) (s:=(famD vs1 us1 (mkDk x.disk 1)).length) tlp rfl rfl (by show _=(mkG mCe gCe _ _).length;rw[mkG_len];exact hv2) (by show _=(mkG mWr gWr _ _).length;rw[mkG_len];exact hu2) at_last) (.cons (Reads.lend rfl) .nil))) rfl ?_
         refine lTt ((famD vs1 us1 (mkDk x.disk 1)++famD vs2 us2 (mkDk (lgAddL x e).disk 1))) [4,12,13,98] [] ?_
         refine laI Z<|nG<|aS<|sL<|lmI Z<|lbB Z<|lsB 100 false rfl (by first|(simp;done)|(simp;omega))<|nG<|aN Z<|aK<|gT<|aS<|sL<|lmI Z<|lmI Z<|lbB Z<|lsB 103 false rfl (by first|(simp;done)|(simp;omega))<|nG<|aN Z<|aK<|gA<|laT Z<|lN ?_
         refine gT<|aR ?_
         refine end_ret ?_ trivial
         rfl
        ·refine v1 8 Z (zA 2014 ty.ze36 Z) (.inr Z)<|vst 4 Z (zC [] [] [] Try.func13 (logAdd_f x e) (trivial) Z Z) (.inr Z)<|vq 5 (rmX (.tup [.agg [vL _ _ _,vL _ _ _,vI _ _,vI _ _],vI _ _]) Z)<|pq 6 (qxX (.agg [vL _ _ _,vL _ _ _,vI _ _,vI _ _]) Z)<|pq 7 (qxI Z)<|vst 9 Z (zB 2014 ty.co36 ty.inf36 Z) (.inl Z)<|vq 10 (raI Z)<|fD<|gT<|aS<|sL<|loX (.agg [vL _ _ _,vL _ _ _,vI _ _,vI _ _]) ty.kd36 Z<|loX (.agg [vL _ _ _,vL _ _ _,vI _ _,vI _ _]) ty.kd36 Z<|lst (zL Try.func14 (eqLog_e (lgAddL x e) hz2.e) Z) Z ?_
         refine lTt ((famD vs1 us1 (mkDk x.disk 1)++famD vs2 us2 (mkDk (lgAddL x e).disk 1))) [4,7,9,12,13,15,89] [21,22,2009] ?_
         refine luZ Z<|lsB 90 false rfl (by first|(simp;done)|(simp;omega))<|lmZ Z<|lmI Z<|lmI Z<|lbB Z<|lsB 94 false rfl (by first|(simp;done)|(simp;omega))<|lkZ Z<|nG<|aN Z<|aK<|gA<|laI Z<|nA<|loX (.agg [.own _,.own _,vI _ _,vI _ _]) ty.kd36 Z<|lmI Z<|lst (zLN Try.func16 (heldLog_e (lgAddL x e) 1 hz2.m (by omega)) rfl (.cons (rdLog (vs:=vs2) (us:=us2) (d:=mkDk (lgAddL x e).disk 1) (s:=(famD vs1 us1 (mkDk x.disk 1)).length) tlp rfl rfl (by show _=(mkG mCe gCe _ _).length;rw[mkG_len];exact hv2) (by show _=(mkG mWr gWr _ _).length;rw[mkG_len];exact hu2) at_last) (.cons (Reads.lend rfl) .nil))) Z<|laI Z<|nG<|aS<|sL<|lmI rfl ?_
         refine lbB Z<|lsB 100 false rfl (by first|(simp;done)|(simp;omega))<|nG<|aN Z<|aK<|gT<|aS<|sL<|lmI Z<|lmI Z<|lbB Z<|lsB 103 false rfl (by first|(simp;done)|(simp;omega))<|nG<|aN Z<|aK<|gA<|laT Z<|nG<|aR ?_
         refine end_ret ?_ trivial
         rfl
       ·refine v1 8 rfl (zA 2014 ty.ze36 rfl) (.inr rfl) ?_
        refine fTt ((famD vs1 us1 (mkDk x.disk 1)++famD vs2 us2 (mkDk (lgAddL x e).disk 1))) [4,6,7,9,12,13,14,81,82] [21,22,2006,2009,2014] ?_
        refine vst 3 rfl (zL Try.func12 (toEvent_e e) rfl) (.inr rfl)<|vst 4 rfl (zC [] [] [] Try.func13 (logAdd_f x e) (trivial) rfl rfl) (.inr rfl)<|vq 5 (rmX (.tup [.agg [vL _ _ _,vL _ _ _,vI _ _,vI _ _],vI _ _]) rfl)<|pq 6 (qxX (.agg [vL _ _ _,vL _ _ _,vI _ _,vI _ _]) rfl)<|pq 7 (qxI rfl)<|vst 9 rfl (zB 2014 ty.co36 ty.inf36 rfl) (.inl rfl)<|vq 10 (raI rfl)<|fD<|gT<|aS<|sL<|loX (.agg [vL _ _ _,vL _ _ _,vI _ _,vI _ _]) ty.kd36 Z<|loX (.agg [vL _ _ _,vL _ _ _,vI _ _,vI _ _]) ty.kd36 Z<|lst (zL Try.func14 (eqLog_e (lgAddL x e) hz2.e) rfl) Z<|luZ Z<|lsB 90 false rfl (by first|(simp;done)|(simp;omega))<|lmZ Z<|lmI Z<|lmI Z<|lbB Z<|lsB 94 false rfl (by first|(simp;done)|(simp;omega))<|lkZ Z<|nG<|aN Z<|aK<|gA ?_
        refine laI Z<|nA<|loX (.agg [.own _,.own _,vI _ _,vI _ _]) ty.kd36 Z<|lmI Z<|lst (zLN Try.func16 (heldLog_e (lgAddL x e) 1 hz2.m (by omega)) rfl (.cons (rdLog (vs:=vs2) (us:=us2) (d:=mkDk (lgAddL x e).disk 1) (s:=(famD vs1 us1 (mkDk x.disk 1)).length) tlp rfl rfl (by show _=(mkG mCe gCe _ _).length;rw[mkG_len];exact hv2) (by show _=(mkG mWr gWr _ _).length;rw[mkG_len];exact hu2) at_last) (.cons (Reads.lend rfl) .nil))) rfl ?_
        refine lTt ((famD vs1 us1 (mkDk x.disk 1)++famD vs2 us2 (mkDk (lgAddL x e).disk 1))) [4,12,13,98] [] ?_
        refine laI Z<|nG<|aS<|sL<|lmI Z<|lbB Z<|lsB 100 false rfl (by first|(simp;done)|(simp;omega))<|nG<|aN Z<|aK<|gT<|aS<|sL<|lmI Z<|lmI Z<|lbB Z<|lsB 103 false rfl (by first|(simp;done)|(simp;omega))<|nG<|aN Z<|aK<|gA<|laT Z<|lN ?_
        refine gT<|aR ?_
        refine end_ret ?_ trivial
        rfl
      ·refine v1 8 Z (zA 2014 ty.ze36 Z) (.inr Z)<|vst 1 Z (zC [] [] [] Try.func11 (toLog_f x hz) (trivial) Z Z) (.inr Z)<|vst 3 Z (zL Try.func12 (toEvent_e e) Z) (.inr Z)<|vst 4 Z (zC [] [] [] Try.func13 (logAdd_f x e) (trivial) Z Z) (.inr Z)<|vq 5 (rmX (.tup [.agg [vL _ _ _,vL _ _ _,vI _ _,vI _ _],vI _ _]) Z)<|pq 6 (qxX (.agg [vL _ _ _,vL _ _ _,vI _ _,vI _ _]) Z)<|pq 7 (qxI Z)<|vst 9 Z (zB 2014 ty.co36 ty.inf36 Z) (.inl Z) ?_
       refine fTt ((famD vs1 us1 (mkDk x.disk 1)++famD vs2 us2 (mkDk (lgAddL x e).disk 1))) [4,6,7,9,12,13,14,86] [21,22,2006,2009,2014] ?_
       refine vq 10 (raI rfl)<|fD<|gT<|aS<|sL<|loX (.agg [vL _ _ _,vL _ _ _,vI _ _,vI _ _]) ty.kd36 Z<|loX (.agg [vL _ _ _,vL _ _ _,vI _ _,vI _ _]) ty.kd36 Z<|lst (zL Try.func14 (eqLog_e (lgAddL x e) hz2.e) rfl) Z<|luZ Z<|lsB 90 false rfl (by first|(simp;done)|(simp;omega))<|lmZ Z<|lmI Z<|lmI Z<|lbB Z<|lsB 94 false rfl (by first|(simp;done)|(simp;omega))<|lkZ Z<|nG<|aN Z<|aK<|gA<|laI Z<|nA<|loX (.agg [.own _,.own _,vI _ _,vI _ _]) ty.kd36 rfl ?_
       refine lmI Z<|lst (zLN Try.func16 (heldLog_e (lgAddL x e) 1 hz2.m (by omega)) rfl (.cons (rdLog (vs:=vs2) (us:=us2) (d:=mkDk (lgAddL x e).disk 1) (s:=(famD vs1 us1 (mkDk x.disk 1)).length) tlp rfl rfl (by show _=(mkG mCe gCe _ _).length;rw[mkG_len];exact hv2) (by show _=(mkG mWr gWr _ _).length;rw[mkG_len];exact hu2) at_last) (.cons (Reads.lend rfl) .nil))) rfl ?_
       refine lTt ((famD vs1 us1 (mkDk x.disk 1)++famD vs2 us2 (mkDk (lgAddL x e).disk 1))) [4,12,13,98] [] ?_
       refine laI Z<|nG<|aS<|sL<|lmI Z<|lbB Z<|lsB 100 false rfl (by first|(simp;done)|(simp;omega))<|nG<|aN Z<|aK<|gT<|aS<|sL<|lmI Z<|lmI Z<|lbB Z<|lsB 103 false rfl (by first|(simp;done)|(simp;omega))<|nG<|aN Z<|aK<|gA<|laT Z<|lN ?_
       refine gT<|aR ?_
       refine end_ret ?_ trivial
       rfl
    ·refine v1 8 Z (zA 2006 ty.ze36 Z) (.inr Z)<|vst 4 Z (zC [] [] [] Try.func10 (slogAdd_f x e) (trivial) Z Z) (.inr Z)<|vq 5 (rmX (.tup [.agg [vL _ _ _,vL _ _ _,vI _ _,vI _ _],vI _ _]) Z)<|pq 6 (qxX (.agg [vL _ _ _,vL _ _ _,vI _ _,vI _ _]) Z)<|pq 7 (qxI Z)<|vst 9 Z (zB 2006 ty.co36 ty.inf36 Z) (.inl Z)<|vq 10 (raI Z)<|fD<|gA<|loX (.agg [vL _ _ _,vL _ _ _,vI _ _,vI _ _]) ty.kd27 Z ?_
     refine AL.stx (StX.callN (F:=[]) [(1,11),(2,12)] [11,12] [] ([]).length Try.func11 (toLog_n x hz) tlp List.drop_length List.take_length (Nat.le_refl _) ((by simp)) (fun _ _ _ _=>trivial) rfl rfl) rfl ?_
     rintro _ _ ⟨xz12,oz12,Fz12,hz12,hF12,hM12,rfl,rfl⟩
     obtain⟨vs1,us1,hv1,hu1,rfl,rfl,rfl⟩:=hz12
     have hrf12:rowF ([]++famD vs1 us1 x.disk):=rowF.app (by first|assumption|exact rowF.nil) hF12
     refine lTt (([]++famD vs1 us1 x.disk)) [2,3,4,6,7,30] [11,12,2002,2003,2006] ?_
     refine lst (zA 2008 ty.ze36 Z) Z<|lst (zB 2008 ty.co36 ty.inf36 Z) Z<|nG<|aS ?_
     rw[List.nil_append]
     have hrf1:rowF (famD vs1 us1 x.disk):=famD_row
     have hFl:=famD_len hv1 hu1
     refine AW.pinA 11 rfl ?_
     intro u11
     refine AW.pinA 12 rfl ?_
     intro u12
     refine aF [3,8]<|sq 0 (roX (.agg [.own _,.own _,vI _ _,vI _ _]) ty.kd36 Z)<|sq 1 (roX (.agg [vI _ _,vI _ _,vI _ _,vI _ _,vI _ _,vI _ _,vB _]) ty.kd29 Z) ?_
     refine AF.two (i:=2) (j:=7) (by kernel_rfl) ?_ ?_
     ·refine v1 2 rfl (zL Try.func12 (toEvent_e e) rfl) (.inr rfl) ?_
      refine AF.two (i:=3) (j:=7) (by kernel_rfl) ?_ ?_
      ·refine AF1.stx (i:=3) rfl (StX.callN (F:=(famD vs1 us1 x.disk)) [(1,21),(2,22),(4,11),(5,12)] [21,22] [4,5] 0 Try.func13 (lentAd u11 u12 vs1 us1 x e hz hv1 hu1) tlp List.drop_zero List.take_zero (Nat.zero_le _) ((by rw[hFl];omega)) ((fun y l F ⟨_,_,_,_,_,e2,_⟩=>by subst e2;exact⟨stays.arr rfl,stays.arr rfl,trivial⟩)) rfl rfl) (.inl rfl) rfl ?_
       rintro _ _ ⟨xz14,oz14,Fz14,hz14,hF14,hM14,rfl,rfl⟩
       obtain⟨vs2,us2,hv2,hu2,rfl,rfl,rfl⟩:=hz14
       have hrf14:rowF ([]++(famD vs1 us1 x.disk++famD vs2 us2 (lgAddL x e).disk)):=rowF.app (by first|assumption|exact rowF.nil) hF14
       refine pq 4 (qmX (.tup [.agg [.own _,.own _,vI _ _,vI _ _],vI _ _]) Z)<|pq 5 (qxX (.agg [.own _,.own _,vI _ _,vI _ _]) Z)<|pq 6 (qxI Z)<|vst 7 Z (zA 2009 ty.ze36 Z) (.inr Z)<|vst 8 Z (zB 2009 ty.co36 ty.inf36 Z) (.inl Z)<|vq 9 (raI Z)<|fD<|gT<|aS<|aS ?_
       rw[List.nil_append]
       have hrf2:rowF (famD vs1 us1 x.disk++famD vs2 us2 (lgAddL x e).disk):=rowF.app famD_row famD_row
       have hFl2:=famD_len hv2 hu2
       refine aL<|loX (.agg [.own _,.own _,vI _ _,vI _ _]) ty.kd36 Z<|loX (.agg [vL _ _ _,vL _ _ _,vI _ _,vI _ _]) ty.kd36 Z<|lst (zLN Try.func14 (eqLog_e (lgAddL x e) hz2.e) Z (.cons (rdLog (vs:=vs2) (us:=us2) (d:=(lgAddL x e).disk) (s:=(famD vs1 us1 x.disk).length) tlp Z Z hv2 hu2 at_last) (.cons (Reads.lend Z) .nil))) Z ?_
       refine lTt ((famD vs1 us1 x.disk++famD vs2 us2 (lgAddL x e).disk)) [2,3,4,6,7,8,9,10,40] [11,12,21,22,2002,2003,2006,2008,2009] ?_
       refine luZ Z<|lsB 41 false rfl (by first|(simp;done)|(simp;omega))<|lmZ Z<|lmI Z<|lmI Z<|lbB Z<|lsB 45 false rfl (by first|(simp;done)|(simp;omega))<|lkZ Z<|nG<|aN Z<|aK<|gT<|aS<|aS<|aF []<|sq 0 (roX (.agg [.own _,.own _,vI _ _,vI _ _]) ty.kd36 rfl)<|vq 1 (roX (.agg [vL _ _ _,vL _ _ _,vI _ _,vI _ _]) ty.kd27 rfl)<|vst 2 rfl (zC [] [] [] Try.func11 (toLog_f x hz) (trivial) rfl rfl) (.inr rfl)<|vst 3 rfl (zLN Try.func14 (eqLog_e x hz.e) rfl (.cons (rdLog (vs:=vs1) (us:=us1) (d:=x.disk) (s:=0) tlp rfl rfl hv1 hu1 (fun j hj=>by rw[Nat.zero_add,List.getElem?_append_left hj])) (.cons (Reads.lend rfl) .nil))) (.inr rfl)<|vq 4 (ruZ rfl)<|fsB 51 false rfl (by first|(simp;done)|(simp;omega))<|fD<|gT<|aN Z<|aK<|gA<|laI rfl ?_
       refine nA<|loX (.agg [.own _,.own _,vI _ _,vI _ _]) ty.kd36 Z<|lmI Z ?_
       refine AL.stx (StX.callN (F:=(famD vs1 us1 x.disk++famD vs2 us2 (lgAddL x e).disk)) [(1,11),(2,12)] [] [1,2] 0 Try.func15 (markLog_e u11 u12 vs1 us1 x.disk (famD vs2 us2 (lgAddL x e).disk) 1 hv1 hu1 famD_row (by rw[hFl2];omega) hz (by omega) x.next x.epoch) tlp List.drop_zero List.take_zero (Nat.zero_le _) ((by rw[List.length_append,hFl,hFl2];omega)) ((fun y l F ⟨_,e2,_⟩=>by subst e2;exact⟨stays.arr rfl,stays.arr (by show (rowsWV us1 (mkG mWr gWr _ _)).length=_;rw[rowsWV_len (by rw[mkG_len];exact hu1),mkG_len,rowsWV_len hu1]),trivial⟩)) rfl rfl) rfl ?_
       rintro _ _ ⟨xz15,oz15,Fz15,hz15,hF15,hM15,rfl,rfl⟩
       obtain⟨rfl,rfl,rfl⟩:=hz15
       have hrf15:rowF ([]++(famD vs1 us1 (mkDk x.disk 1)++famD vs2 us2 (lgAddL x e).disk)):=rowF.app (by first|assumption|exact rowF.nil) hF15
       refine lTt (([]++(famD vs1 us1 (mkDk x.disk 1)++famD vs2 us2 (lgAddL x e).disk))) [2,3,4,6,7,9,10,11,54] [21,22,2002,2003,2006,2009] ?_
       refine laI Z<|nG<|aS<|aS ?_
       rw[List.nil_append]
       have hrA:rowF (famD vs1 us1 (mkDk x.disk 1)):=famD_row
       have hrf3:rowF (famD vs1 us1 (mkDk x.disk 1)++famD vs2 us2 (lgAddL x e).disk):=rowF.app famD_row famD_row
       refine aL<|lmI Z<|lbB Z<|lsB 56 false rfl (by first|(simp;done)|(simp;omega))<|lmZ Z<|loX (.agg [.own _,.own _,vI _ _,vI _ _]) ty.kd36 Z<|loX (.agg [vL _ _ _,vL _ _ _,vI _ _,vI _ _]) ty.kd36 Z<|lst (zLN Try.func14 (eqLog_e (lgAddL x e) hz2.e) rfl (.cons (rdLog (vs:=vs2) (us:=us2) (d:=(lgAddL x e).disk) (s:=(famD vs1 us1 (mkDk x.disk 1)).length) tlp rfl rfl hv2 hu2 at_last) (.cons (Reads.lend rfl) .nil))) Z<|luZ Z<|lsB 61 false rfl (by first|(simp;done)|(simp;omega))<|lkZ Z<|lmZ Z<|lmI Z<|lmI Z<|lbB Z<|lsB 66 false rfl (by first|(simp;done)|(simp;omega))<|lkZ Z<|nG<|aN Z<|aK<|gA<|laI Z<|nG<|aS ?_
       refine AW.pinA 21 rfl ?_
       intro u21
       refine AW.pinA 22 rfl ?_
       intro u22
       rw[←List.append_nil (famD vs2 us2 (lgAddL x e).disk)]
       have hrf4:rowF (famD vs1 us1 (mkDk x.disk 1)++(famD vs2 us2 (lgAddL x e).disk++[])):=rowF.app famD_row (rowF.app famD_row rowF.nil)
       refine aL<|loX (.agg [.own _,.own _,vI _ _,vI _ _]) ty.kd36 Z<|lmI Z ?_
       refine AL.stx (StX.callN (F:=(famD vs1 us1 (mkDk x.disk 1)++(famD vs2 us2 (lgAddL x e).disk++[]))) [(1,21),(2,22)] [] [1,2] (famD vs1 us1 (mkDk x.disk 1)).length Try.func15 (markLog_e u21 u22 vs2 us2 (lgAddL x e).disk [] 1 hv2 hu2 rowF.nil (by simp) hz2 (by omega) (lgAddL x e).next (lgAddL x e).epoch) tlp List.drop_left List.take_left (by simp) ((by rw[List.length_append,List.append_nil,hFl2,famD_len (d:=mkDk x.disk 1) (by show _=(mkG mCe gCe _ _).length;rw[mkG_len];exact hv1) (by show _=(mkG mWr gWr _ _).length;rw[mkG_len];exact hu1)];show (mkG mCe gCe _ _).length+(mkG mWr gWr _ _).length+_≤_;rw[mkG_len,mkG_len];omega)) ((fun y l F ⟨_,e2,_⟩=>by subst e2;exact⟨stays.arr rfl,stays.arr (by show (rowsWV us2 (mkG mWr gWr _ _)).length=_;rw[rowsWV_len (by rw[mkG_len];exact hu2),mkG_len,rowsWV_len hu2]),trivial⟩)) rfl rfl) rfl ?_
       rintro _ _ ⟨xz16,oz16,Fz16,hz16,hF16,hM16,rfl,rfl⟩
       obtain⟨rfl,rfl,rfl⟩:=hz16
       have hrf16:rowF (famD vs1 us1 (mkDk x.disk 1)++(famD vs2 us2 (mkDk (lgAddL x e).disk 1)++[])):=rowF.app (by first|assumption|exact rowF.nil) hF16
       refine lTt ((famD vs1 us1 (mkDk x.disk 1)++(famD vs2 us2 (mkDk (lgAddL x e).disk 1)++[]))) [2,3,4,6,7,9,12,70] [21,22,2002,2003,2006,2009] ?_
       refine laI Z<|nG<|aS ?_
       rw[List.append_nil (famD vs2 us2 (mkDk (lgAddL x e).disk 1))]
       have hrf5:rowF (famD vs1 us1 (mkDk x.disk 1)++famD vs2 us2 (mkDk (lgAddL x e).disk 1)):=rowF.app famD_row famD_row
       refine aL<|laI Z<|nA<|loX (.agg [.own _,.own _,vI _ _,vI _ _]) ty.kd36 Z<|lmI Z<|lst (zLN Try.func16 (heldLog_e (lgAddL x e) 1 hz2.m (by omega)) rfl (.cons (rdLog (vs:=vs2) (us:=us2) (d:=mkDk (lgAddL x e).disk 1) (s:=(famD vs1 us1 (mkDk x.disk 1)).length) tlp rfl rfl (by show _=(mkG mCe gCe _ _).length;rw[mkG_len];exact hv2) (by show _=(mkG mWr gWr _ _).length;rw[mkG_len];exact hu2) at_last) (.cons (Reads.lend rfl) .nil))) Z<|laI Z<|nG<|aS<|sL<|lmI Z<|lbB Z<|lsB 75 false rfl (by first|(simp;done)|(simp;omega))<|nG<|aN Z<|aK<|gT<|aS<|sL<|lmI Z<|lmI Z<|lbB Z<|lsB 78 false rfl (by first|(simp;done)|(simp;omega)) ?_
       refine nG<|aN Z<|aK<|gT<|aS<|aF [9]<|sq 0 (roX (.agg [vL _ _ _,vL _ _ _,vI _ _,vI _ _]) ty.kd27 Z)<|sq 2 (roX (.agg [vI _ _,vI _ _,vI _ _,vI _ _,vI _ _,vI _ _,vB _]) ty.kd29 Z) ?_
       refine AF.two (i:=1) (j:=8) (by kernel_rfl) ?_ ?_
       ·refine v1 1 rfl (zC [] [] [] Try.func11 (toLog_f x hz) (trivial) rfl rfl) (.inr rfl) ?_
        refine fTt ((famD vs1 us1 (mkDk x.disk 1)++famD vs2 us2 (mkDk (lgAddL x e).disk 1))) [4,6,7,9,12,13,81,82] [21,22,2006,2009] ?_
        refine AF.two (i:=3) (j:=8) (by kernel_rfl) ?_ ?_
        ·refine v1 3 rfl (zL Try.func12 (toEvent_e e) rfl) (.inr rfl) ?_
         refine AF.two (i:=4) (j:=8) (by kernel_rfl) ?_ ?_
         ·refine v1 4 rfl (zC [] [] [] Try.func13 (logAdd_f x e) (trivial) rfl rfl) (.inr rfl)<|pq 5 (qmX (.tup [.agg [vL _ _ _,vL _ _ _,vI _ _,vI _ _],vI _ _]) rfl)<|pq 6 (qxX (.agg [vL _ _ _,vL _ _ _,vI _ _,vI _ _]) rfl)<|pq 7 (qxI rfl)<|vst 8 rfl (zA 2014 ty.ze36 rfl) (.inr rfl)<|vst 9 rfl (zB 2014 ty.co36 ty.inf36 rfl) (.inl rfl)<|vq 10 (raI rfl)<|fD<|gT<|aS<|sL<|loX (.agg [vL _ _ _,vL _ _ _,vI _ _,vI _ _]) ty.kd36 Z<|loX (.agg [vL _ _ _,vL _ _ _,vI _ _,vI _ _]) ty.kd36 Z<|lst (zL Try.func14 (eqLog_e (lgAddL x e) hz2.e) rfl) Z<|luZ Z<|lsB 90 false rfl (by first|(simp;done)|(simp;omega))<|lmZ Z<|lmI Z<|lmI Z<|lbB Z<|lsB 94 false rfl (by first|(simp;done)|(simp;omega))<|lkZ Z<|nG<|aN Z<|aK<|gA ?_
          refine laI Z<|nA<|loX (.agg [.own _,.own _,vI _ _,vI _ _]) ty.kd36 Z<|lmI Z<|lst (zLN Try.func16 (heldLog_e (lgAddL x e) 1 hz2.m (by omega)) rfl (.cons (rdLog (vs:=vs2) (us:=us2) (d:=mkDk (lgAddL x e).disk 1) (s:=(famD vs1 us1 (mkDk x.disk 1)).length) tlp rfl rfl (by show _=(mkG mCe gCe _ _).length;rw[mkG_len];exact hv2) (by show _=(mkG mWr gWr _ _).length;rw[mkG_len];exact hu2) at_last) (.cons (Reads.lend rfl) .nil))) rfl ?_
          refine lTt ((famD vs1 us1 (mkDk x.disk 1)++famD vs2 us2 (mkDk (lgAddL x e).disk 1))) [4,12,13,98] [] ?_
          refine laI Z<|nG<|aS<|sL<|lmI Z<|lbB Z<|lsB 100 false rfl (by first|(simp;done)|(simp;omega))<|nG<|aN Z<|aK<|gT<|aS<|sL<|lmI Z<|lmI Z<|lbB Z<|lsB 103 false rfl (by first|(simp;done)|(simp;omega))<|nG<|aN Z<|aK<|gA<|laT Z<|lN ?_
          refine gT<|aR ?_
          refine end_ret ?_ trivial
          rfl
         ·refine v1 8 Z (zA 2014 ty.ze36 Z) (.inr Z)<|vst 4 Z (zC [] [] [] Try.func13 (logAdd_f x e) (trivial) Z Z) (.inr Z)<|vq 5 (rmX (.tup [.agg [vL _ _ _,vL _ _ _,vI _ _,vI _ _],vI _ _]) Z)<|pq 6 (qxX (.agg [vL _ _ _,vL _ _ _,vI _ _,vI _ _]) Z)<|pq 7 (qxI Z)<|vst 9 Z (zB 2014 ty.co36 ty.inf36 Z) (.inl Z)<|vq 10 (raI Z)<|fD<|gT<|aS<|sL<|loX (.agg [vL _ _ _,vL _ _ _,vI _ _,vI _ _]) ty.kd36 Z<|loX (.agg [vL _ _ _,vL _ _ _,vI _ _,vI _ _]) ty.kd36 Z<|lst (zL Try.func14 (eqLog_e (lgAddL x e) hz2.e) Z) Z ?_
          refine lTt ((famD vs1 us1 (mkDk x.disk 1)++famD vs2 us2 (mkDk (lgAddL x e).disk 1))) [4,7,9,12,13,15,89] [21,22,2009] ?_
          refine luZ Z<|lsB 90 false rfl (by first|(simp;done)|(simp;omega))<|lmZ Z<|lmI Z<|lmI Z<|lbB Z<|lsB 94 false rfl (by first|(simp;done)|(simp;omega))<|lkZ Z<|nG<|aN Z<|aK<|gA<|laI Z<|nA<|loX (.agg [.own _,.own _,vI _ _,vI _ _]) ty.kd36 Z<|lmI Z<|lst (zLN Try.func16 (heldLog_e (lgAddL x e) 1 hz2.m (by omega)) rfl (.cons (rdLog (vs:=vs2) (us:=us2) (d:=mkDk (lgAddL x e).disk 1) (s:=(famD vs1 us1 (mkDk x.disk 1)).length) tlp rfl rfl (by show _=(mkG mCe gCe _ _).length;rw[mkG_len];exact hv2) (by show _=(mkG mWr gWr _ _).length;rw[mkG_len];exact hu2) at_last) (.cons (Reads.lend rfl) .nil))) Z<|laI Z<|nG<|aS<|sL<|lmI rfl ?_
          refine lbB Z<|lsB 100 false rfl (by first|(simp;done)|(simp;omega))<|nG<|aN Z<|aK<|gT<|aS<|sL<|lmI Z<|lmI Z<|lbB Z<|lsB 103 false rfl (by first|(simp;done)|(simp;omega))<|nG<|aN Z<|aK<|gA<|laT Z<|nG<|aR ?_
          refine end_ret ?_ trivial
          rfl
        ·refine v1 8 rfl (zA 2014 ty.ze36 rfl) (.inr rfl) ?_
         refine fTt ((famD vs1 us1 (mkDk x.disk 1)++famD vs2 us2 (mkDk (lgAddL x e).disk 1))) [4,6,7,9,12,13,14,81,82] [21,22,2006,2009,2014] ?_
         refine vst 3 rfl (zL Try.func12 (toEvent_e e) rfl) (.inr rfl)<|vst 4 rfl (zC [] [] [] Try.func13 (logAdd_f x e) (trivial) rfl rfl) (.inr rfl)<|vq 5 (rmX (.tup [.agg [vL _ _ _,vL _ _ _,vI _ _,vI _ _],vI _ _]) rfl)<|pq 6 (qxX (.agg [vL _ _ _,vL _ _ _,vI _ _,vI _ _]) rfl)<|pq 7 (qxI rfl)<|vst 9 rfl (zB 2014 ty.co36 ty.inf36 rfl) (.inl rfl)<|vq 10 (raI rfl)<|fD<|gT<|aS<|sL<|loX (.agg [vL _ _ _,vL _ _ _,vI _ _,vI _ _]) ty.kd36 Z<|loX (.agg [vL _ _ _,vL _ _ _,vI _ _,vI _ _]) ty.kd36 Z<|lst (zL Try.func14 (eqLog_e (lgAddL x e) hz2.e) rfl) Z<|luZ Z<|lsB 90 false rfl (by first|(simp;done)|(simp;omega))<|lmZ Z<|lmI Z<|lmI Z<|lbB Z<|lsB 94 false rfl (by first|(simp;done)|(simp;omega))<|lkZ Z<|nG<|aN Z<|aK<|gA ?_
         refine laI Z<|nA<|loX (.agg [.own _,.own _,vI _ _,vI _ _]) ty.kd36 Z<|lmI Z<|lst (zLN Try.func16 (heldLog_e (lgAddL x e) 1 hz2.m (by omega)) rfl (.cons (rdLog (vs:=vs2) (us:=us2) (d:=mkDk (lgAddL x e).disk 1) (s:=(famD vs1 us1 (mkDk x.disk 1)).length) tlp rfl rfl (by show _=(mkG mCe gCe _ _).length;rw[mkG_len];exact hv2) (by show _=(mkG mWr gWr _ _).length;rw[mkG_len];exact hu2) at_last) (.cons (Reads.lend rfl) .nil))) rfl ?_
         refine lTt ((famD vs1 us1 (mkDk x.disk 1)++famD vs2 us2 (mkDk (lgAddL x e).disk 1))) [4,12,13,98] [] ?_
         refine laI Z<|nG<|aS<|sL<|lmI Z<|lbB Z<|lsB 100 false rfl (by first|(simp;done)|(simp;omega))<|nG<|aN Z<|aK<|gT<|aS<|sL<|lmI Z<|lmI Z<|lbB Z<|lsB 103 false rfl (by first|(simp;done)|(simp;omega))<|nG<|aN Z<|aK<|gA<|laT Z<|lN ?_
         refine gT<|aR ?_
         refine end_ret ?_ trivial
         rfl
       ·refine v1 8 Z (zA 2014 ty.ze36 Z) (.inr Z)<|vst 1 Z (zC [] [] [] Try.func11 (toLog_f x hz) (trivial) Z Z) (.inr Z)<|vst 3 Z (zL Try.func12 (toEvent_e e) Z) (.inr Z)<|vst 4 Z (zC [] [] [] Try.func13 (logAdd_f x e) (trivial) Z Z) (.inr Z)<|vq 5 (rmX (.tup [.agg [vL _ _ _,vL _ _ _,vI _ _,vI _ _],vI _ _]) Z)<|pq 6 (qxX (.agg [vL _ _ _,vL _ _ _,vI _ _,vI _ _]) Z)<|pq 7 (qxI Z)<|vst 9 Z (zB 2014 ty.co36 ty.inf36 Z) (.inl Z) ?_
        refine fTt ((famD vs1 us1 (mkDk x.disk 1)++famD vs2 us2 (mkDk (lgAddL x e).disk 1))) [4,6,7,9,12,13,14,86] [21,22,2006,2009,2014] ?_
        refine vq 10 (raI rfl)<|fD<|gT<|aS<|sL<|loX (.agg [vL _ _ _,vL _ _ _,vI _ _,vI _ _]) ty.kd36 Z<|loX (.agg [vL _ _ _,vL _ _ _,vI _ _,vI _ _]) ty.kd36 Z<|lst (zL Try.func14 (eqLog_e (lgAddL x e) hz2.e) rfl) Z<|luZ Z<|lsB 90 false rfl (by first|(simp;done)|(simp;omega))<|lmZ Z<|lmI Z<|lmI Z<|lbB Z<|lsB 94 false rfl (by first|(simp;done)|(simp;omega))<|lkZ Z<|nG<|aN Z<|aK<|gA<|laI Z<|nA<|loX (.agg [.own _,.own _,vI _ _,vI _ _]) ty.kd36 rfl ?_
        refine lmI Z<|lst (zLN Try.func16 (heldLog_e (lgAddL x e) 1 hz2.m (by omega)) rfl (.cons (rdLog (vs:=vs2) (us:=us2) (d:=mkDk (lgAddL x e).disk 1) (s:=(famD vs1 us1 (mkDk x.disk 1)).length) tlp rfl rfl (by show _=(mkG mCe gCe _ _).length;rw[mkG_len];exact hv2) (by show _=(mkG mWr gWr _ _).length;rw[mkG_len];exact hu2) at_last) (.cons (Reads.lend rfl) .nil))) rfl ?_
        refine lTt ((famD vs1 us1 (mkDk x.disk 1)++famD vs2 us2 (mkDk (lgAddL x e).disk 1))) [4,12,13,98] [] ?_
        refine laI Z<|nG<|aS<|sL<|lmI Z<|lbB Z<|lsB 100 false rfl (by first|(simp;done)|(simp;omega))<|nG<|aN Z<|aK<|gT<|aS<|sL<|lmI Z<|lmI Z<|lbB Z<|lsB 103 false rfl (by first|(simp;done)|(simp;omega))<|nG<|aN Z<|aK<|gA<|laT Z<|lN ?_
        refine gT<|aR ?_
        refine end_ret ?_ trivial
        rfl
      ·refine v1 7 rfl (zA 2009 ty.ze36 rfl) (.inr rfl) ?_
       refine AF.stx (i:=3) rfl (by kernel_rfl) (StX.callN (F:=(famD vs1 us1 x.disk)) [(1,21),(2,22),(4,11),(5,12)] [21,22] [4,5] 0 Try.func13 (lentAd u11 u12 vs1 us1 x e hz hv1 hu1) tlp List.drop_zero List.take_zero (Nat.zero_le _) ((by rw[hFl];omega)) ((fun y l F ⟨_,_,_,_,_,e2,_⟩=>by subst e2;exact⟨stays.arr rfl,stays.arr rfl,trivial⟩)) rfl rfl) (.inl rfl) rfl ?_
       rintro _ _ ⟨xz17,oz17,Fz17,hz17,hF17,hM17,rfl,rfl⟩
       obtain⟨vs2,us2,hv2,hu2,rfl,rfl,rfl⟩:=hz17
       have hrf17:rowF ([]++(famD vs1 us1 x.disk++famD vs2 us2 (lgAddL x e).disk)):=rowF.app (by first|assumption|exact rowF.nil) hF17
       refine vq 4 (rmX (.tup [.agg [.own _,.own _,vI _ _,vI _ _],vI _ _]) Z)<|pq 5 (qxX (.agg [.own _,.own _,vI _ _,vI _ _]) Z)<|pq 6 (qxI Z)<|vst 8 Z (zB 2009 ty.co36 ty.inf36 Z) (.inl Z)<|vq 9 (raI Z)<|fD<|gT<|aS<|aS ?_
       rw[List.nil_append]
       have hrf2:rowF (famD vs1 us1 x.disk++famD vs2 us2 (lgAddL x e).disk):=rowF.app famD_row famD_row
       have hFl2:=famD_len hv2 hu2
       refine aL<|loX (.agg [.own _,.own _,vI _ _,vI _ _]) ty.kd36 Z<|loX (.agg [vL _ _ _,vL _ _ _,vI _ _,vI _ _]) ty.kd36 Z<|lst (zLN Try.func14 (eqLog_e (lgAddL x e) hz2.e) Z (.cons (rdLog (vs:=vs2) (us:=us2) (d:=(lgAddL x e).disk) (s:=(famD vs1 us1 x.disk).length) tlp Z Z hv2 hu2 at_last) (.cons (Reads.lend Z) .nil))) Z ?_
       refine lTt ((famD vs1 us1 x.disk++famD vs2 us2 (lgAddL x e).disk)) [2,3,4,6,7,8,9,10,40] [11,12,21,22,2002,2003,2006,2008,2009] ?_
       refine luZ Z<|lsB 41 false rfl (by first|(simp;done)|(simp;omega))<|lmZ Z<|lmI Z<|lmI Z<|lbB Z<|lsB 45 false rfl (by first|(simp;done)|(simp;omega))<|lkZ Z<|nG<|aN Z<|aK<|gT<|aS<|aS<|aF []<|sq 0 (roX (.agg [.own _,.own _,vI _ _,vI _ _]) ty.kd36 rfl)<|vq 1 (roX (.agg [vL _ _ _,vL _ _ _,vI _ _,vI _ _]) ty.kd27 rfl)<|vst 2 rfl (zC [] [] [] Try.func11 (toLog_f x hz) (trivial) rfl rfl) (.inr rfl)<|vst 3 rfl (zLN Try.func14 (eqLog_e x hz.e) rfl (.cons (rdLog (vs:=vs1) (us:=us1) (d:=x.disk) (s:=0) tlp rfl rfl hv1 hu1 (fun j hj=>by rw[Nat.zero_add,List.getElem?_append_left hj])) (.cons (Reads.lend rfl) .nil))) (.inr rfl)<|vq 4 (ruZ rfl)<|fsB 51 false rfl (by first|(simp;done)|(simp;omega))<|fD<|gT<|aN Z<|aK<|gA<|laI rfl ?_
       refine nA<|loX (.agg [.own _,.own _,vI _ _,vI _ _]) ty.kd36 Z<|lmI Z ?_
       refine AL.stx (StX.callN (F:=(famD vs1 us1 x.disk++famD vs2 us2 (lgAddL x e).disk)) [(1,11),(2,12)] [] [1,2] 0 Try.func15 (markLog_e u11 u12 vs1 us1 x.disk (famD vs2 us2 (lgAddL x e).disk) 1 hv1 hu1 famD_row (by rw[hFl2];omega) hz (by omega) x.next x.epoch) tlp List.drop_zero List.take_zero (Nat.zero_le _) ((by rw[List.length_append,hFl,hFl2];omega)) ((fun y l F ⟨_,e2,_⟩=>by subst e2;exact⟨stays.arr rfl,stays.arr (by show (rowsWV us1 (mkG mWr gWr _ _)).length=_;rw[rowsWV_len (by rw[mkG_len];exact hu1),mkG_len,rowsWV_len hu1]),trivial⟩)) rfl rfl) rfl ?_
       rintro _ _ ⟨xz18,oz18,Fz18,hz18,hF18,hM18,rfl,rfl⟩
       obtain⟨rfl,rfl,rfl⟩:=hz18
       have hrf18:rowF ([]++(famD vs1 us1 (mkDk x.disk 1)++famD vs2 us2 (lgAddL x e).disk)):=rowF.app (by first|assumption|exact rowF.nil) hF18
       refine lTt (([]++(famD vs1 us1 (mkDk x.disk 1)++famD vs2 us2 (lgAddL x e).disk))) [2,3,4,6,7,9,10,11,54] [21,22,2002,2003,2006,2009] ?_
       refine laI Z<|nG<|aS<|aS ?_
       rw[List.nil_append]
       have hrA:rowF (famD vs1 us1 (mkDk x.disk 1)):=famD_row
       have hrf3:rowF (famD vs1 us1 (mkDk x.disk 1)++famD vs2 us2 (lgAddL x e).disk):=rowF.app famD_row famD_row
       refine aL<|lmI Z<|lbB Z<|lsB 56 false rfl (by first|(simp;done)|(simp;omega))<|lmZ Z<|loX (.agg [.own _,.own _,vI _ _,vI _ _]) ty.kd36 Z<|loX (.agg [vL _ _ _,vL _ _ _,vI _ _,vI _ _]) ty.kd36 Z<|lst (zLN Try.func14 (eqLog_e (lgAddL x e) hz2.e) rfl (.cons (rdLog (vs:=vs2) (us:=us2) (d:=(lgAddL x e).disk) (s:=(famD vs1 us1 (mkDk x.disk 1)).length) tlp rfl rfl hv2 hu2 at_last) (.cons (Reads.lend rfl) .nil))) Z<|luZ Z<|lsB 61 false rfl (by first|(simp;done)|(simp;omega))<|lkZ Z<|lmZ Z<|lmI Z<|lmI Z<|lbB Z<|lsB 66 false rfl (by first|(simp;done)|(simp;omega))<|lkZ Z<|nG<|aN Z<|aK<|gA<|laI Z<|nG<|aS ?_
       refine AW.pinA 21 rfl ?_
       intro u21
       refine AW.pinA 22 rfl ?_
       intro u22
       rw[←List.append_nil (famD vs2 us2 (lgAddL x e).disk)]
       have hrf4:rowF (famD vs1 us1 (mkDk x.disk 1)++(famD vs2 us2 (lgAddL x e).disk++[])):=rowF.app famD_row (rowF.app famD_row rowF.nil)
       refine aL<|loX (.agg [.own _,.own _,vI _ _,vI _ _]) ty.kd36 Z<|lmI Z ?_
       refine AL.stx (StX.callN (F:=(famD vs1 us1 (mkDk x.disk 1)++(famD vs2 us2 (lgAddL x e).disk++[]))) [(1,21),(2,22)] [] [1,2] (famD vs1 us1 (mkDk x.disk 1)).length Try.func15 (markLog_e u21 u22 vs2 us2 (lgAddL x e).disk [] 1 hv2 hu2 rowF.nil (by simp) hz2 (by omega) (lgAddL x e).next (lgAddL x e).epoch) tlp List.drop_left List.take_left (by simp) ((by rw[List.length_append,List.append_nil,hFl2,famD_len (d:=mkDk x.disk 1) (by show _=(mkG mCe gCe _ _).length;rw[mkG_len];exact hv1) (by show _=(mkG mWr gWr _ _).length;rw[mkG_len];exact hu1)];show (mkG mCe gCe _ _).length+(mkG mWr gWr _ _).length+_≤_;rw[mkG_len,mkG_len];omega)) ((fun y l F ⟨_,e2,_⟩=>by subst e2;exact⟨stays.arr rfl,stays.arr (by show (rowsWV us2 (mkG mWr gWr _ _)).length=_;rw[rowsWV_len (by rw[mkG_len];exact hu2),mkG_len,rowsWV_len hu2]),trivial⟩)) rfl rfl) rfl ?_
       rintro _ _ ⟨xz19,oz19,Fz19,hz19,hF19,hM19,rfl,rfl⟩
       obtain⟨rfl,rfl,rfl⟩:=hz19
       have hrf19:rowF (famD vs1 us1 (mkDk x.disk 1)++(famD vs2 us2 (mkDk (lgAddL x e).disk 1)++[])):=rowF.app (by first|assumption|exact rowF.nil) hF19
       refine lTt ((famD vs1 us1 (mkDk x.disk 1)++(famD vs2 us2 (mkDk (lgAddL x e).disk 1)++[]))) [2,3,4,6,7,9,12,70] [21,22,2002,2003,2006,2009] ?_
       refine laI Z<|nG<|aS ?_
       rw[List.append_nil (famD vs2 us2 (mkDk (lgAddL x e).disk 1))]
       have hrf5:rowF (famD vs1 us1 (mkDk x.disk 1)++famD vs2 us2 (mkDk (lgAddL x e).disk 1)):=rowF.app famD_row famD_row
       refine aL<|laI Z<|nA<|loX (.agg [.own _,.own _,vI _ _,vI _ _]) ty.kd36 Z<|lmI Z<|lst (zLN Try.func16 (heldLog_e (lgAddL x e) 1 hz2.m (by omega)) rfl (.cons (rdLog (vs:=vs2) (us:=us2) (d:=mkDk (lgAddL x e).disk 1) (s:=(famD vs1 us1 (mkDk x.disk 1)).length) tlp rfl rfl (by show _=(mkG mCe gCe _ _).length;rw[mkG_len];exact hv2) (by show _=(mkG mWr gWr _ _).length;rw[mkG_len];exact hu2) at_last) (.cons (Reads.lend rfl) .nil))) Z<|laI Z<|nG<|aS<|sL<|lmI Z<|lbB Z<|lsB 75 false rfl (by first|(simp;done)|(simp;omega))<|nG<|aN Z<|aK<|gT<|aS<|sL<|lmI Z<|lmI Z<|lbB Z<|lsB 78 false rfl (by first|(simp;done)|(simp;omega)) ?_
       refine nG<|aN Z<|aK<|gT<|aS<|aF [9]<|sq 0 (roX (.agg [vL _ _ _,vL _ _ _,vI _ _,vI _ _]) ty.kd27 Z)<|sq 2 (roX (.agg [vI _ _,vI _ _,vI _ _,vI _ _,vI _ _,vI _ _,vB _]) ty.kd29 Z) ?_
       refine AF.two (i:=1) (j:=8) (by kernel_rfl) ?_ ?_
       ·refine v1 1 rfl (zC [] [] [] Try.func11 (toLog_f x hz) (trivial) rfl rfl) (.inr rfl) ?_
        refine fTt ((famD vs1 us1 (mkDk x.disk 1)++famD vs2 us2 (mkDk (lgAddL x e).disk 1))) [4,6,7,9,12,13,81,82] [21,22,2006,2009] ?_
        refine AF.two (i:=3) (j:=8) (by kernel_rfl) ?_ ?_
        ·refine v1 3 rfl (zL Try.func12 (toEvent_e e) rfl) (.inr rfl) ?_
         refine AF.two (i:=4) (j:=8) (by kernel_rfl) ?_ ?_
         ·refine v1 4 rfl (zC [] [] [] Try.func13 (logAdd_f x e) (trivial) rfl rfl) (.inr rfl)<|pq 5 (qmX (.tup [.agg [vL _ _ _,vL _ _ _,vI _ _,vI _ _],vI _ _]) rfl)<|pq 6 (qxX (.agg [vL _ _ _,vL _ _ _,vI _ _,vI _ _]) rfl)<|pq 7 (qxI rfl)<|vst 8 rfl (zA 2014 ty.ze36 rfl) (.inr rfl)<|vst 9 rfl (zB 2014 ty.co36 ty.inf36 rfl) (.inl rfl)<|vq 10 (raI rfl)<|fD<|gT<|aS<|sL<|loX (.agg [vL _ _ _,vL _ _ _,vI _ _,vI _ _]) ty.kd36 Z<|loX (.agg [vL _ _ _,vL _ _ _,vI _ _,vI _ _]) ty.kd36 Z<|lst (zL Try.func14 (eqLog_e (lgAddL x e) hz2.e) rfl) Z<|luZ Z<|lsB 90 false rfl (by first|(simp;done)|(simp;omega))<|lmZ Z<|lmI Z<|lmI Z<|lbB Z<|lsB 94 false rfl (by first|(simp;done)|(simp;omega))<|lkZ Z<|nG<|aN Z<|aK<|gA ?_
          refine laI Z<|nA<|loX (.agg [.own _,.own _,vI _ _,vI _ _]) ty.kd36 Z<|lmI Z<|lst (zLN Try.func16 (heldLog_e (lgAddL x e) 1 hz2.m (by omega)) rfl (.cons (rdLog (vs:=vs2) (us:=us2) (d:=mkDk (lgAddL x e).disk 1) (s:=(famD vs1 us1 (mkDk x.disk 1)).length) tlp rfl rfl (by show _=(mkG mCe gCe _ _).length;rw[mkG_len];exact hv2) (by show _=(mkG mWr gWr _ _).length;rw[mkG_len];exact hu2) at_last) (.cons (Reads.lend rfl) .nil))) rfl ?_
          refine lTt ((famD vs1 us1 (mkDk x.disk 1)++famD vs2 us2 (mkDk (lgAddL x e).disk 1))) [4,12,13,98] [] ?_
          refine laI Z<|nG<|aS<|sL<|lmI Z<|lbB Z<|lsB 100 false rfl (by first|(simp;done)|(simp;omega))<|nG<|aN Z<|aK<|gT<|aS<|sL<|lmI Z<|lmI Z<|lbB Z<|lsB 103 false rfl (by first|(simp;done)|(simp;omega))<|nG<|aN Z<|aK<|gA<|laT Z<|lN ?_
          refine gT<|aR ?_
          refine end_ret ?_ trivial
          rfl
         ·refine v1 8 Z (zA 2014 ty.ze36 Z) (.inr Z)<|vst 4 Z (zC [] [] [] Try.func13 (logAdd_f x e) (trivial) Z Z) (.inr Z)<|vq 5 (rmX (.tup [.agg [vL _ _ _,vL _ _ _,vI _ _,vI _ _],vI _ _]) Z)<|pq 6 (qxX (.agg [vL _ _ _,vL _ _ _,vI _ _,vI _ _]) Z)<|pq 7 (qxI Z)<|vst 9 Z (zB 2014 ty.co36 ty.inf36 Z) (.inl Z)<|vq 10 (raI Z)<|fD<|gT<|aS<|sL<|loX (.agg [vL _ _ _,vL _ _ _,vI _ _,vI _ _]) ty.kd36 Z<|loX (.agg [vL _ _ _,vL _ _ _,vI _ _,vI _ _]) ty.kd36 Z<|lst (zL Try.func14 (eqLog_e (lgAddL x e) hz2.e) Z) Z ?_
          refine lTt ((famD vs1 us1 (mkDk x.disk 1)++famD vs2 us2 (mkDk (lgAddL x e).disk 1))) [4,7,9,12,13,15,89] [21,22,2009] ?_
          refine luZ Z<|lsB 90 false rfl (by first|(simp;done)|(simp;omega))<|lmZ Z<|lmI Z<|lmI Z<|lbB Z<|lsB 94 false rfl (by first|(simp;done)|(simp;omega))<|lkZ Z<|nG<|aN Z<|aK<|gA<|laI Z<|nA<|loX (.agg [.own _,.own _,vI _ _,vI _ _]) ty.kd36 Z<|lmI Z<|lst (zLN Try.func16 (heldLog_e (lgAddL x e) 1 hz2.m (by omega)) rfl (.cons (rdLog (vs:=vs2) (us:=us2) (d:=mkDk (lgAddL x e).disk 1) (s:=(famD vs1 us1 (mkDk x.disk 1)).length) tlp rfl rfl (by show _=(mkG mCe gCe _ _).length;rw[mkG_len];exact hv2) (by show _=(mkG mWr gWr _ _).length;rw[mkG_len];exact hu2) at_last) (.cons (Reads.lend rfl) .nil))) Z<|laI Z<|nG<|aS<|sL<|lmI rfl ?_
          refine lbB Z<|lsB 100 false rfl (by first|(simp;done)|(simp;omega))<|nG<|aN Z<|aK<|gT<|aS<|sL<|lmI Z<|lmI Z<|lbB Z<|lsB 103 false rfl (by first|(simp;done)|(simp;omega))<|nG<|aN Z<|aK<|gA<|laT Z<|nG<|aR ?_
          refine end_ret ?_ trivial
          rfl
        ·refine v1 8 rfl (zA 2014 ty.ze36 rfl) (.inr rfl) ?_
         refine fTt ((famD vs1 us1 (mkDk x.disk 1)++famD vs2 us2 (mkDk (lgAddL x e).disk 1))) [4,6,7,9,12,13,14,81,82] [21,22,2006,2009,2014] ?_
         refine vst 3 rfl (zL Try.func12 (toEvent_e e) rfl) (.inr rfl)<|vst 4 rfl (zC [] [] [] Try.func13 (logAdd_f x e) (trivial) rfl rfl) (.inr rfl)<|vq 5 (rmX (.tup [.agg [vL _ _ _,vL _ _ _,vI _ _,vI _ _],vI _ _]) rfl)<|pq 6 (qxX (.agg [vL _ _ _,vL _ _ _,vI _ _,vI _ _]) rfl)<|pq 7 (qxI rfl)<|vst 9 rfl (zB 2014 ty.co36 ty.inf36 rfl) (.inl rfl)<|vq 10 (raI rfl)<|fD<|gT<|aS<|sL<|loX (.agg [vL _ _ _,vL _ _ _,vI _ _,vI _ _]) ty.kd36 Z<|loX (.agg [vL _ _ _,vL _ _ _,vI _ _,vI _ _]) ty.kd36 Z<|lst (zL Try.func14 (eqLog_e (lgAddL x e) hz2.e) rfl) Z<|luZ Z<|lsB 90 false rfl (by first|(simp;done)|(simp;omega))<|lmZ Z<|lmI Z<|lmI Z<|lbB Z<|lsB 94 false rfl (by first|(simp;done)|(simp;omega))<|lkZ Z<|nG<|aN Z<|aK<|gA ?_
         refine laI Z<|nA<|loX (.agg [.own _,.own _,vI _ _,vI _ _]) ty.kd36 Z<|lmI Z<|lst (zLN Try.func16 (heldLog_e (lgAddL x e) 1 hz2.m (by omega)) rfl (.cons (rdLog (vs:=vs2) (us:=us2) (d:=mkDk (lgAddL x e).disk 1) (s:=(famD vs1 us1 (mkDk x.disk 1)).length) tlp rfl rfl (by show _=(mkG mCe gCe _ _).length;rw[mkG_len];exact hv2) (by show _=(mkG mWr gWr _ _).length;rw[mkG_len];exact hu2) at_last) (.cons (Reads.lend rfl) .nil))) rfl ?_
         refine lTt ((famD vs1 us1 (mkDk x.disk 1)++famD vs2 us2 (mkDk (lgAddL x e).disk 1))) [4,12,13,98] [] ?_
         refine laI Z<|nG<|aS<|sL<|lmI Z<|lbB Z<|lsB 100 false rfl (by first|(simp;done)|(simp;omega))<|nG<|aN Z<|aK<|gT<|aS<|sL<|lmI Z<|lmI Z<|lbB Z<|lsB 103 false rfl (by first|(simp;done)|(simp;omega))<|nG<|aN Z<|aK<|gA<|laT Z<|lN ?_
         refine gT<|aR ?_
         refine end_ret ?_ trivial
         rfl
       ·refine v1 8 Z (zA 2014 ty.ze36 Z) (.inr Z)<|vst 1 Z (zC [] [] [] Try.func11 (toLog_f x hz) (trivial) Z Z) (.inr Z)<|vst 3 Z (zL Try.func12 (toEvent_e e) Z) (.inr Z)<|vst 4 Z (zC [] [] [] Try.func13 (logAdd_f x e) (trivial) Z Z) (.inr Z)<|vq 5 (rmX (.tup [.agg [vL _ _ _,vL _ _ _,vI _ _,vI _ _],vI _ _]) Z)<|pq 6 (qxX (.agg [vL _ _ _,vL _ _ _,vI _ _,vI _ _]) Z)<|pq 7 (qxI Z)<|vst 9 Z (zB 2014 ty.co36 ty.inf36 Z) (.inl Z) ?_
        refine fTt ((famD vs1 us1 (mkDk x.disk 1)++famD vs2 us2 (mkDk (lgAddL x e).disk 1))) [4,6,7,9,12,13,14,86] [21,22,2006,2009,2014] ?_
        refine vq 10 (raI rfl)<|fD<|gT<|aS<|sL<|loX (.agg [vL _ _ _,vL _ _ _,vI _ _,vI _ _]) ty.kd36 Z<|loX (.agg [vL _ _ _,vL _ _ _,vI _ _,vI _ _]) ty.kd36 Z<|lst (zL Try.func14 (eqLog_e (lgAddL x e) hz2.e) rfl) Z<|luZ Z<|lsB 90 false rfl (by first|(simp;done)|(simp;omega))<|lmZ Z<|lmI Z<|lmI Z<|lbB Z<|lsB 94 false rfl (by first|(simp;done)|(simp;omega))<|lkZ Z<|nG<|aN Z<|aK<|gA<|laI Z<|nA<|loX (.agg [.own _,.own _,vI _ _,vI _ _]) ty.kd36 rfl ?_
        refine lmI Z<|lst (zLN Try.func16 (heldLog_e (lgAddL x e) 1 hz2.m (by omega)) rfl (.cons (rdLog (vs:=vs2) (us:=us2) (d:=mkDk (lgAddL x e).disk 1) (s:=(famD vs1 us1 (mkDk x.disk 1)).length) tlp rfl rfl (by show _=(mkG mCe gCe _ _).length;rw[mkG_len];exact hv2) (by show _=(mkG mWr gWr _ _).length;rw[mkG_len];exact hu2) at_last) (.cons (Reads.lend rfl) .nil))) rfl ?_
        refine lTt ((famD vs1 us1 (mkDk x.disk 1)++famD vs2 us2 (mkDk (lgAddL x e).disk 1))) [4,12,13,98] [] ?_
        refine laI Z<|nG<|aS<|sL<|lmI Z<|lbB Z<|lsB 100 false rfl (by first|(simp;done)|(simp;omega))<|nG<|aN Z<|aK<|gT<|aS<|sL<|lmI Z<|lmI Z<|lbB Z<|lsB 103 false rfl (by first|(simp;done)|(simp;omega))<|nG<|aN Z<|aK<|gA<|laT Z<|lN ?_
        refine gT<|aR ?_
        refine end_ret ?_ trivial
        rfl
     ·refine v1 7 Z (zA 2009 ty.ze36 Z) (.inr Z)<|vst 2 Z (zL Try.func12 (toEvent_e e) Z) (.inr Z) ?_
      refine AF.stx (i:=3) rfl (by kernel_rfl) (StX.callN (F:=(famD vs1 us1 x.disk)) [(1,21),(2,22),(4,11),(5,12)] [21,22] [4,5] 0 Try.func13 (lentAd u11 u12 vs1 us1 x e hz hv1 hu1) tlp List.drop_zero List.take_zero (Nat.zero_le _) ((by rw[hFl];omega)) ((fun y l F ⟨_,_,_,_,_,e2,_⟩=>by subst e2;exact⟨stays.arr rfl,stays.arr rfl,trivial⟩)) rfl rfl) (.inl rfl) rfl ?_
      rintro _ _ ⟨xz20,oz20,Fz20,hz20,hF20,hM20,rfl,rfl⟩
      obtain⟨vs2,us2,hv2,hu2,rfl,rfl,rfl⟩:=hz20
      have hrf20:rowF ([]++(famD vs1 us1 x.disk++famD vs2 us2 (lgAddL x e).disk)):=rowF.app (by first|assumption|exact rowF.nil) hF20
      refine vq 4 (rmX (.tup [.agg [.own _,.own _,vI _ _,vI _ _],vI _ _]) Z)<|pq 5 (qxX (.agg [.own _,.own _,vI _ _,vI _ _]) Z)<|pq 6 (qxI Z)<|vst 8 Z (zB 2009 ty.co36 ty.inf36 Z) (.inl Z) ?_
      refine fTt (([]++(famD vs1 us1 x.disk++famD vs2 us2 (lgAddL x e).disk))) [2,3,4,6,7,8,9,37] [11,12,21,22,2002,2003,2006,2008,2009] ?_
      refine vq 9 (raI Z)<|fD<|gT<|aS<|aS ?_
      rw[List.nil_append]
      have hrf2:rowF (famD vs1 us1 x.disk++famD vs2 us2 (lgAddL x e).disk):=rowF.app famD_row famD_row
      have hFl2:=famD_len hv2 hu2
      refine aL<|loX (.agg [.own _,.own _,vI _ _,vI _ _]) ty.kd36 Z<|loX (.agg [vL _ _ _,vL _ _ _,vI _ _,vI _ _]) ty.kd36 Z<|lst (zLN Try.func14 (eqLog_e (lgAddL x e) hz2.e) rfl (.cons (rdLog (vs:=vs2) (us:=us2) (d:=(lgAddL x e).disk) (s:=(famD vs1 us1 x.disk).length) tlp rfl rfl hv2 hu2 at_last) (.cons (Reads.lend rfl) .nil))) Z<|luZ Z<|lsB 41 false rfl (by first|(simp;done)|(simp;omega))<|lmZ Z<|lmI Z<|lmI Z<|lbB Z<|lsB 45 false rfl (by first|(simp;done)|(simp;omega))<|lkZ Z<|nG<|aN Z<|aK<|gT<|aS<|aS<|aF []<|sq 0 (roX (.agg [.own _,.own _,vI _ _,vI _ _]) ty.kd36 rfl)<|vq 1 (roX (.agg [vL _ _ _,vL _ _ _,vI _ _,vI _ _]) ty.kd27 rfl)<|vst 2 rfl (zC [] [] [] Try.func11 (toLog_f x hz) (trivial) rfl rfl) (.inr rfl)<|vst 3 rfl (zLN Try.func14 (eqLog_e x hz.e) rfl (.cons (rdLog (vs:=vs1) (us:=us1) (d:=x.disk) (s:=0) tlp rfl rfl hv1 hu1 (fun j hj=>by rw[Nat.zero_add,List.getElem?_append_left hj])) (.cons (Reads.lend rfl) .nil))) (.inr rfl) ?_
      refine fTt ((famD vs1 us1 x.disk++famD vs2 us2 (lgAddL x e).disk)) [2,3,4,6,7,8,9,10,50] [11,12,21,22,2002,2003,2006,2008,2009] ?_
      refine vq 4 (ruZ rfl)<|fsB 51 false rfl (by first|(simp;done)|(simp;omega))<|fD<|gT<|aN Z<|aK<|gA<|laI Z<|nA<|loX (.agg [.own _,.own _,vI _ _,vI _ _]) ty.kd36 Z<|lmI rfl ?_
      refine AL.stx (StX.callN (F:=(famD vs1 us1 x.disk++famD vs2 us2 (lgAddL x e).disk)) [(1,11),(2,12)] [] [1,2] 0 Try.func15 (markLog_e u11 u12 vs1 us1 x.disk (famD vs2 us2 (lgAddL x e).disk) 1 hv1 hu1 famD_row (by rw[hFl2];omega) hz (by omega) x.next x.epoch) tlp List.drop_zero List.take_zero (Nat.zero_le _) ((by rw[List.length_append,hFl,hFl2];omega)) ((fun y l F ⟨_,e2,_⟩=>by subst e2;exact⟨stays.arr rfl,stays.arr (by show (rowsWV us1 (mkG mWr gWr _ _)).length=_;rw[rowsWV_len (by rw[mkG_len];exact hu1),mkG_len,rowsWV_len hu1]),trivial⟩)) rfl rfl) rfl ?_
      rintro _ _ ⟨xz21,oz21,Fz21,hz21,hF21,hM21,rfl,rfl⟩
      obtain⟨rfl,rfl,rfl⟩:=hz21
      have hrf21:rowF ([]++(famD vs1 us1 (mkDk x.disk 1)++famD vs2 us2 (lgAddL x e).disk)):=rowF.app (by first|assumption|exact rowF.nil) hF21
      refine laI Z<|nG<|aS<|aS ?_
      rw[List.nil_append]
      have hrA:rowF (famD vs1 us1 (mkDk x.disk 1)):=famD_row
      have hrf3:rowF (famD vs1 us1 (mkDk x.disk 1)++famD vs2 us2 (lgAddL x e).disk):=rowF.app famD_row famD_row
      refine aL<|lmI Z<|lbB Z<|lsB 56 false rfl (by first|(simp;done)|(simp;omega))<|lmZ Z<|loX (.agg [.own _,.own _,vI _ _,vI _ _]) ty.kd36 Z<|loX (.agg [vL _ _ _,vL _ _ _,vI _ _,vI _ _]) ty.kd36 Z<|lst (zLN Try.func14 (eqLog_e (lgAddL x e) hz2.e) rfl (.cons (rdLog (vs:=vs2) (us:=us2) (d:=(lgAddL x e).disk) (s:=(famD vs1 us1 (mkDk x.disk 1)).length) tlp rfl rfl hv2 hu2 at_last) (.cons (Reads.lend rfl) .nil))) Z<|luZ Z<|lsB 61 false rfl (by first|(simp;done)|(simp;omega))<|lkZ Z<|lmZ Z<|lmI Z<|lmI Z<|lbB Z<|lsB 66 false rfl (by first|(simp;done)|(simp;omega))<|lkZ Z<|nG<|aN Z<|aK<|gA<|laI Z<|nG<|aS ?_
      refine AW.pinA 21 rfl ?_
      intro u21
      refine AW.pinA 22 rfl ?_
      intro u22
      rw[←List.append_nil (famD vs2 us2 (lgAddL x e).disk)]
      have hrf4:rowF (famD vs1 us1 (mkDk x.disk 1)++(famD vs2 us2 (lgAddL x e).disk++[])):=rowF.app famD_row (rowF.app famD_row rowF.nil)
      refine aL<|loX (.agg [.own _,.own _,vI _ _,vI _ _]) ty.kd36 Z<|lmI Z ?_
      refine AL.stx (StX.callN (F:=(famD vs1 us1 (mkDk x.disk 1)++(famD vs2 us2 (lgAddL x e).disk++[]))) [(1,21),(2,22)] [] [1,2] (famD vs1 us1 (mkDk x.disk 1)).length Try.func15 (markLog_e u21 u22 vs2 us2 (lgAddL x e).disk [] 1 hv2 hu2 rowF.nil (by simp) hz2 (by omega) (lgAddL x e).next (lgAddL x e).epoch) tlp List.drop_left List.take_left (by simp) ((by rw[List.length_append,List.append_nil,hFl2,famD_len (d:=mkDk x.disk 1) (by show _=(mkG mCe gCe _ _).length;rw[mkG_len];exact hv1) (by show _=(mkG mWr gWr _ _).length;rw[mkG_len];exact hu1)];show (mkG mCe gCe _ _).length+(mkG mWr gWr _ _).length+_≤_;rw[mkG_len,mkG_len];omega)) ((fun y l F ⟨_,e2,_⟩=>by subst e2;exact⟨stays.arr rfl,stays.arr (by show (rowsWV us2 (mkG mWr gWr _ _)).length=_;rw[rowsWV_len (by rw[mkG_len];exact hu2),mkG_len,rowsWV_len hu2]),trivial⟩)) rfl rfl) rfl ?_
      rintro _ _ ⟨xz22,oz22,Fz22,hz22,hF22,hM22,rfl,rfl⟩
      obtain⟨rfl,rfl,rfl⟩:=hz22
      have hrf22:rowF (famD vs1 us1 (mkDk x.disk 1)++(famD vs2 us2 (mkDk (lgAddL x e).disk 1)++[])):=rowF.app (by first|assumption|exact rowF.nil) hF22
      refine lTt ((famD vs1 us1 (mkDk x.disk 1)++(famD vs2 us2 (mkDk (lgAddL x e).disk 1)++[]))) [2,3,4,6,7,9,12,70] [21,22,2002,2003,2006,2009] ?_
      refine laI Z<|nG<|aS ?_
      rw[List.append_nil (famD vs2 us2 (mkDk (lgAddL x e).disk 1))]
      have hrf5:rowF (famD vs1 us1 (mkDk x.disk 1)++famD vs2 us2 (mkDk (lgAddL x e).disk 1)):=rowF.app famD_row famD_row
      refine aL<|laI Z<|nA<|loX (.agg [.own _,.own _,vI _ _,vI _ _]) ty.kd36 Z<|lmI Z<|lst (zLN Try.func16 (heldLog_e (lgAddL x e) 1 hz2.m (by omega)) rfl (.cons (rdLog (vs:=vs2) (us:=us2) (d:=mkDk (lgAddL x e).disk 1) (s:=(famD vs1 us1 (mkDk x.disk 1)).length) tlp rfl rfl (by show _=(mkG mCe gCe _ _).length;rw[mkG_len];exact hv2) (by show _=(mkG mWr gWr _ _).length;rw[mkG_len];exact hu2) at_last) (.cons (Reads.lend rfl) .nil))) Z<|laI Z<|nG<|aS<|sL<|lmI Z<|lbB Z<|lsB 75 false rfl (by first|(simp;done)|(simp;omega))<|nG<|aN Z<|aK<|gT<|aS<|sL<|lmI Z<|lmI Z<|lbB Z<|lsB 78 false rfl (by first|(simp;done)|(simp;omega)) ?_
      refine nG<|aN Z<|aK<|gT<|aS<|aF [9]<|sq 0 (roX (.agg [vL _ _ _,vL _ _ _,vI _ _,vI _ _]) ty.kd27 Z)<|sq 2 (roX (.agg [vI _ _,vI _ _,vI _ _,vI _ _,vI _ _,vI _ _,vB _]) ty.kd29 Z) ?_
      refine AF.two (i:=1) (j:=8) (by kernel_rfl) ?_ ?_
      ·refine v1 1 rfl (zC [] [] [] Try.func11 (toLog_f x hz) (trivial) rfl rfl) (.inr rfl) ?_
       refine fTt ((famD vs1 us1 (mkDk x.disk 1)++famD vs2 us2 (mkDk (lgAddL x e).disk 1))) [4,6,7,9,12,13,81,82] [21,22,2006,2009] ?_
       refine AF.two (i:=3) (j:=8) (by kernel_rfl) ?_ ?_
       ·refine v1 3 rfl (zL Try.func12 (toEvent_e e) rfl) (.inr rfl) ?_
        refine AF.two (i:=4) (j:=8) (by kernel_rfl) ?_ ?_
        ·refine v1 4 rfl (zC [] [] [] Try.func13 (logAdd_f x e) (trivial) rfl rfl) (.inr rfl)<|pq 5 (qmX (.tup [.agg [vL _ _ _,vL _ _ _,vI _ _,vI _ _],vI _ _]) rfl)<|pq 6 (qxX (.agg [vL _ _ _,vL _ _ _,vI _ _,vI _ _]) rfl)<|pq 7 (qxI rfl)<|vst 8 rfl (zA 2014 ty.ze36 rfl) (.inr rfl)<|vst 9 rfl (zB 2014 ty.co36 ty.inf36 rfl) (.inl rfl)<|vq 10 (raI rfl)<|fD<|gT<|aS<|sL<|loX (.agg [vL _ _ _,vL _ _ _,vI _ _,vI _ _]) ty.kd36 Z<|loX (.agg [vL _ _ _,vL _ _ _,vI _ _,vI _ _]) ty.kd36 Z<|lst (zL Try.func14 (eqLog_e (lgAddL x e) hz2.e) rfl) Z<|luZ Z<|lsB 90 false rfl (by first|(simp;done)|(simp;omega))<|lmZ Z<|lmI Z<|lmI Z<|lbB Z<|lsB 94 false rfl (by first|(simp;done)|(simp;omega))<|lkZ Z<|nG<|aN Z<|aK<|gA ?_
         refine laI Z<|nA<|loX (.agg [.own _,.own _,vI _ _,vI _ _]) ty.kd36 Z<|lmI Z<|lst (zLN Try.func16 (heldLog_e (lgAddL x e) 1 hz2.m (by omega)) rfl (.cons (rdLog (vs:=vs2) (us:=us2) (d:=mkDk (lgAddL x e).disk 1) (s:=(famD vs1 us1 (mkDk x.disk 1)).length) tlp rfl rfl (by show _=(mkG mCe gCe _ _).length;rw[mkG_len];exact hv2) (by show _=(mkG mWr gWr _ _).length;rw[mkG_len];exact hu2) at_last) (.cons (Reads.lend rfl) .nil))) rfl ?_
         refine lTt ((famD vs1 us1 (mkDk x.disk 1)++famD vs2 us2 (mkDk (lgAddL x e).disk 1))) [4,12,13,98] [] ?_
         refine laI Z<|nG<|aS<|sL<|lmI Z<|lbB Z<|lsB 100 false rfl (by first|(simp;done)|(simp;omega))<|nG<|aN Z<|aK<|gT<|aS<|sL<|lmI Z<|lmI Z<|lbB Z<|lsB 103 false rfl (by first|(simp;done)|(simp;omega))<|nG<|aN Z<|aK<|gA<|laT Z<|lN ?_
         refine gT<|aR ?_
         refine end_ret ?_ trivial
         rfl
        ·refine v1 8 Z (zA 2014 ty.ze36 Z) (.inr Z)<|vst 4 Z (zC [] [] [] Try.func13 (logAdd_f x e) (trivial) Z Z) (.inr Z)<|vq 5 (rmX (.tup [.agg [vL _ _ _,vL _ _ _,vI _ _,vI _ _],vI _ _]) Z)<|pq 6 (qxX (.agg [vL _ _ _,vL _ _ _,vI _ _,vI _ _]) Z)<|pq 7 (qxI Z)<|vst 9 Z (zB 2014 ty.co36 ty.inf36 Z) (.inl Z)<|vq 10 (raI Z)<|fD<|gT<|aS<|sL<|loX (.agg [vL _ _ _,vL _ _ _,vI _ _,vI _ _]) ty.kd36 Z<|loX (.agg [vL _ _ _,vL _ _ _,vI _ _,vI _ _]) ty.kd36 Z<|lst (zL Try.func14 (eqLog_e (lgAddL x e) hz2.e) Z) Z ?_
         refine lTt ((famD vs1 us1 (mkDk x.disk 1)++famD vs2 us2 (mkDk (lgAddL x e).disk 1))) [4,7,9,12,13,15,89] [21,22,2009] ?_
         refine luZ Z<|lsB 90 false rfl (by first|(simp;done)|(simp;omega))<|lmZ Z<|lmI Z<|lmI Z<|lbB Z<|lsB 94 false rfl (by first|(simp;done)|(simp;omega))<|lkZ Z<|nG<|aN Z<|aK<|gA<|laI Z<|nA<|loX (.agg [.own _,.own _,vI _ _,vI _ _]) ty.kd36 Z<|lmI Z<|lst (zLN Try.func16 (heldLog_e (lgAddL x e) 1 hz2.m (by omega)) rfl (.cons (rdLog (vs:=vs2) (us:=us2) (d:=mkDk (lgAddL x e).disk 1) (s:=(famD vs1 us1 (mkDk x.disk 1)).length) tlp rfl rfl (by show _=(mkG mCe gCe _ _).length;rw[mkG_len];exact hv2) (by show _=(mkG mWr gWr _ _).length;rw[mkG_len];exact hu2) at_last) (.cons (Reads.lend rfl) .nil))) Z<|laI Z<|nG<|aS<|sL<|lmI rfl ?_
         refine lbB Z<|lsB 100 false rfl (by first|(simp;done)|(simp;omega))<|nG<|aN Z<|aK<|gT<|aS<|sL<|lmI Z<|lmI Z<|lbB Z<|lsB 103 false rfl (by first|(simp;done)|(simp;omega))<|nG<|aN Z<|aK<|gA<|laT Z<|nG<|aR ?_
         refine end_ret ?_ trivial
         rfl
       ·refine v1 8 rfl (zA 2014 ty.ze36 rfl) (.inr rfl) ?_
        refine fTt ((famD vs1 us1 (mkDk x.disk 1)++famD vs2 us2 (mkDk (lgAddL x e).disk 1))) [4,6,7,9,12,13,14,81,82] [21,22,2006,2009,2014] ?_
        refine vst 3 rfl (zL Try.func12 (toEvent_e e) rfl) (.inr rfl)<|vst 4 rfl (zC [] [] [] Try.func13 (logAdd_f x e) (trivial) rfl rfl) (.inr rfl)<|vq 5 (rmX (.tup [.agg [vL _ _ _,vL _ _ _,vI _ _,vI _ _],vI _ _]) rfl)<|pq 6 (qxX (.agg [vL _ _ _,vL _ _ _,vI _ _,vI _ _]) rfl)<|pq 7 (qxI rfl)<|vst 9 rfl (zB 2014 ty.co36 ty.inf36 rfl) (.inl rfl)<|vq 10 (raI rfl)<|fD<|gT<|aS<|sL<|loX (.agg [vL _ _ _,vL _ _ _,vI _ _,vI _ _]) ty.kd36 Z<|loX (.agg [vL _ _ _,vL _ _ _,vI _ _,vI _ _]) ty.kd36 Z<|lst (zL Try.func14 (eqLog_e (lgAddL x e) hz2.e) rfl) Z<|luZ Z<|lsB 90 false rfl (by first|(simp;done)|(simp;omega))<|lmZ Z<|lmI Z<|lmI Z<|lbB Z<|lsB 94 false rfl (by first|(simp;done)|(simp;omega))<|lkZ Z<|nG<|aN Z<|aK<|gA ?_
        refine laI Z<|nA<|loX (.agg [.own _,.own _,vI _ _,vI _ _]) ty.kd36 Z<|lmI Z<|lst (zLN Try.func16 (heldLog_e (lgAddL x e) 1 hz2.m (by omega)) rfl (.cons (rdLog (vs:=vs2) (us:=us2) (d:=mkDk (lgAddL x e).disk 1) (s:=(famD vs1 us1 (mkDk x.disk 1)).length) tlp rfl rfl (by show _=(mkG mCe gCe _ _).length;rw[mkG_len];exact hv2) (by show _=(mkG mWr gWr _ _).length;rw[mkG_len];exact hu2) at_last) (.cons (Reads.lend rfl) .nil))) rfl ?_
        refine lTt ((famD vs1 us1 (mkDk x.disk 1)++famD vs2 us2 (mkDk (lgAddL x e).disk 1))) [4,12,13,98] [] ?_
        refine laI Z<|nG<|aS<|sL<|lmI Z<|lbB Z<|lsB 100 false rfl (by first|(simp;done)|(simp;omega))<|nG<|aN Z<|aK<|gT<|aS<|sL<|lmI Z<|lmI Z<|lbB Z<|lsB 103 false rfl (by first|(simp;done)|(simp;omega))<|nG<|aN Z<|aK<|gA<|laT Z<|lN ?_
        refine gT<|aR ?_
        refine end_ret ?_ trivial
        rfl
      ·refine v1 8 Z (zA 2014 ty.ze36 Z) (.inr Z)<|vst 1 Z (zC [] [] [] Try.func11 (toLog_f x hz) (trivial) Z Z) (.inr Z)<|vst 3 Z (zL Try.func12 (toEvent_e e) Z) (.inr Z)<|vst 4 Z (zC [] [] [] Try.func13 (logAdd_f x e) (trivial) Z Z) (.inr Z)<|vq 5 (rmX (.tup [.agg [vL _ _ _,vL _ _ _,vI _ _,vI _ _],vI _ _]) Z)<|pq 6 (qxX (.agg [vL _ _ _,vL _ _ _,vI _ _,vI _ _]) Z)<|pq 7 (qxI Z)<|vst 9 Z (zB 2014 ty.co36 ty.inf36 Z) (.inl Z) ?_
       refine fTt ((famD vs1 us1 (mkDk x.disk 1)++famD vs2 us2 (mkDk (lgAddL x e).disk 1))) [4,6,7,9,12,13,14,86] [21,22,2006,2009,2014] ?_
       refine vq 10 (raI rfl)<|fD<|gT<|aS<|sL<|loX (.agg [vL _ _ _,vL _ _ _,vI _ _,vI _ _]) ty.kd36 Z<|loX (.agg [vL _ _ _,vL _ _ _,vI _ _,vI _ _]) ty.kd36 Z<|lst (zL Try.func14 (eqLog_e (lgAddL x e) hz2.e) rfl) Z<|luZ Z<|lsB 90 false rfl (by first|(simp;done)|(simp;omega))<|lmZ Z<|lmI Z<|lmI Z<|lbB Z<|lsB 94 false rfl (by first|(simp;done)|(simp;omega))<|lkZ Z<|nG<|aN Z<|aK<|gA<|laI Z<|nA<|loX (.agg [.own _,.own _,vI _ _,vI _ _]) ty.kd36 rfl ?_
       refine lmI Z<|lst (zLN Try.func16 (heldLog_e (lgAddL x e) 1 hz2.m (by omega)) rfl (.cons (rdLog (vs:=vs2) (us:=us2) (d:=mkDk (lgAddL x e).disk 1) (s:=(famD vs1 us1 (mkDk x.disk 1)).length) tlp rfl rfl (by show _=(mkG mCe gCe _ _).length;rw[mkG_len];exact hv2) (by show _=(mkG mWr gWr _ _).length;rw[mkG_len];exact hu2) at_last) (.cons (Reads.lend rfl) .nil))) rfl ?_
       refine lTt ((famD vs1 us1 (mkDk x.disk 1)++famD vs2 us2 (mkDk (lgAddL x e).disk 1))) [4,12,13,98] [] ?_
       refine laI Z<|nG<|aS<|sL<|lmI Z<|lbB Z<|lsB 100 false rfl (by first|(simp;done)|(simp;omega))<|nG<|aN Z<|aK<|gT<|aS<|sL<|lmI Z<|lmI Z<|lbB Z<|lsB 103 false rfl (by first|(simp;done)|(simp;omega))<|nG<|aN Z<|aK<|gA<|laT Z<|lN ?_
       refine gT<|aR ?_
       refine end_ret ?_ trivial
       rfl
   ·refine v1 8 Z (zA 2006 ty.ze36 Z) (.inr Z)<|vst 3 Z (zL Try.func12 (toEvent_e e) Z) (.inr Z)<|vst 4 Z (zC [] [] [] Try.func10 (slogAdd_f x e) (trivial) Z Z) (.inr Z)<|vq 5 (rmX (.tup [.agg [vL _ _ _,vL _ _ _,vI _ _,vI _ _],vI _ _]) Z)<|pq 6 (qxX (.agg [vL _ _ _,vL _ _ _,vI _ _,vI _ _]) Z)<|pq 7 (qxI Z)<|vst 9 Z (zB 2006 ty.co36 ty.inf36 Z) (.inl Z) ?_
    refine fTt ([]) [2,3,4,6,28] [2002,2003,2006] ?_
    refine vq 10 (raI Z)<|fD<|gA<|loX (.agg [vL _ _ _,vL _ _ _,vI _ _,vI _ _]) ty.kd27 Z ?_
    refine AL.stx (StX.callN (F:=[]) [(1,11),(2,12)] [11,12] [] ([]).length Try.func11 (toLog_n x hz) tlp List.drop_length List.take_length (Nat.le_refl _) ((by simp)) (fun _ _ _ _=>trivial) rfl rfl) rfl ?_
    rintro _ _ ⟨xz23,oz23,Fz23,hz23,hF23,hM23,rfl,rfl⟩
    obtain⟨vs1,us1,hv1,hu1,rfl,rfl,rfl⟩:=hz23
    have hrf23:rowF ([]++famD vs1 us1 x.disk):=rowF.app (by first|assumption|exact rowF.nil) hF23
    refine lst (zA 2008 ty.ze36 Z) Z<|lst (zB 2008 ty.co36 ty.inf36 Z) Z<|nG<|aS ?_
    rw[List.nil_append]
    have hrf1:rowF (famD vs1 us1 x.disk):=famD_row
    have hFl:=famD_len hv1 hu1
    refine AW.pinA 11 rfl ?_
    intro u11
    refine AW.pinA 12 rfl ?_
    intro u12
    refine aF [3,8]<|sq 0 (roX (.agg [.own _,.own _,vI _ _,vI _ _]) ty.kd36 Z)<|sq 1 (roX (.agg [vI _ _,vI _ _,vI _ _,vI _ _,vI _ _,vI _ _,vB _]) ty.kd29 Z) ?_
    refine AF.two (i:=2) (j:=7) (by kernel_rfl) ?_ ?_
    ·refine v1 2 rfl (zL Try.func12 (toEvent_e e) rfl) (.inr rfl) ?_
     refine AF.two (i:=3) (j:=7) (by kernel_rfl) ?_ ?_
     ·refine AF1.stx (i:=3) rfl (StX.callN (F:=(famD vs1 us1 x.disk)) [(1,21),(2,22),(4,11),(5,12)] [21,22] [4,5] 0 Try.func13 (lentAd u11 u12 vs1 us1 x e hz hv1 hu1) tlp List.drop_zero List.take_zero (Nat.zero_le _) ((by rw[hFl];omega)) ((fun y l F ⟨_,_,_,_,_,e2,_⟩=>by subst e2;exact⟨stays.arr rfl,stays.arr rfl,trivial⟩)) rfl rfl) (.inl rfl) rfl ?_
      rintro _ _ ⟨xz25,oz25,Fz25,hz25,hF25,hM25,rfl,rfl⟩
      obtain⟨vs2,us2,hv2,hu2,rfl,rfl,rfl⟩:=hz25
      have hrf25:rowF ([]++(famD vs1 us1 x.disk++famD vs2 us2 (lgAddL x e).disk)):=rowF.app (by first|assumption|exact rowF.nil) hF25
      refine pq 4 (qmX (.tup [.agg [.own _,.own _,vI _ _,vI _ _],vI _ _]) Z)<|pq 5 (qxX (.agg [.own _,.own _,vI _ _,vI _ _]) Z)<|pq 6 (qxI Z)<|vst 7 Z (zA 2009 ty.ze36 Z) (.inr Z)<|vst 8 Z (zB 2009 ty.co36 ty.inf36 Z) (.inl Z) ?_
      refine fTt (([]++(famD vs1 us1 x.disk++famD vs2 us2 (lgAddL x e).disk))) [2,3,4,6,7,8,9,37] [11,12,21,22,2002,2003,2006,2008,2009] ?_
      refine vq 9 (raI Z)<|fD<|gT<|aS<|aS ?_
      rw[List.nil_append]
      have hrf2:rowF (famD vs1 us1 x.disk++famD vs2 us2 (lgAddL x e).disk):=rowF.app famD_row famD_row
      have hFl2:=famD_len hv2 hu2
      refine aL<|loX (.agg [.own _,.own _,vI _ _,vI _ _]) ty.kd36 Z<|loX (.agg [vL _ _ _,vL _ _ _,vI _ _,vI _ _]) ty.kd36 Z<|lst (zLN Try.func14 (eqLog_e (lgAddL x e) hz2.e) rfl (.cons (rdLog (vs:=vs2) (us:=us2) (d:=(lgAddL x e).disk) (s:=(famD vs1 us1 x.disk).length) tlp rfl rfl hv2 hu2 at_last) (.cons (Reads.lend rfl) .nil))) Z<|luZ Z<|lsB 41 false rfl (by first|(simp;done)|(simp;omega))<|lmZ Z<|lmI Z<|lmI Z<|lbB Z<|lsB 45 false rfl (by first|(simp;done)|(simp;omega))<|lkZ Z<|nG<|aN Z<|aK<|gT<|aS<|aS<|aF []<|sq 0 (roX (.agg [.own _,.own _,vI _ _,vI _ _]) ty.kd36 rfl)<|vq 1 (roX (.agg [vL _ _ _,vL _ _ _,vI _ _,vI _ _]) ty.kd27 rfl)<|vst 2 rfl (zC [] [] [] Try.func11 (toLog_f x hz) (trivial) rfl rfl) (.inr rfl)<|vst 3 rfl (zLN Try.func14 (eqLog_e x hz.e) rfl (.cons (rdLog (vs:=vs1) (us:=us1) (d:=x.disk) (s:=0) tlp rfl rfl hv1 hu1 (fun j hj=>by rw[Nat.zero_add,List.getElem?_append_left hj])) (.cons (Reads.lend rfl) .nil))) (.inr rfl) ?_
      refine fTt ((famD vs1 us1 x.disk++famD vs2 us2 (lgAddL x e).disk)) [2,3,4,6,7,8,9,10,50] [11,12,21,22,2002,2003,2006,2008,2009] ?_
      refine vq 4 (ruZ rfl)<|fsB 51 false rfl (by first|(simp;done)|(simp;omega))<|fD<|gT<|aN Z<|aK<|gA<|laI Z<|nA<|loX (.agg [.own _,.own _,vI _ _,vI _ _]) ty.kd36 Z<|lmI rfl ?_
      refine AL.stx (StX.callN (F:=(famD vs1 us1 x.disk++famD vs2 us2 (lgAddL x e).disk)) [(1,11),(2,12)] [] [1,2] 0 Try.func15 (markLog_e u11 u12 vs1 us1 x.disk (famD vs2 us2 (lgAddL x e).disk) 1 hv1 hu1 famD_row (by rw[hFl2];omega) hz (by omega) x.next x.epoch) tlp List.drop_zero List.take_zero (Nat.zero_le _) ((by rw[List.length_append,hFl,hFl2];omega)) ((fun y l F ⟨_,e2,_⟩=>by subst e2;exact⟨stays.arr rfl,stays.arr (by show (rowsWV us1 (mkG mWr gWr _ _)).length=_;rw[rowsWV_len (by rw[mkG_len];exact hu1),mkG_len,rowsWV_len hu1]),trivial⟩)) rfl rfl) rfl ?_
      rintro _ _ ⟨xz26,oz26,Fz26,hz26,hF26,hM26,rfl,rfl⟩
      obtain⟨rfl,rfl,rfl⟩:=hz26
      have hrf26:rowF ([]++(famD vs1 us1 (mkDk x.disk 1)++famD vs2 us2 (lgAddL x e).disk)):=rowF.app (by first|assumption|exact rowF.nil) hF26
      refine laI Z<|nG<|aS<|aS ?_
      rw[List.nil_append]
      have hrA:rowF (famD vs1 us1 (mkDk x.disk 1)):=famD_row
      have hrf3:rowF (famD vs1 us1 (mkDk x.disk 1)++famD vs2 us2 (lgAddL x e).disk):=rowF.app famD_row famD_row
      refine aL<|lmI Z<|lbB Z<|lsB 56 false rfl (by first|(simp;done)|(simp;omega))<|lmZ Z<|loX (.agg [.own _,.own _,vI _ _,vI _ _]) ty.kd36 Z<|loX (.agg [vL _ _ _,vL _ _ _,vI _ _,vI _ _]) ty.kd36 Z<|lst (zLN Try.func14 (eqLog_e (lgAddL x e) hz2.e) rfl (.cons (rdLog (vs:=vs2) (us:=us2) (d:=(lgAddL x e).disk) (s:=(famD vs1 us1 (mkDk x.disk 1)).length) tlp rfl rfl hv2 hu2 at_last) (.cons (Reads.lend rfl) .nil))) Z<|luZ Z<|lsB 61 false rfl (by first|(simp;done)|(simp;omega))<|lkZ Z<|lmZ Z<|lmI Z<|lmI Z<|lbB Z<|lsB 66 false rfl (by first|(simp;done)|(simp;omega))<|lkZ Z<|nG<|aN Z<|aK<|gA<|laI Z<|nG<|aS ?_
      refine AW.pinA 21 rfl ?_
      intro u21
      refine AW.pinA 22 rfl ?_
      intro u22
      rw[←List.append_nil (famD vs2 us2 (lgAddL x e).disk)]
      have hrf4:rowF (famD vs1 us1 (mkDk x.disk 1)++(famD vs2 us2 (lgAddL x e).disk++[])):=rowF.app famD_row (rowF.app famD_row rowF.nil)
      refine aL<|loX (.agg [.own _,.own _,vI _ _,vI _ _]) ty.kd36 Z<|lmI Z ?_
      refine AL.stx (StX.callN (F:=(famD vs1 us1 (mkDk x.disk 1)++(famD vs2 us2 (lgAddL x e).disk++[]))) [(1,21),(2,22)] [] [1,2] (famD vs1 us1 (mkDk x.disk 1)).length Try.func15 (markLog_e u21 u22 vs2 us2 (lgAddL x e).disk [] 1 hv2 hu2 rowF.nil (by simp) hz2 (by omega) (lgAddL x e).next (lgAddL x e).epoch) tlp List.drop_left List.take_left (by simp) ((by rw[List.length_append,List.append_nil,hFl2,famD_len (d:=mkDk x.disk 1) (by show _=(mkG mCe gCe _ _).length;rw[mkG_len];exact hv1) (by show _=(mkG mWr gWr _ _).length;rw[mkG_len];exact hu1)];show (mkG mCe gCe _ _).length+(mkG mWr gWr _ _).length+_≤_;rw[mkG_len,mkG_len];omega)) ((fun y l F ⟨_,e2,_⟩=>by subst e2;exact⟨stays.arr rfl,stays.arr (by show (rowsWV us2 (mkG mWr gWr _ _)).length=_;rw[rowsWV_len (by rw[mkG_len];exact hu2),mkG_len,rowsWV_len hu2]),trivial⟩)) rfl rfl) rfl ?_
      rintro _ _ ⟨xz27,oz27,Fz27,hz27,hF27,hM27,rfl,rfl⟩
      obtain⟨rfl,rfl,rfl⟩:=hz27
      have hrf27:rowF (famD vs1 us1 (mkDk x.disk 1)++(famD vs2 us2 (mkDk (lgAddL x e).disk 1)++[])):=rowF.app (by first|assumption|exact rowF.nil) hF27
      refine lTt ((famD vs1 us1 (mkDk x.disk 1)++(famD vs2 us2 (mkDk (lgAddL x e).disk 1)++[]))) [2,3,4,6,7,9,12,70] [21,22,2002,2003,2006,2009] ?_
      refine laI Z<|nG<|aS ?_
      rw[List.append_nil (famD vs2 us2 (mkDk (lgAddL x e).disk 1))]
      have hrf5:rowF (famD vs1 us1 (mkDk x.disk 1)++famD vs2 us2 (mkDk (lgAddL x e).disk 1)):=rowF.app famD_row famD_row
      refine aL<|laI Z<|nA<|loX (.agg [.own _,.own _,vI _ _,vI _ _]) ty.kd36 Z<|lmI Z<|lst (zLN Try.func16 (heldLog_e (lgAddL x e) 1 hz2.m (by omega)) rfl (.cons (rdLog (vs:=vs2) (us:=us2) (d:=mkDk (lgAddL x e).disk 1) (s:=(famD vs1 us1 (mkDk x.disk 1)).length) tlp rfl rfl (by show _=(mkG mCe gCe _ _).length;rw[mkG_len];exact hv2) (by show _=(mkG mWr gWr _ _).length;rw[mkG_len];exact hu2) at_last) (.cons (Reads.lend rfl) .nil))) Z<|laI Z<|nG<|aS<|sL<|lmI Z<|lbB Z<|lsB 75 false rfl (by first|(simp;done)|(simp;omega))<|nG<|aN Z<|aK<|gT<|aS<|sL<|lmI Z<|lmI Z<|lbB Z<|lsB 78 false rfl (by first|(simp;done)|(simp;omega)) ?_
      refine nG<|aN Z<|aK<|gT<|aS<|aF [9]<|sq 0 (roX (.agg [vL _ _ _,vL _ _ _,vI _ _,vI _ _]) ty.kd27 Z)<|sq 2 (roX (.agg [vI _ _,vI _ _,vI _ _,vI _ _,vI _ _,vI _ _,vB _]) ty.kd29 Z) ?_
      refine AF.two (i:=1) (j:=8) (by kernel_rfl) ?_ ?_
      ·refine v1 1 rfl (zC [] [] [] Try.func11 (toLog_f x hz) (trivial) rfl rfl) (.inr rfl) ?_
       refine fTt ((famD vs1 us1 (mkDk x.disk 1)++famD vs2 us2 (mkDk (lgAddL x e).disk 1))) [4,6,7,9,12,13,81,82] [21,22,2006,2009] ?_
       refine AF.two (i:=3) (j:=8) (by kernel_rfl) ?_ ?_
       ·refine v1 3 rfl (zL Try.func12 (toEvent_e e) rfl) (.inr rfl) ?_
        refine AF.two (i:=4) (j:=8) (by kernel_rfl) ?_ ?_
        ·refine v1 4 rfl (zC [] [] [] Try.func13 (logAdd_f x e) (trivial) rfl rfl) (.inr rfl)<|pq 5 (qmX (.tup [.agg [vL _ _ _,vL _ _ _,vI _ _,vI _ _],vI _ _]) rfl)<|pq 6 (qxX (.agg [vL _ _ _,vL _ _ _,vI _ _,vI _ _]) rfl)<|pq 7 (qxI rfl)<|vst 8 rfl (zA 2014 ty.ze36 rfl) (.inr rfl)<|vst 9 rfl (zB 2014 ty.co36 ty.inf36 rfl) (.inl rfl)<|vq 10 (raI rfl)<|fD<|gT<|aS<|sL<|loX (.agg [vL _ _ _,vL _ _ _,vI _ _,vI _ _]) ty.kd36 Z<|loX (.agg [vL _ _ _,vL _ _ _,vI _ _,vI _ _]) ty.kd36 Z<|lst (zL Try.func14 (eqLog_e (lgAddL x e) hz2.e) rfl) Z<|luZ Z<|lsB 90 false rfl (by first|(simp;done)|(simp;omega))<|lmZ Z<|lmI Z<|lmI Z<|lbB Z<|lsB 94 false rfl (by first|(simp;done)|(simp;omega))<|lkZ Z<|nG<|aN Z<|aK<|gA ?_
         refine laI Z<|nA<|loX (.agg [.own _,.own _,vI _ _,vI _ _]) ty.kd36 Z<|lmI Z<|lst (zLN Try.func16 (heldLog_e (lgAddL x e) 1 hz2.m (by omega)) rfl (.cons (rdLog (vs:=vs2) (us:=us2) (d:=mkDk (lgAddL x e).disk 1) (s:=(famD vs1 us1 (mkDk x.disk 1)).length) tlp rfl rfl (by show _=(mkG mCe gCe _ _).length;rw[mkG_len];exact hv2) (by show _=(mkG mWr gWr _ _).length;rw[mkG_len];exact hu2) at_last) (.cons (Reads.lend rfl) .nil))) rfl ?_
         refine lTt ((famD vs1 us1 (mkDk x.disk 1)++famD vs2 us2 (mkDk (lgAddL x e).disk 1))) [4,12,13,98] [] ?_
         refine laI Z<|nG<|aS<|sL<|lmI Z<|lbB Z<|lsB 100 false rfl (by first|(simp;done)|(simp;omega))<|nG<|aN Z<|aK<|gT<|aS<|sL<|lmI Z<|lmI Z<|lbB Z<|lsB 103 false rfl (by first|(simp;done)|(simp;omega))<|nG<|aN Z<|aK<|gA<|laT Z<|lN ?_
         refine gT<|aR ?_
         refine end_ret ?_ trivial
         rfl
        ·refine v1 8 Z (zA 2014 ty.ze36 Z) (.inr Z)<|vst 4 Z (zC [] [] [] Try.func13 (logAdd_f x e) (trivial) Z Z) (.inr Z)<|vq 5 (rmX (.tup [.agg [vL _ _ _,vL _ _ _,vI _ _,vI _ _],vI _ _]) Z)<|pq 6 (qxX (.agg [vL _ _ _,vL _ _ _,vI _ _,vI _ _]) Z)<|pq 7 (qxI Z)<|vst 9 Z (zB 2014 ty.co36 ty.inf36 Z) (.inl Z)<|vq 10 (raI Z)<|fD<|gT<|aS<|sL<|loX (.agg [vL _ _ _,vL _ _ _,vI _ _,vI _ _]) ty.kd36 Z<|loX (.agg [vL _ _ _,vL _ _ _,vI _ _,vI _ _]) ty.kd36 Z<|lst (zL Try.func14 (eqLog_e (lgAddL x e) hz2.e) Z) Z ?_
         refine lTt ((famD vs1 us1 (mkDk x.disk 1)++famD vs2 us2 (mkDk (lgAddL x e).disk 1))) [4,7,9,12,13,15,89] [21,22,2009] ?_
         refine luZ Z<|lsB 90 false rfl (by first|(simp;done)|(simp;omega))<|lmZ Z<|lmI Z<|lmI Z<|lbB Z<|lsB 94 false rfl (by first|(simp;done)|(simp;omega))<|lkZ Z<|nG<|aN Z<|aK<|gA<|laI Z<|nA<|loX (.agg [.own _,.own _,vI _ _,vI _ _]) ty.kd36 Z<|lmI Z<|lst (zLN Try.func16 (heldLog_e (lgAddL x e) 1 hz2.m (by omega)) rfl (.cons (rdLog (vs:=vs2) (us:=us2) (d:=mkDk (lgAddL x e).disk 1) (s:=(famD vs1 us1 (mkDk x.disk 1)).length) tlp rfl rfl (by show _=(mkG mCe gCe _ _).length;rw[mkG_len];exact hv2) (by show _=(mkG mWr gWr _ _).length;rw[mkG_len];exact hu2) at_last) (.cons (Reads.lend rfl) .nil))) Z<|laI Z<|nG<|aS<|sL<|lmI rfl ?_
         refine lbB Z<|lsB 100 false rfl (by first|(simp;done)|(simp;omega))<|nG<|aN Z<|aK<|gT<|aS<|sL<|lmI Z<|lmI Z<|lbB Z<|lsB 103 false rfl (by first|(simp;done)|(simp;omega))<|nG<|aN Z<|aK<|gA<|laT Z<|nG<|aR ?_
         refine end_ret ?_ trivial
         rfl
       ·refine v1 8 rfl (zA 2014 ty.ze36 rfl) (.inr rfl) ?_
        refine fTt ((famD vs1 us1 (mkDk x.disk 1)++famD vs2 us2 (mkDk (lgAddL x e).disk 1))) [4,6,7,9,12,13,14,81,82] [21,22,2006,2009,2014] ?_
        refine vst 3 rfl (zL Try.func12 (toEvent_e e) rfl) (.inr rfl)<|vst 4 rfl (zC [] [] [] Try.func13 (logAdd_f x e) (trivial) rfl rfl) (.inr rfl)<|vq 5 (rmX (.tup [.agg [vL _ _ _,vL _ _ _,vI _ _,vI _ _],vI _ _]) rfl)<|pq 6 (qxX (.agg [vL _ _ _,vL _ _ _,vI _ _,vI _ _]) rfl)<|pq 7 (qxI rfl)<|vst 9 rfl (zB 2014 ty.co36 ty.inf36 rfl) (.inl rfl)<|vq 10 (raI rfl)<|fD<|gT<|aS<|sL<|loX (.agg [vL _ _ _,vL _ _ _,vI _ _,vI _ _]) ty.kd36 Z<|loX (.agg [vL _ _ _,vL _ _ _,vI _ _,vI _ _]) ty.kd36 Z<|lst (zL Try.func14 (eqLog_e (lgAddL x e) hz2.e) rfl) Z<|luZ Z<|lsB 90 false rfl (by first|(simp;done)|(simp;omega))<|lmZ Z<|lmI Z<|lmI Z<|lbB Z<|lsB 94 false rfl (by first|(simp;done)|(simp;omega))<|lkZ Z<|nG<|aN Z<|aK<|gA ?_
        refine laI Z<|nA<|loX (.agg [.own _,.own _,vI _ _,vI _ _]) ty.kd36 Z<|lmI Z<|lst (zLN Try.func16 (heldLog_e (lgAddL x e) 1 hz2.m (by omega)) rfl (.cons (rdLog (vs:=vs2) (us:=us2) (d:=mkDk (lgAddL x e).disk 1) (s:=(famD vs1 us1 (mkDk x.disk 1)).length) tlp rfl rfl (by show _=(mkG mCe gCe _ _).length;rw[mkG_len];exact hv2) (by show _=(mkG mWr gWr _ _).length;rw[mkG_len];exact hu2) at_last) (.cons (Reads.lend rfl) .nil))) rfl ?_
        refine lTt ((famD vs1 us1 (mkDk x.disk 1)++famD vs2 us2 (mkDk (lgAddL x e).disk 1))) [4,12,13,98] [] ?_
        refine laI Z<|nG<|aS<|sL<|lmI Z<|lbB Z<|lsB 100 false rfl (by first|(simp;done)|(simp;omega))<|nG<|aN Z<|aK<|gT<|aS<|sL<|lmI Z<|lmI Z<|lbB Z<|lsB 103 false rfl (by first|(simp;done)|(simp;omega))<|nG<|aN Z<|aK<|gA<|laT Z<|lN ?_
        refine gT<|aR ?_
        refine end_ret ?_ trivial
        rfl
      ·refine v1 8 Z (zA 2014 ty.ze36 Z) (.inr Z)<|vst 1 Z (zC [] [] [] Try.func11 (toLog_f x hz) (trivial) Z Z) (.inr Z)<|vst 3 Z (zL Try.func12 (toEvent_e e) Z) (.inr Z)<|vst 4 Z (zC [] [] [] Try.func13 (logAdd_f x e) (trivial) Z Z) (.inr Z)<|vq 5 (rmX (.tup [.agg [vL _ _ _,vL _ _ _,vI _ _,vI _ _],vI _ _]) Z)<|pq 6 (qxX (.agg [vL _ _ _,vL _ _ _,vI _ _,vI _ _]) Z)<|pq 7 (qxI Z)<|vst 9 Z (zB 2014 ty.co36 ty.inf36 Z) (.inl Z) ?_
       refine fTt ((famD vs1 us1 (mkDk x.disk 1)++famD vs2 us2 (mkDk (lgAddL x e).disk 1))) [4,6,7,9,12,13,14,86] [21,22,2006,2009,2014] ?_
       refine vq 10 (raI rfl)<|fD<|gT<|aS<|sL<|loX (.agg [vL _ _ _,vL _ _ _,vI _ _,vI _ _]) ty.kd36 Z<|loX (.agg [vL _ _ _,vL _ _ _,vI _ _,vI _ _]) ty.kd36 Z<|lst (zL Try.func14 (eqLog_e (lgAddL x e) hz2.e) rfl) Z<|luZ Z<|lsB 90 false rfl (by first|(simp;done)|(simp;omega))<|lmZ Z<|lmI Z<|lmI Z<|lbB Z<|lsB 94 false rfl (by first|(simp;done)|(simp;omega))<|lkZ Z<|nG<|aN Z<|aK<|gA<|laI Z<|nA<|loX (.agg [.own _,.own _,vI _ _,vI _ _]) ty.kd36 rfl ?_
       refine lmI Z<|lst (zLN Try.func16 (heldLog_e (lgAddL x e) 1 hz2.m (by omega)) rfl (.cons (rdLog (vs:=vs2) (us:=us2) (d:=mkDk (lgAddL x e).disk 1) (s:=(famD vs1 us1 (mkDk x.disk 1)).length) tlp rfl rfl (by show _=(mkG mCe gCe _ _).length;rw[mkG_len];exact hv2) (by show _=(mkG mWr gWr _ _).length;rw[mkG_len];exact hu2) at_last) (.cons (Reads.lend rfl) .nil))) rfl ?_
       refine lTt ((famD vs1 us1 (mkDk x.disk 1)++famD vs2 us2 (mkDk (lgAddL x e).disk 1))) [4,12,13,98] [] ?_
       refine laI Z<|nG<|aS<|sL<|lmI Z<|lbB Z<|lsB 100 false rfl (by first|(simp;done)|(simp;omega))<|nG<|aN Z<|aK<|gT<|aS<|sL<|lmI Z<|lmI Z<|lbB Z<|lsB 103 false rfl (by first|(simp;done)|(simp;omega))<|nG<|aN Z<|aK<|gA<|laT Z<|lN ?_
       refine gT<|aR ?_
       refine end_ret ?_ trivial
       rfl
     ·refine v1 7 rfl (zA 2009 ty.ze36 rfl) (.inr rfl) ?_
      refine AF.stx (i:=3) rfl (by kernel_rfl) (StX.callN (F:=(famD vs1 us1 x.disk)) [(1,21),(2,22),(4,11),(5,12)] [21,22] [4,5] 0 Try.func13 (lentAd u11 u12 vs1 us1 x e hz hv1 hu1) tlp List.drop_zero List.take_zero (Nat.zero_le _) ((by rw[hFl];omega)) ((fun y l F ⟨_,_,_,_,_,e2,_⟩=>by subst e2;exact⟨stays.arr rfl,stays.arr rfl,trivial⟩)) rfl rfl) (.inl rfl) rfl ?_
      rintro _ _ ⟨xz28,oz28,Fz28,hz28,hF28,hM28,rfl,rfl⟩
      obtain⟨vs2,us2,hv2,hu2,rfl,rfl,rfl⟩:=hz28
      have hrf28:rowF ([]++(famD vs1 us1 x.disk++famD vs2 us2 (lgAddL x e).disk)):=rowF.app (by first|assumption|exact rowF.nil) hF28
      refine vq 4 (rmX (.tup [.agg [.own _,.own _,vI _ _,vI _ _],vI _ _]) Z)<|pq 5 (qxX (.agg [.own _,.own _,vI _ _,vI _ _]) Z)<|pq 6 (qxI Z)<|vst 8 Z (zB 2009 ty.co36 ty.inf36 Z) (.inl Z)<|vq 9 (raI Z)<|fD<|gT<|aS<|aS ?_
      rw[List.nil_append]
      have hrf2:rowF (famD vs1 us1 x.disk++famD vs2 us2 (lgAddL x e).disk):=rowF.app famD_row famD_row
      have hFl2:=famD_len hv2 hu2
      refine aL<|loX (.agg [.own _,.own _,vI _ _,vI _ _]) ty.kd36 Z<|loX (.agg [vL _ _ _,vL _ _ _,vI _ _,vI _ _]) ty.kd36 Z<|lst (zLN Try.func14 (eqLog_e (lgAddL x e) hz2.e) Z (.cons (rdLog (vs:=vs2) (us:=us2) (d:=(lgAddL x e).disk) (s:=(famD vs1 us1 x.disk).length) tlp Z Z hv2 hu2 at_last) (.cons (Reads.lend Z) .nil))) Z ?_
      refine lTt ((famD vs1 us1 x.disk++famD vs2 us2 (lgAddL x e).disk)) [2,3,4,6,7,8,9,10,40] [11,12,21,22,2002,2003,2006,2008,2009] ?_
      refine luZ Z<|lsB 41 false rfl (by first|(simp;done)|(simp;omega))<|lmZ Z<|lmI Z<|lmI Z<|lbB Z<|lsB 45 false rfl (by first|(simp;done)|(simp;omega))<|lkZ Z<|nG<|aN Z<|aK<|gT<|aS<|aS<|aF []<|sq 0 (roX (.agg [.own _,.own _,vI _ _,vI _ _]) ty.kd36 rfl)<|vq 1 (roX (.agg [vL _ _ _,vL _ _ _,vI _ _,vI _ _]) ty.kd27 rfl)<|vst 2 rfl (zC [] [] [] Try.func11 (toLog_f x hz) (trivial) rfl rfl) (.inr rfl)<|vst 3 rfl (zLN Try.func14 (eqLog_e x hz.e) rfl (.cons (rdLog (vs:=vs1) (us:=us1) (d:=x.disk) (s:=0) tlp rfl rfl hv1 hu1 (fun j hj=>by rw[Nat.zero_add,List.getElem?_append_left hj])) (.cons (Reads.lend rfl) .nil))) (.inr rfl)<|vq 4 (ruZ rfl)<|fsB 51 false rfl (by first|(simp;done)|(simp;omega))<|fD<|gT<|aN Z<|aK<|gA<|laI rfl ?_
      refine nA<|loX (.agg [.own _,.own _,vI _ _,vI _ _]) ty.kd36 Z<|lmI Z ?_
      refine AL.stx (StX.callN (F:=(famD vs1 us1 x.disk++famD vs2 us2 (lgAddL x e).disk)) [(1,11),(2,12)] [] [1,2] 0 Try.func15 (markLog_e u11 u12 vs1 us1 x.disk (famD vs2 us2 (lgAddL x e).disk) 1 hv1 hu1 famD_row (by rw[hFl2];omega) hz (by omega) x.next x.epoch) tlp List.drop_zero List.take_zero (Nat.zero_le _) ((by rw[List.length_append,hFl,hFl2];omega)) ((fun y l F ⟨_,e2,_⟩=>by subst e2;exact⟨stays.arr rfl,stays.arr (by show (rowsWV us1 (mkG mWr gWr _ _)).length=_;rw[rowsWV_len (by rw[mkG_len];exact hu1),mkG_len,rowsWV_len hu1]),trivial⟩)) rfl rfl) rfl ?_
      rintro _ _ ⟨xz29,oz29,Fz29,hz29,hF29,hM29,rfl,rfl⟩
      obtain⟨rfl,rfl,rfl⟩:=hz29
      have hrf29:rowF ([]++(famD vs1 us1 (mkDk x.disk 1)++famD vs2 us2 (lgAddL x e).disk)):=rowF.app (by first|assumption|exact rowF.nil) hF29
      refine lTt (([]++(famD vs1 us1 (mkDk x.disk 1)++famD vs2 us2 (lgAddL x e).disk))) [2,3,4,6,7,9,10,11,54] [21,22,2002,2003,2006,2009] ?_
      refine laI Z<|nG<|aS<|aS ?_
      rw[List.nil_append]
      have hrA:rowF (famD vs1 us1 (mkDk x.disk 1)):=famD_row
      have hrf3:rowF (famD vs1 us1 (mkDk x.disk 1)++famD vs2 us2 (lgAddL x e).disk):=rowF.app famD_row famD_row
      refine aL<|lmI Z<|lbB Z<|lsB 56 false rfl (by first|(simp;done)|(simp;omega))<|lmZ Z<|loX (.agg [.own _,.own _,vI _ _,vI _ _]) ty.kd36 Z<|loX (.agg [vL _ _ _,vL _ _ _,vI _ _,vI _ _]) ty.kd36 Z<|lst (zLN Try.func14 (eqLog_e (lgAddL x e) hz2.e) rfl (.cons (rdLog (vs:=vs2) (us:=us2) (d:=(lgAddL x e).disk) (s:=(famD vs1 us1 (mkDk x.disk 1)).length) tlp rfl rfl hv2 hu2 at_last) (.cons (Reads.lend rfl) .nil))) Z<|luZ Z<|lsB 61 false rfl (by first|(simp;done)|(simp;omega))<|lkZ Z<|lmZ Z<|lmI Z<|lmI Z<|lbB Z<|lsB 66 false rfl (by first|(simp;done)|(simp;omega))<|lkZ Z<|nG<|aN Z<|aK<|gA<|laI Z<|nG<|aS ?_
      refine AW.pinA 21 rfl ?_
      intro u21
      refine AW.pinA 22 rfl ?_
      intro u22
      rw[←List.append_nil (famD vs2 us2 (lgAddL x e).disk)]
      have hrf4:rowF (famD vs1 us1 (mkDk x.disk 1)++(famD vs2 us2 (lgAddL x e).disk++[])):=rowF.app famD_row (rowF.app famD_row rowF.nil)
      refine aL<|loX (.agg [.own _,.own _,vI _ _,vI _ _]) ty.kd36 Z<|lmI Z ?_
      refine AL.stx (StX.callN (F:=(famD vs1 us1 (mkDk x.disk 1)++(famD vs2 us2 (lgAddL x e).disk++[]))) [(1,21),(2,22)] [] [1,2] (famD vs1 us1 (mkDk x.disk 1)).length Try.func15 (markLog_e u21 u22 vs2 us2 (lgAddL x e).disk [] 1 hv2 hu2 rowF.nil (by simp) hz2 (by omega) (lgAddL x e).next (lgAddL x e).epoch) tlp List.drop_left List.take_left (by simp) ((by rw[List.length_append,List.append_nil,hFl2,famD_len (d:=mkDk x.disk 1) (by show _=(mkG mCe gCe _ _).length;rw[mkG_len];exact hv1) (by show _=(mkG mWr gWr _ _).length;rw[mkG_len];exact hu1)];show (mkG mCe gCe _ _).length+(mkG mWr gWr _ _).length+_≤_;rw[mkG_len,mkG_len];omega)) ((fun y l F ⟨_,e2,_⟩=>by subst e2;exact⟨stays.arr rfl,stays.arr (by show (rowsWV us2 (mkG mWr gWr _ _)).length=_;rw[rowsWV_len (by rw[mkG_len];exact hu2),mkG_len,rowsWV_len hu2]),trivial⟩)) rfl rfl) rfl ?_
      rintro _ _ ⟨xz30,oz30,Fz30,hz30,hF30,hM30,rfl,rfl⟩
      obtain⟨rfl,rfl,rfl⟩:=hz30
      have hrf30:rowF (famD vs1 us1 (mkDk x.disk 1)++(famD vs2 us2 (mkDk (lgAddL x e).disk 1)++[])):=rowF.app (by first|assumption|exact rowF.nil) hF30
      refine lTt ((famD vs1 us1 (mkDk x.disk 1)++(famD vs2 us2 (mkDk (lgAddL x e).disk 1)++[]))) [2,3,4,6,7,9,12,70] [21,22,2002,2003,2006,2009] ?_
      refine laI Z<|nG<|aS ?_
      rw[List.append_nil (famD vs2 us2 (mkDk (lgAddL x e).disk 1))]
      have hrf5:rowF (famD vs1 us1 (mkDk x.disk 1)++famD vs2 us2 (mkDk (lgAddL x e).disk 1)):=rowF.app famD_row famD_row
      refine aL<|laI Z<|nA<|loX (.agg [.own _,.own _,vI _ _,vI _ _]) ty.kd36 Z<|lmI Z<|lst (zLN Try.func16 (heldLog_e (lgAddL x e) 1 hz2.m (by omega)) rfl (.cons (rdLog (vs:=vs2) (us:=us2) (d:=mkDk (lgAddL x e).disk 1) (s:=(famD vs1 us1 (mkDk x.disk 1)).length) tlp rfl rfl (by show _=(mkG mCe gCe _ _).length;rw[mkG_len];exact hv2) (by show _=(mkG mWr gWr _ _).length;rw[mkG_len];exact hu2) at_last) (.cons (Reads.lend rfl) .nil))) Z<|laI Z<|nG<|aS<|sL<|lmI Z<|lbB Z<|lsB 75 false rfl (by first|(simp;done)|(simp;omega))<|nG<|aN Z<|aK<|gT<|aS<|sL<|lmI Z<|lmI Z<|lbB Z<|lsB 78 false rfl (by first|(simp;done)|(simp;omega)) ?_
      refine nG<|aN Z<|aK<|gT<|aS<|aF [9]<|sq 0 (roX (.agg [vL _ _ _,vL _ _ _,vI _ _,vI _ _]) ty.kd27 Z)<|sq 2 (roX (.agg [vI _ _,vI _ _,vI _ _,vI _ _,vI _ _,vI _ _,vB _]) ty.kd29 Z) ?_
      refine AF.two (i:=1) (j:=8) (by kernel_rfl) ?_ ?_
      ·refine v1 1 rfl (zC [] [] [] Try.func11 (toLog_f x hz) (trivial) rfl rfl) (.inr rfl) ?_
       refine fTt ((famD vs1 us1 (mkDk x.disk 1)++famD vs2 us2 (mkDk (lgAddL x e).disk 1))) [4,6,7,9,12,13,81,82] [21,22,2006,2009] ?_
       refine AF.two (i:=3) (j:=8) (by kernel_rfl) ?_ ?_
       ·refine v1 3 rfl (zL Try.func12 (toEvent_e e) rfl) (.inr rfl) ?_
        refine AF.two (i:=4) (j:=8) (by kernel_rfl) ?_ ?_
        ·refine v1 4 rfl (zC [] [] [] Try.func13 (logAdd_f x e) (trivial) rfl rfl) (.inr rfl)<|pq 5 (qmX (.tup [.agg [vL _ _ _,vL _ _ _,vI _ _,vI _ _],vI _ _]) rfl)<|pq 6 (qxX (.agg [vL _ _ _,vL _ _ _,vI _ _,vI _ _]) rfl)<|pq 7 (qxI rfl)<|vst 8 rfl (zA 2014 ty.ze36 rfl) (.inr rfl)<|vst 9 rfl (zB 2014 ty.co36 ty.inf36 rfl) (.inl rfl)<|vq 10 (raI rfl)<|fD<|gT<|aS<|sL<|loX (.agg [vL _ _ _,vL _ _ _,vI _ _,vI _ _]) ty.kd36 Z<|loX (.agg [vL _ _ _,vL _ _ _,vI _ _,vI _ _]) ty.kd36 Z<|lst (zL Try.func14 (eqLog_e (lgAddL x e) hz2.e) rfl) Z<|luZ Z<|lsB 90 false rfl (by first|(simp;done)|(simp;omega))<|lmZ Z<|lmI Z<|lmI Z<|lbB Z<|lsB 94 false rfl (by first|(simp;done)|(simp;omega))<|lkZ Z<|nG<|aN Z<|aK<|gA ?_
         refine laI Z<|nA<|loX (.agg [.own _,.own _,vI _ _,vI _ _]) ty.kd36 Z<|lmI Z<|lst (zLN Try.func16 (heldLog_e (lgAddL x e) 1 hz2.m (by omega)) rfl (.cons (rdLog (vs:=vs2) (us:=us2) (d:=mkDk (lgAddL x e).disk 1) (s:=(famD vs1 us1 (mkDk x.disk 1)).length) tlp rfl rfl (by show _=(mkG mCe gCe _ _).length;rw[mkG_len];exact hv2) (by show _=(mkG mWr gWr _ _).length;rw[mkG_len];exact hu2) at_last) (.cons (Reads.lend rfl) .nil))) rfl ?_
         refine lTt ((famD vs1 us1 (mkDk x.disk 1)++famD vs2 us2 (mkDk (lgAddL x e).disk 1))) [4,12,13,98] [] ?_
         refine laI Z<|nG<|aS<|sL<|lmI Z<|lbB Z<|lsB 100 false rfl (by first|(simp;done)|(simp;omega))<|nG<|aN Z<|aK<|gT<|aS<|sL<|lmI Z<|lmI Z<|lbB Z<|lsB 103 false rfl (by first|(simp;done)|(simp;omega))<|nG<|aN Z<|aK<|gA<|laT Z<|lN ?_
         refine gT<|aR ?_
         refine end_ret ?_ trivial
         rfl
        ·refine v1 8 Z (zA 2014 ty.ze36 Z) (.inr Z)<|vst 4 Z (zC [] [] [] Try.func13 (logAdd_f x e) (trivial) Z Z) (.inr Z)<|vq 5 (rmX (.tup [.agg [vL _ _ _,vL _ _ _,vI _ _,vI _ _],vI _ _]) Z)<|pq 6 (qxX (.agg [vL _ _ _,vL _ _ _,vI _ _,vI _ _]) Z)<|pq 7 (qxI Z)<|vst 9 Z (zB 2014 ty.co36 ty.inf36 Z) (.inl Z)<|vq 10 (raI Z)<|fD<|gT<|aS<|sL<|loX (.agg [vL _ _ _,vL _ _ _,vI _ _,vI _ _]) ty.kd36 Z<|loX (.agg [vL _ _ _,vL _ _ _,vI _ _,vI _ _]) ty.kd36 Z<|lst (zL Try.func14 (eqLog_e (lgAddL x e) hz2.e) Z) Z ?_
         refine lTt ((famD vs1 us1 (mkDk x.disk 1)++famD vs2 us2 (mkDk (lgAddL x e).disk 1))) [4,7,9,12,13,15,89] [21,22,2009] ?_
         refine luZ Z<|lsB 90 false rfl (by first|(simp;done)|(simp;omega))<|lmZ Z<|lmI Z<|lmI Z<|lbB Z<|lsB 94 false rfl (by first|(simp;done)|(simp;omega))<|lkZ Z<|nG<|aN Z<|aK<|gA<|laI Z<|nA<|loX (.agg [.own _,.own _,vI _ _,vI _ _]) ty.kd36 Z<|lmI Z<|lst (zLN Try.func16 (heldLog_e (lgAddL x e) 1 hz2.m (by omega)) rfl (.cons (rdLog (vs:=vs2) (us:=us2) (d:=mkDk (lgAddL x e).disk 1) (s:=(famD vs1 us1 (mkDk x.disk 1)).length) tlp rfl rfl (by show _=(mkG mCe gCe _ _).length;rw[mkG_len];exact hv2) (by show _=(mkG mWr gWr _ _).length;rw[mkG_len];exact hu2) at_last) (.cons (Reads.lend rfl) .nil))) Z<|laI Z<|nG<|aS<|sL<|lmI rfl ?_
         refine lbB Z<|lsB 100 false rfl (by first|(simp;done)|(simp;omega))<|nG<|aN Z<|aK<|gT<|aS<|sL<|lmI Z<|lmI Z<|lbB Z<|lsB 103 false rfl (by first|(simp;done)|(simp;omega))<|nG<|aN Z<|aK<|gA<|laT Z<|nG<|aR ?_
         refine end_ret ?_ trivial
         rfl
       ·refine v1 8 rfl (zA 2014 ty.ze36 rfl) (.inr rfl) ?_
        refine fTt ((famD vs1 us1 (mkDk x.disk 1)++famD vs2 us2 (mkDk (lgAddL x e).disk 1))) [4,6,7,9,12,13,14,81,82] [21,22,2006,2009,2014] ?_
        refine vst 3 rfl (zL Try.func12 (toEvent_e e) rfl) (.inr rfl)<|vst 4 rfl (zC [] [] [] Try.func13 (logAdd_f x e) (trivial) rfl rfl) (.inr rfl)<|vq 5 (rmX (.tup [.agg [vL _ _ _,vL _ _ _,vI _ _,vI _ _],vI _ _]) rfl)<|pq 6 (qxX (.agg [vL _ _ _,vL _ _ _,vI _ _,vI _ _]) rfl)<|pq 7 (qxI rfl)<|vst 9 rfl (zB 2014 ty.co36 ty.inf36 rfl) (.inl rfl)<|vq 10 (raI rfl)<|fD<|gT<|aS<|sL<|loX (.agg [vL _ _ _,vL _ _ _,vI _ _,vI _ _]) ty.kd36 Z<|loX (.agg [vL _ _ _,vL _ _ _,vI _ _,vI _ _]) ty.kd36 Z<|lst (zL Try.func14 (eqLog_e (lgAddL x e) hz2.e) rfl) Z<|luZ Z<|lsB 90 false rfl (by first|(simp;done)|(simp;omega))<|lmZ Z<|lmI Z<|lmI Z<|lbB Z<|lsB 94 false rfl (by first|(simp;done)|(simp;omega))<|lkZ Z<|nG<|aN Z<|aK<|gA ?_
        refine laI Z<|nA<|loX (.agg [.own _,.own _,vI _ _,vI _ _]) ty.kd36 Z<|lmI Z<|lst (zLN Try.func16 (heldLog_e (lgAddL x e) 1 hz2.m (by omega)) rfl (.cons (rdLog (vs:=vs2) (us:=us2) (d:=mkDk (lgAddL x e).disk 1) (s:=(famD vs1 us1 (mkDk x.disk 1)).length) tlp rfl rfl (by show _=(mkG mCe gCe _ _).length;rw[mkG_len];exact hv2) (by show _=(mkG mWr gWr _ _).length;rw[mkG_len];exact hu2) at_last) (.cons (Reads.lend rfl) .nil))) rfl ?_
        refine lTt ((famD vs1 us1 (mkDk x.disk 1)++famD vs2 us2 (mkDk (lgAddL x e).disk 1))) [4,12,13,98] [] ?_
        refine laI Z<|nG<|aS<|sL<|lmI Z<|lbB Z<|lsB 100 false rfl (by first|(simp;done)|(simp;omega))<|nG<|aN Z<|aK<|gT<|aS<|sL<|lmI Z<|lmI Z<|lbB Z<|lsB 103 false rfl (by first|(simp;done)|(simp;omega))<|nG<|aN Z<|aK<|gA<|laT Z<|lN ?_
        refine gT<|aR ?_
        refine end_ret ?_ trivial
        rfl
      ·refine v1 8 Z (zA 2014 ty.ze36 Z) (.inr Z)<|vst 1 Z (zC [] [] [] Try.func11 (toLog_f x hz) (trivial) Z Z) (.inr Z)<|vst 3 Z (zL Try.func12 (toEvent_e e) Z) (.inr Z)<|vst 4 Z (zC [] [] [] Try.func13 (logAdd_f x e) (trivial) Z Z) (.inr Z)<|vq 5 (rmX (.tup [.agg [vL _ _ _,vL _ _ _,vI _ _,vI _ _],vI _ _]) Z)<|pq 6 (qxX (.agg [vL _ _ _,vL _ _ _,vI _ _,vI _ _]) Z)<|pq 7 (qxI Z)<|vst 9 Z (zB 2014 ty.co36 ty.inf36 Z) (.inl Z) ?_
       refine fTt ((famD vs1 us1 (mkDk x.disk 1)++famD vs2 us2 (mkDk (lgAddL x e).disk 1))) [4,6,7,9,12,13,14,86] [21,22,2006,2009,2014] ?_
       refine vq 10 (raI rfl)<|fD<|gT<|aS<|sL<|loX (.agg [vL _ _ _,vL _ _ _,vI _ _,vI _ _]) ty.kd36 Z<|loX (.agg [vL _ _ _,vL _ _ _,vI _ _,vI _ _]) ty.kd36 Z<|lst (zL Try.func14 (eqLog_e (lgAddL x e) hz2.e) rfl) Z<|luZ Z<|lsB 90 false rfl (by first|(simp;done)|(simp;omega))<|lmZ Z<|lmI Z<|lmI Z<|lbB Z<|lsB 94 false rfl (by first|(simp;done)|(simp;omega))<|lkZ Z<|nG<|aN Z<|aK<|gA<|laI Z<|nA<|loX (.agg [.own _,.own _,vI _ _,vI _ _]) ty.kd36 rfl ?_
       refine lmI Z<|lst (zLN Try.func16 (heldLog_e (lgAddL x e) 1 hz2.m (by omega)) rfl (.cons (rdLog (vs:=vs2) (us:=us2) (d:=mkDk (lgAddL x e).disk 1) (s:=(famD vs1 us1 (mkDk x.disk 1)).length) tlp rfl rfl (by show _=(mkG mCe gCe _ _).length;rw[mkG_len];exact hv2) (by show _=(mkG mWr gWr _ _).length;rw[mkG_len];exact hu2) at_last) (.cons (Reads.lend rfl) .nil))) rfl ?_
       refine lTt ((famD vs1 us1 (mkDk x.disk 1)++famD vs2 us2 (mkDk (lgAddL x e).disk 1))) [4,12,13,98] [] ?_
       refine laI Z<|nG<|aS<|sL<|lmI Z<|lbB Z<|lsB 100 false rfl (by first|(simp;done)|(simp;omega))<|nG<|aN Z<|aK<|gT<|aS<|sL<|lmI Z<|lmI Z<|lbB Z<|lsB 103 false rfl (by first|(simp;done)|(simp;omega))<|nG<|aN Z<|aK<|gA<|laT Z<|lN ?_
       refine gT<|aR ?_
       refine end_ret ?_ trivial
       rfl
    ·refine v1 7 Z (zA 2009 ty.ze36 Z) (.inr Z)<|vst 2 Z (zL Try.func12 (toEvent_e e) Z) (.inr Z) ?_
     refine AF.stx (i:=3) rfl (by kernel_rfl) (StX.callN (F:=(famD vs1 us1 x.disk)) [(1,21),(2,22),(4,11),(5,12)] [21,22] [4,5] 0 Try.func13 (lentAd u11 u12 vs1 us1 x e hz hv1 hu1) tlp List.drop_zero List.take_zero (Nat.zero_le _) ((by rw[hFl];omega)) ((fun y l F ⟨_,_,_,_,_,e2,_⟩=>by subst e2;exact⟨stays.arr rfl,stays.arr rfl,trivial⟩)) rfl rfl) (.inl rfl) rfl ?_
     rintro _ _ ⟨xz31,oz31,Fz31,hz31,hF31,hM31,rfl,rfl⟩
     obtain⟨vs2,us2,hv2,hu2,rfl,rfl,rfl⟩:=hz31
     have hrf31:rowF ([]++(famD vs1 us1 x.disk++famD vs2 us2 (lgAddL x e).disk)):=rowF.app (by first|assumption|exact rowF.nil) hF31
     refine vq 4 (rmX (.tup [.agg [.own _,.own _,vI _ _,vI _ _],vI _ _]) Z)<|pq 5 (qxX (.agg [.own _,.own _,vI _ _,vI _ _]) Z)<|pq 6 (qxI Z)<|vst 8 Z (zB 2009 ty.co36 ty.inf36 Z) (.inl Z) ?_
     refine fTt (([]++(famD vs1 us1 x.disk++famD vs2 us2 (lgAddL x e).disk))) [2,3,4,6,7,8,9,37] [11,12,21,22,2002,2003,2006,2008,2009] ?_
     refine vq 9 (raI Z)<|fD<|gT<|aS<|aS ?_
     rw[List.nil_append]
     have hrf2:rowF (famD vs1 us1 x.disk++famD vs2 us2 (lgAddL x e).disk):=rowF.app famD_row famD_row
     have hFl2:=famD_len hv2 hu2
     refine aL<|loX (.agg [.own _,.own _,vI _ _,vI _ _]) ty.kd36 Z<|loX (.agg [vL _ _ _,vL _ _ _,vI _ _,vI _ _]) ty.kd36 Z<|lst (zLN Try.func14 (eqLog_e (lgAddL x e) hz2.e) rfl (.cons (rdLog (vs:=vs2) (us:=us2) (d:=(lgAddL x e).disk) (s:=(famD vs1 us1 x.disk).length) tlp rfl rfl hv2 hu2 at_last) (.cons (Reads.lend rfl) .nil))) Z<|luZ Z<|lsB 41 false rfl (by first|(simp;done)|(simp;omega))<|lmZ Z<|lmI Z<|lmI Z<|lbB Z<|lsB 45 false rfl (by first|(simp;done)|(simp;omega))<|lkZ Z<|nG<|aN Z<|aK<|gT<|aS<|aS<|aF []<|sq 0 (roX (.agg [.own _,.own _,vI _ _,vI _ _]) ty.kd36 rfl)<|vq 1 (roX (.agg [vL _ _ _,vL _ _ _,vI _ _,vI _ _]) ty.kd27 rfl)<|vst 2 rfl (zC [] [] [] Try.func11 (toLog_f x hz) (trivial) rfl rfl) (.inr rfl)<|vst 3 rfl (zLN Try.func14 (eqLog_e x hz.e) rfl (.cons (rdLog (vs:=vs1) (us:=us1) (d:=x.disk) (s:=0) tlp rfl rfl hv1 hu1 (fun j hj=>by rw[Nat.zero_add,List.getElem?_append_left hj])) (.cons (Reads.lend rfl) .nil))) (.inr rfl) ?_
     refine fTt ((famD vs1 us1 x.disk++famD vs2 us2 (lgAddL x e).disk)) [2,3,4,6,7,8,9,10,50] [11,12,21,22,2002,2003,2006,2008,2009] ?_
     refine vq 4 (ruZ rfl)<|fsB 51 false rfl (by first|(simp;done)|(simp;omega))<|fD<|gT<|aN Z<|aK<|gA<|laI Z<|nA<|loX (.agg [.own _,.own _,vI _ _,vI _ _]) ty.kd36 Z<|lmI rfl ?_
     refine AL.stx (StX.callN (F:=(famD vs1 us1 x.disk++famD vs2 us2 (lgAddL x e).disk)) [(1,11),(2,12)] [] [1,2] 0 Try.func15 (markLog_e u11 u12 vs1 us1 x.disk (famD vs2 us2 (lgAddL x e).disk) 1 hv1 hu1 famD_row (by rw[hFl2];omega) hz (by omega) x.next x.epoch) tlp List.drop_zero List.take_zero (Nat.zero_le _) ((by rw[List.length_append,hFl,hFl2];omega)) ((fun y l F ⟨_,e2,_⟩=>by subst e2;exact⟨stays.arr rfl,stays.arr (by show (rowsWV us1 (mkG mWr gWr _ _)).length=_;rw[rowsWV_len (by rw[mkG_len];exact hu1),mkG_len,rowsWV_len hu1]),trivial⟩)) rfl rfl) rfl ?_
     rintro _ _ ⟨xz32,oz32,Fz32,hz32,hF32,hM32,rfl,rfl⟩
     obtain⟨rfl,rfl,rfl⟩:=hz32
     have hrf32:rowF ([]++(famD vs1 us1 (mkDk x.disk 1)++famD vs2 us2 (lgAddL x e).disk)):=rowF.app (by first|assumption|exact rowF.nil) hF32
     refine laI Z<|nG<|aS<|aS ?_
     rw[List.nil_append]
     have hrA:rowF (famD vs1 us1 (mkDk x.disk 1)):=famD_row
     have hrf3:rowF (famD vs1 us1 (mkDk x.disk 1)++famD vs2 us2 (lgAddL x e).disk):=rowF.app famD_row famD_row
     refine aL<|lmI Z<|lbB Z<|lsB 56 false rfl (by first|(simp;done)|(simp;omega))<|lmZ Z<|loX (.agg [.own _,.own _,vI _ _,vI _ _]) ty.kd36 Z<|loX (.agg [vL _ _ _,vL _ _ _,vI _ _,vI _ _]) ty.kd36 Z<|lst (zLN Try.func14 (eqLog_e (lgAddL x e) hz2.e) rfl (.cons (rdLog (vs:=vs2) (us:=us2) (d:=(lgAddL x e).disk) (s:=(famD vs1 us1 (mkDk x.disk 1)).length) tlp rfl rfl hv2 hu2 at_last) (.cons (Reads.lend rfl) .nil))) Z<|luZ Z<|lsB 61 false rfl (by first|(simp;done)|(simp;omega))<|lkZ Z<|lmZ Z<|lmI Z<|lmI Z<|lbB Z<|lsB 66 false rfl (by first|(simp;done)|(simp;omega))<|lkZ Z<|nG<|aN Z<|aK<|gA<|laI Z<|nG<|aS ?_
     refine AW.pinA 21 rfl ?_
     intro u21
     refine AW.pinA 22 rfl ?_
     intro u22
     rw[←List.append_nil (famD vs2 us2 (lgAddL x e).disk)]
     have hrf4:rowF (famD vs1 us1 (mkDk x.disk 1)++(famD vs2 us2 (lgAddL x e).disk++[])):=rowF.app famD_row (rowF.app famD_row rowF.nil)
     refine aL<|loX (.agg [.own _,.own _,vI _ _,vI _ _]) ty.kd36 Z<|lmI Z ?_
     refine AL.stx (StX.callN (F:=(famD vs1 us1 (mkDk x.disk 1)++(famD vs2 us2 (lgAddL x e).disk++[]))) [(1,21),(2,22)] [] [1,2] (famD vs1 us1 (mkDk x.disk 1)).length Try.func15 (markLog_e u21 u22 vs2 us2 (lgAddL x e).disk [] 1 hv2 hu2 rowF.nil (by simp) hz2 (by omega) (lgAddL x e).next (lgAddL x e).epoch) tlp List.drop_left List.take_left (by simp) ((by rw[List.length_append,List.append_nil,hFl2,famD_len (d:=mkDk x.disk 1) (by show _=(mkG mCe gCe _ _).length;rw[mkG_len];exact hv1) (by show _=(mkG mWr gWr _ _).length;rw[mkG_len];exact hu1)];show (mkG mCe gCe _ _).length+(mkG mWr gWr _ _).length+_≤_;rw[mkG_len,mkG_len];omega)) ((fun y l F ⟨_,e2,_⟩=>by subst e2;exact⟨stays.arr rfl,stays.arr (by show (rowsWV us2 (mkG mWr gWr _ _)).length=_;rw[rowsWV_len (by rw[mkG_len];exact hu2),mkG_len,rowsWV_len hu2]),trivial⟩)) rfl rfl) rfl ?_
     rintro _ _ ⟨xz33,oz33,Fz33,hz33,hF33,hM33,rfl,rfl⟩
     obtain⟨rfl,rfl,rfl⟩:=hz33
     have hrf33:rowF (famD vs1 us1 (mkDk x.disk 1)++(famD vs2 us2 (mkDk (lgAddL x e).disk 1)++[])):=rowF.app (by first|assumption|exact rowF.nil) hF33
     refine lTt ((famD vs1 us1 (mkDk x.disk 1)++(famD vs2 us2 (mkDk (lgAddL x e).disk 1)++[]))) [2,3,4,6,7,9,12,70] [21,22,2002,2003,2006,2009] ?_
     refine laI Z<|nG<|aS ?_
     rw[List.append_nil (famD vs2 us2 (mkDk (lgAddL x e).disk 1))]
     have hrf5:rowF (famD vs1 us1 (mkDk x.disk 1)++famD vs2 us2 (mkDk (lgAddL x e).disk 1)):=rowF.app famD_row famD_row
     refine aL<|laI Z<|nA<|loX (.agg [.own _,.own _,vI _ _,vI _ _]) ty.kd36 Z<|lmI Z<|lst (zLN Try.func16 (heldLog_e (lgAddL x e) 1 hz2.m (by omega)) rfl (.cons (rdLog (vs:=vs2) (us:=us2) (d:=mkDk (lgAddL x e).disk 1) (s:=(famD vs1 us1 (mkDk x.disk 1)).length) tlp rfl rfl (by show _=(mkG mCe gCe _ _).length;rw[mkG_len];exact hv2) (by show _=(mkG mWr gWr _ _).length;rw[mkG_len];exact hu2) at_last) (.cons (Reads.lend rfl) .nil))) Z<|laI Z<|nG<|aS<|sL<|lmI Z<|lbB Z<|lsB 75 false rfl (by first|(simp;done)|(simp;omega))<|nG<|aN Z<|aK<|gT<|aS<|sL<|lmI Z<|lmI Z<|lbB Z<|lsB 78 false rfl (by first|(simp;done)|(simp;omega)) ?_
     refine nG<|aN Z<|aK<|gT<|aS<|aF [9]<|sq 0 (roX (.agg [vL _ _ _,vL _ _ _,vI _ _,vI _ _]) ty.kd27 Z)<|sq 2 (roX (.agg [vI _ _,vI _ _,vI _ _,vI _ _,vI _ _,vI _ _,vB _]) ty.kd29 Z) ?_
     refine AF.two (i:=1) (j:=8) (by kernel_rfl) ?_ ?_
     ·refine v1 1 rfl (zC [] [] [] Try.func11 (toLog_f x hz) (trivial) rfl rfl) (.inr rfl) ?_
      refine fTt ((famD vs1 us1 (mkDk x.disk 1)++famD vs2 us2 (mkDk (lgAddL x e).disk 1))) [4,6,7,9,12,13,81,82] [21,22,2006,2009] ?_
      refine AF.two (i:=3) (j:=8) (by kernel_rfl) ?_ ?_
      ·refine v1 3 rfl (zL Try.func12 (toEvent_e e) rfl) (.inr rfl) ?_
       refine AF.two (i:=4) (j:=8) (by kernel_rfl) ?_ ?_
       ·refine v1 4 rfl (zC [] [] [] Try.func13 (logAdd_f x e) (trivial) rfl rfl) (.inr rfl)<|pq 5 (qmX (.tup [.agg [vL _ _ _,vL _ _ _,vI _ _,vI _ _],vI _ _]) rfl)<|pq 6 (qxX (.agg [vL _ _ _,vL _ _ _,vI _ _,vI _ _]) rfl)<|pq 7 (qxI rfl)<|vst 8 rfl (zA 2014 ty.ze36 rfl) (.inr rfl)<|vst 9 rfl (zB 2014 ty.co36 ty.inf36 rfl) (.inl rfl)<|vq 10 (raI rfl)<|fD<|gT<|aS<|sL<|loX (.agg [vL _ _ _,vL _ _ _,vI _ _,vI _ _]) ty.kd36 Z<|loX (.agg [vL _ _ _,vL _ _ _,vI _ _,vI _ _]) ty.kd36 Z<|lst (zL Try.func14 (eqLog_e (lgAddL x e) hz2.e) rfl) Z<|luZ Z<|lsB 90 false rfl (by first|(simp;done)|(simp;omega))<|lmZ Z<|lmI Z<|lmI Z<|lbB Z<|lsB 94 false rfl (by first|(simp;done)|(simp;omega))<|lkZ Z<|nG<|aN Z<|aK<|gA ?_
        refine laI Z<|nA<|loX (.agg [.own _,.own _,vI _ _,vI _ _]) ty.kd36 Z<|lmI Z<|lst (zLN Try.func16 (heldLog_e (lgAddL x e) 1 hz2.m (by omega)) rfl (.cons (rdLog (vs:=vs2) (us:=us2) (d:=mkDk (lgAddL x e).disk 1) (s:=(famD vs1 us1 (mkDk x.disk 1)).length) tlp rfl rfl (by show _=(mkG mCe gCe _ _).length;rw[mkG_len];exact hv2) (by show _=(mkG mWr gWr _ _).length;rw[mkG_len];exact hu2) at_last) (.cons (Reads.lend rfl) .nil))) rfl ?_
        refine lTt ((famD vs1 us1 (mkDk x.disk 1)++famD vs2 us2 (mkDk (lgAddL x e).disk 1))) [4,12,13,98] [] ?_
        refine laI Z<|nG<|aS<|sL<|lmI Z<|lbB Z<|lsB 100 false rfl (by first|(simp;done)|(simp;omega))<|nG<|aN Z<|aK<|gT<|aS<|sL<|lmI Z<|lmI Z<|lbB Z<|lsB 103 false rfl (by first|(simp;done)|(simp;omega))<|nG<|aN Z<|aK<|gA<|laT Z<|lN ?_
        refine gT<|aR ?_
        refine end_ret ?_ trivial
        rfl
       ·refine v1 8 Z (zA 2014 ty.ze36 Z) (.inr Z)<|vst 4 Z (zC [] [] [] Try.func13 (logAdd_f x e) (trivial) Z Z) (.inr Z)<|vq 5 (rmX (.tup [.agg [vL _ _ _,vL _ _ _,vI _ _,vI _ _],vI _ _]) Z)<|pq 6 (qxX (.agg [vL _ _ _,vL _ _ _,vI _ _,vI _ _]) Z)<|pq 7 (qxI Z)<|vst 9 Z (zB 2014 ty.co36 ty.inf36 Z) (.inl Z)<|vq 10 (raI Z)<|fD<|gT<|aS<|sL<|loX (.agg [vL _ _ _,vL _ _ _,vI _ _,vI _ _]) ty.kd36 Z<|loX (.agg [vL _ _ _,vL _ _ _,vI _ _,vI _ _]) ty.kd36 Z<|lst (zL Try.func14 (eqLog_e (lgAddL x e) hz2.e) Z) Z ?_
        refine lTt ((famD vs1 us1 (mkDk x.disk 1)++famD vs2 us2 (mkDk (lgAddL x e).disk 1))) [4,7,9,12,13,15,89] [21,22,2009] ?_
        refine luZ Z<|lsB 90 false rfl (by first|(simp;done)|(simp;omega))<|lmZ Z<|lmI Z<|lmI Z<|lbB Z<|lsB 94 false rfl (by first|(simp;done)|(simp;omega))<|lkZ Z<|nG<|aN Z<|aK<|gA<|laI Z<|nA<|loX (.agg [.own _,.own _,vI _ _,vI _ _]) ty.kd36 Z<|lmI Z<|lst (zLN Try.func16 (heldLog_e (lgAddL x e) 1 hz2.m (by omega)) rfl (.cons (rdLog (vs:=vs2) (us:=us2) (d:=mkDk (lgAddL x e).disk 1) (s:=(famD vs1 us1 (mkDk x.disk 1)).length) tlp rfl rfl (by show _=(mkG mCe gCe _ _).length;rw[mkG_len];exact hv2) (by show _=(mkG mWr gWr _ _).length;rw[mkG_len];exact hu2) at_last) (.cons (Reads.lend rfl) .nil))) Z<|laI Z<|nG<|aS<|sL<|lmI rfl ?_
        refine lbB Z<|lsB 100 false rfl (by first|(simp;done)|(simp;omega))<|nG<|aN Z<|aK<|gT<|aS<|sL<|lmI Z<|lmI Z<|lbB Z<|lsB 103 false rfl (by first|(simp;done)|(simp;omega))<|nG<|aN Z<|aK<|gA<|laT Z<|nG<|aR ?_
        refine end_ret ?_ trivial
        rfl
      ·refine v1 8 rfl (zA 2014 ty.ze36 rfl) (.inr rfl) ?_
       refine fTt ((famD vs1 us1 (mkDk x.disk 1)++famD vs2 us2 (mkDk (lgAddL x e).disk 1))) [4,6,7,9,12,13,14,81,82] [21,22,2006,2009,2014] ?_
       refine vst 3 rfl (zL Try.func12 (toEvent_e e) rfl) (.inr rfl)<|vst 4 rfl (zC [] [] [] Try.func13 (logAdd_f x e) (trivial) rfl rfl) (.inr rfl)<|vq 5 (rmX (.tup [.agg [vL _ _ _,vL _ _ _,vI _ _,vI _ _],vI _ _]) rfl)<|pq 6 (qxX (.agg [vL _ _ _,vL _ _ _,vI _ _,vI _ _]) rfl)<|pq 7 (qxI rfl)<|vst 9 rfl (zB 2014 ty.co36 ty.inf36 rfl) (.inl rfl)<|vq 10 (raI rfl)<|fD<|gT<|aS<|sL<|loX (.agg [vL _ _ _,vL _ _ _,vI _ _,vI _ _]) ty.kd36 Z<|loX (.agg [vL _ _ _,vL _ _ _,vI _ _,vI _ _]) ty.kd36 Z<|lst (zL Try.func14 (eqLog_e (lgAddL x e) hz2.e) rfl) Z<|luZ Z<|lsB 90 false rfl (by first|(simp;done)|(simp;omega))<|lmZ Z<|lmI Z<|lmI Z<|lbB Z<|lsB 94 false rfl (by first|(simp;done)|(simp;omega))<|lkZ Z<|nG<|aN Z<|aK<|gA ?_
       refine laI Z<|nA<|loX (.agg [.own _,.own _,vI _ _,vI _ _]) ty.kd36 Z<|lmI Z<|lst (zLN Try.func16 (heldLog_e (lgAddL x e) 1 hz2.m (by omega)) rfl (.cons (rdLog (vs:=vs2) (us:=us2) (d:=mkDk (lgAddL x e).disk 1) (s:=(famD vs1 us1 (mkDk x.disk 1)).length) tlp rfl rfl (by show _=(mkG mCe gCe _ _).length;rw[mkG_len];exact hv2) (by show _=(mkG mWr gWr _ _).length;rw[mkG_len];exact hu2) at_last) (.cons (Reads.lend rfl) .nil))) rfl ?_
       refine lTt ((famD vs1 us1 (mkDk x.disk 1)++famD vs2 us2 (mkDk (lgAddL x e).disk 1))) [4,12,13,98] [] ?_
       refine laI Z<|nG<|aS<|sL<|lmI Z<|lbB Z<|lsB 100 false rfl (by first|(simp;done)|(simp;omega))<|nG<|aN Z<|aK<|gT<|aS<|sL<|lmI Z<|lmI Z<|lbB Z<|lsB 103 false rfl (by first|(simp;done)|(simp;omega))<|nG<|aN Z<|aK<|gA<|laT Z<|lN ?_
       refine gT<|aR ?_
       refine end_ret ?_ trivial
       rfl
     ·refine v1 8 Z (zA 2014 ty.ze36 Z) (.inr Z)<|vst 1 Z (zC [] [] [] Try.func11 (toLog_f x hz) (trivial) Z Z) (.inr Z)<|vst 3 Z (zL Try.func12 (toEvent_e e) Z) (.inr Z)<|vst 4 Z (zC [] [] [] Try.func13 (logAdd_f x e) (trivial) Z Z) (.inr Z)<|vq 5 (rmX (.tup [.agg [vL _ _ _,vL _ _ _,vI _ _,vI _ _],vI _ _]) Z)<|pq 6 (qxX (.agg [vL _ _ _,vL _ _ _,vI _ _,vI _ _]) Z)<|pq 7 (qxI Z)<|vst 9 Z (zB 2014 ty.co36 ty.inf36 Z) (.inl Z) ?_
      refine fTt ((famD vs1 us1 (mkDk x.disk 1)++famD vs2 us2 (mkDk (lgAddL x e).disk 1))) [4,6,7,9,12,13,14,86] [21,22,2006,2009,2014] ?_
      refine vq 10 (raI rfl)<|fD<|gT<|aS<|sL<|loX (.agg [vL _ _ _,vL _ _ _,vI _ _,vI _ _]) ty.kd36 Z<|loX (.agg [vL _ _ _,vL _ _ _,vI _ _,vI _ _]) ty.kd36 Z<|lst (zL Try.func14 (eqLog_e (lgAddL x e) hz2.e) rfl) Z<|luZ Z<|lsB 90 false rfl (by first|(simp;done)|(simp;omega))<|lmZ Z<|lmI Z<|lmI Z<|lbB Z<|lsB 94 false rfl (by first|(simp;done)|(simp;omega))<|lkZ Z<|nG<|aN Z<|aK<|gA<|laI Z<|nA<|loX (.agg [.own _,.own _,vI _ _,vI _ _]) ty.kd36 rfl ?_
      refine lmI Z<|lst (zLN Try.func16 (heldLog_e (lgAddL x e) 1 hz2.m (by omega)) rfl (.cons (rdLog (vs:=vs2) (us:=us2) (d:=mkDk (lgAddL x e).disk 1) (s:=(famD vs1 us1 (mkDk x.disk 1)).length) tlp rfl rfl (by show _=(mkG mCe gCe _ _).length;rw[mkG_len];exact hv2) (by show _=(mkG mWr gWr _ _).length;rw[mkG_len];exact hu2) at_last) (.cons (Reads.lend rfl) .nil))) rfl ?_
      refine lTt ((famD vs1 us1 (mkDk x.disk 1)++famD vs2 us2 (mkDk (lgAddL x e).disk 1))) [4,12,13,98] [] ?_
      refine laI Z<|nG<|aS<|sL<|lmI Z<|lbB Z<|lsB 100 false rfl (by first|(simp;done)|(simp;omega))<|nG<|aN Z<|aK<|gT<|aS<|sL<|lmI Z<|lmI Z<|lbB Z<|lsB 103 false rfl (by first|(simp;done)|(simp;omega))<|nG<|aN Z<|aK<|gA<|laT Z<|lN ?_
      refine gT<|aR ?_
      refine end_ret ?_ trivial
      rfl
  ·refine v1 8 Z (zA 2006 ty.ze36 Z) (.inr Z)<|vst 1 Z (zC [] [] [] Try.func11 (toLog_f x hz) (trivial) Z Z) (.inr Z)<|vst 3 Z (zL Try.func12 (toEvent_e e) Z) (.inr Z)<|vst 4 Z (zC [] [] [] Try.func10 (slogAdd_f x e) (trivial) Z Z) (.inr Z)<|vq 5 (rmX (.tup [.agg [vL _ _ _,vL _ _ _,vI _ _,vI _ _],vI _ _]) Z)<|pq 6 (qxX (.agg [vL _ _ _,vL _ _ _,vI _ _,vI _ _]) Z)<|pq 7 (qxI Z)<|vst 9 Z (zB 2006 ty.co36 ty.inf36 Z) (.inl Z) ?_
   refine fTt ([]) [2,3,4,6,28] [2002,2003,2006] ?_
   refine vq 10 (raI Z)<|fD<|gA<|loX (.agg [vL _ _ _,vL _ _ _,vI _ _,vI _ _]) ty.kd27 Z ?_
   refine AL.stx (StX.callN (F:=[]) [(1,11),(2,12)] [11,12] [] ([]).length Try.func11 (toLog_n x hz) tlp List.drop_length List.take_length (Nat.le_refl _) ((by simp)) (fun _ _ _ _=>trivial) rfl rfl) rfl ?_
   rintro _ _ ⟨xz34,oz34,Fz34,hz34,hF34,hM34,rfl,rfl⟩
   obtain⟨vs1,us1,hv1,hu1,rfl,rfl,rfl⟩:=hz34
   have hrf34:rowF ([]++famD vs1 us1 x.disk):=rowF.app (by first|assumption|exact rowF.nil) hF34
   refine lst (zA 2008 ty.ze36 Z) Z<|lst (zB 2008 ty.co36 ty.inf36 Z) Z<|nG<|aS ?_
   rw[List.nil_append]
   have hrf1:rowF (famD vs1 us1 x.disk):=famD_row
   have hFl:=famD_len hv1 hu1
   refine AW.pinA 11 rfl ?_
   intro u11
   refine AW.pinA 12 rfl ?_
   intro u12
   refine aF [3,8]<|sq 0 (roX (.agg [.own _,.own _,vI _ _,vI _ _]) ty.kd36 Z)<|sq 1 (roX (.agg [vI _ _,vI _ _,vI _ _,vI _ _,vI _ _,vI _ _,vB _]) ty.kd29 Z) ?_
   refine AF.two (i:=2) (j:=7) (by kernel_rfl) ?_ ?_
   ·refine v1 2 rfl (zL Try.func12 (toEvent_e e) rfl) (.inr rfl) ?_
    refine AF.two (i:=3) (j:=7) (by kernel_rfl) ?_ ?_
    ·refine AF1.stx (i:=3) rfl (StX.callN (F:=(famD vs1 us1 x.disk)) [(1,21),(2,22),(4,11),(5,12)] [21,22] [4,5] 0 Try.func13 (lentAd u11 u12 vs1 us1 x e hz hv1 hu1) tlp List.drop_zero List.take_zero (Nat.zero_le _) ((by rw[hFl];omega)) ((fun y l F ⟨_,_,_,_,_,e2,_⟩=>by subst e2;exact⟨stays.arr rfl,stays.arr rfl,trivial⟩)) rfl rfl) (.inl rfl) rfl ?_
     rintro _ _ ⟨xz36,oz36,Fz36,hz36,hF36,hM36,rfl,rfl⟩
     obtain⟨vs2,us2,hv2,hu2,rfl,rfl,rfl⟩:=hz36
     have hrf36:rowF ([]++(famD vs1 us1 x.disk++famD vs2 us2 (lgAddL x e).disk)):=rowF.app (by first|assumption|exact rowF.nil) hF36
     refine pq 4 (qmX (.tup [.agg [.own _,.own _,vI _ _,vI _ _],vI _ _]) Z)<|pq 5 (qxX (.agg [.own _,.own _,vI _ _,vI _ _]) Z)<|pq 6 (qxI Z)<|vst 7 Z (zA 2009 ty.ze36 Z) (.inr Z)<|vst 8 Z (zB 2009 ty.co36 ty.inf36 Z) (.inl Z) ?_
     refine fTt (([]++(famD vs1 us1 x.disk++famD vs2 us2 (lgAddL x e).disk))) [2,3,4,6,7,8,9,37] [11,12,21,22,2002,2003,2006,2008,2009] ?_
     refine vq 9 (raI Z)<|fD<|gT<|aS<|aS ?_
     rw[List.nil_append]
     have hrf2:rowF (famD vs1 us1 x.disk++famD vs2 us2 (lgAddL x e).disk):=rowF.app famD_row famD_row
     have hFl2:=famD_len hv2 hu2
     refine aL<|loX (.agg [.own _,.own _,vI _ _,vI _ _]) ty.kd36 Z<|loX (.agg [vL _ _ _,vL _ _ _,vI _ _,vI _ _]) ty.kd36 Z<|lst (zLN Try.func14 (eqLog_e (lgAddL x e) hz2.e) rfl (.cons (rdLog (vs:=vs2) (us:=us2) (d:=(lgAddL x e).disk) (s:=(famD vs1 us1 x.disk).length) tlp rfl rfl hv2 hu2 at_last) (.cons (Reads.lend rfl) .nil))) Z<|luZ Z<|lsB 41 false rfl (by first|(simp;done)|(simp;omega))<|lmZ Z<|lmI Z<|lmI Z<|lbB Z<|lsB 45 false rfl (by first|(simp;done)|(simp;omega))<|lkZ Z<|nG<|aN Z<|aK<|gT<|aS<|aS<|aF []<|sq 0 (roX (.agg [.own _,.own _,vI _ _,vI _ _]) ty.kd36 rfl)<|vq 1 (roX (.agg [vL _ _ _,vL _ _ _,vI _ _,vI _ _]) ty.kd27 rfl)<|vst 2 rfl (zC [] [] [] Try.func11 (toLog_f x hz) (trivial) rfl rfl) (.inr rfl)<|vst 3 rfl (zLN Try.func14 (eqLog_e x hz.e) rfl (.cons (rdLog (vs:=vs1) (us:=us1) (d:=x.disk) (s:=0) tlp rfl rfl hv1 hu1 (fun j hj=>by rw[Nat.zero_add,List.getElem?_append_left hj])) (.cons (Reads.lend rfl) .nil))) (.inr rfl) ?_
     refine fTt ((famD vs1 us1 x.disk++famD vs2 us2 (lgAddL x e).disk)) [2,3,4,6,7,8,9,10,50] [11,12,21,22,2002,2003,2006,2008,2009] ?_
     refine vq 4 (ruZ rfl)<|fsB 51 false rfl (by first|(simp;done)|(simp;omega))<|fD<|gT<|aN Z<|aK<|gA<|laI Z<|nA<|loX (.agg [.own _,.own _,vI _ _,vI _ _]) ty.kd36 Z<|lmI rfl ?_
     refine AL.stx (StX.callN (F:=(famD vs1 us1 x.disk++famD vs2 us2 (lgAddL x e).disk)) [(1,11),(2,12)] [] [1,2] 0 Try.func15 (markLog_e u11 u12 vs1 us1 x.disk (famD vs2 us2 (lgAddL x e).disk) 1 hv1 hu1 famD_row (by rw[hFl2];omega) hz (by omega) x.next x.epoch) tlp List.drop_zero List.take_zero (Nat.zero_le _) ((by rw[List.length_append,hFl,hFl2];omega)) ((fun y l F ⟨_,e2,_⟩=>by subst e2;exact⟨stays.arr rfl,stays.arr (by show (rowsWV us1 (mkG mWr gWr _ _)).length=_;rw[rowsWV_len (by rw[mkG_len];exact hu1),mkG_len,rowsWV_len hu1]),trivial⟩)) rfl rfl) rfl ?_
     rintro _ _ ⟨xz37,oz37,Fz37,hz37,hF37,hM37,rfl,rfl⟩
     obtain⟨rfl,rfl,rfl⟩:=hz37
     have hrf37:rowF ([]++(famD vs1 us1 (mkDk x.disk 1)++famD vs2 us2 (lgAddL x e).disk)):=rowF.app (by first|assumption|exact rowF.nil) hF37
     refine laI Z<|nG<|aS<|aS ?_
     rw[List.nil_append]
     have hrA:rowF (famD vs1 us1 (mkDk x.disk 1)):=famD_row
     have hrf3:rowF (famD vs1 us1 (mkDk x.disk 1)++famD vs2 us2 (lgAddL x e).disk):=rowF.app famD_row famD_row
     refine aL<|lmI Z<|lbB Z<|lsB 56 false rfl (by first|(simp;done)|(simp;omega))<|lmZ Z<|loX (.agg [.own _,.own _,vI _ _,vI _ _]) ty.kd36 Z<|loX (.agg [vL _ _ _,vL _ _ _,vI _ _,vI _ _]) ty.kd36 Z<|lst (zLN Try.func14 (eqLog_e (lgAddL x e) hz2.e) rfl (.cons (rdLog (vs:=vs2) (us:=us2) (d:=(lgAddL x e).disk) (s:=(famD vs1 us1 (mkDk x.disk 1)).length) tlp rfl rfl hv2 hu2 at_last) (.cons (Reads.lend rfl) .nil))) Z<|luZ Z<|lsB 61 false rfl (by first|(simp;done)|(simp;omega))<|lkZ Z<|lmZ Z<|lmI Z<|lmI Z<|lbB Z<|lsB 66 false rfl (by first|(simp;done)|(simp;omega))<|lkZ Z<|nG<|aN Z<|aK<|gA<|laI Z<|nG<|aS ?_
     refine AW.pinA 21 rfl ?_
     intro u21
     refine AW.pinA 22 rfl ?_
     intro u22
     rw[←List.append_nil (famD vs2 us2 (lgAddL x e).disk)]
     have hrf4:rowF (famD vs1 us1 (mkDk x.disk 1)++(famD vs2 us2 (lgAddL x e).disk++[])):=rowF.app famD_row (rowF.app famD_row rowF.nil)
     refine aL<|loX (.agg [.own _,.own _,vI _ _,vI _ _]) ty.kd36 Z<|lmI Z ?_
     refine AL.stx (StX.callN (F:=(famD vs1 us1 (mkDk x.disk 1)++(famD vs2 us2 (lgAddL x e).disk++[]))) [(1,21),(2,22)] [] [1,2] (famD vs1 us1 (mkDk x.disk 1)).length Try.func15 (markLog_e u21 u22 vs2 us2 (lgAddL x e).disk [] 1 hv2 hu2 rowF.nil (by simp) hz2 (by omega) (lgAddL x e).next (lgAddL x e).epoch) tlp List.drop_left List.take_left (by simp) ((by rw[List.length_append,List.append_nil,hFl2,famD_len (d:=mkDk x.disk 1) (by show _=(mkG mCe gCe _ _).length;rw[mkG_len];exact hv1) (by show _=(mkG mWr gWr _ _).length;rw[mkG_len];exact hu1)];show (mkG mCe gCe _ _).length+(mkG mWr gWr _ _).length+_≤_;rw[mkG_len,mkG_len];omega)) ((fun y l F ⟨_,e2,_⟩=>by subst e2;exact⟨stays.arr rfl,stays.arr (by show (rowsWV us2 (mkG mWr gWr _ _)).length=_;rw[rowsWV_len (by rw[mkG_len];exact hu2),mkG_len,rowsWV_len hu2]),trivial⟩)) rfl rfl) rfl ?_
     rintro _ _ ⟨xz38,oz38,Fz38,hz38,hF38,hM38,rfl,rfl⟩
     obtain⟨rfl,rfl,rfl⟩:=hz38
     have hrf38:rowF (famD vs1 us1 (mkDk x.disk 1)++(famD vs2 us2 (mkDk (lgAddL x e).disk 1)++[])):=rowF.app (by first|assumption|exact rowF.nil) hF38
     refine lTt ((famD vs1 us1 (mkDk x.disk 1)++(famD vs2 us2 (mkDk (lgAddL x e).disk 1)++[]))) [2,3,4,6,7,9,12,70] [21,22,2002,2003,2006,2009] ?_
     refine laI Z<|nG<|aS ?_
     rw[List.append_nil (famD vs2 us2 (mkDk (lgAddL x e).disk 1))]
     have hrf5:rowF (famD vs1 us1 (mkDk x.disk 1)++famD vs2 us2 (mkDk (lgAddL x e).disk 1)):=rowF.app famD_row famD_row
     refine aL<|laI Z<|nA<|loX (.agg [.own _,.own _,vI _ _,vI _ _]) ty.kd36 Z<|lmI Z<|lst (zLN Try.func16 (heldLog_e (lgAddL x e) 1 hz2.m (by omega)) rfl (.cons (rdLog (vs:=vs2) (us:=us2) (d:=mkDk (lgAddL x e).disk 1) (s:=(famD vs1 us1 (mkDk x.disk 1)).length) tlp rfl rfl (by show _=(mkG mCe gCe _ _).length;rw[mkG_len];exact hv2) (by show _=(mkG mWr gWr _ _).length;rw[mkG_len];exact hu2) at_last) (.cons (Reads.lend rfl) .nil))) Z<|laI Z<|nG<|aS<|sL<|lmI Z<|lbB Z<|lsB 75 false rfl (by first|(simp;done)|(simp;omega))<|nG<|aN Z<|aK<|gT<|aS<|sL<|lmI Z<|lmI Z<|lbB Z<|lsB 78 false rfl (by first|(simp;done)|(simp;omega)) ?_
     refine nG<|aN Z<|aK<|gT<|aS<|aF [9]<|sq 0 (roX (.agg [vL _ _ _,vL _ _ _,vI _ _,vI _ _]) ty.kd27 Z)<|sq 2 (roX (.agg [vI _ _,vI _ _,vI _ _,vI _ _,vI _ _,vI _ _,vB _]) ty.kd29 Z) ?_
     refine AF.two (i:=1) (j:=8) (by kernel_rfl) ?_ ?_
     ·refine v1 1 rfl (zC [] [] [] Try.func11 (toLog_f x hz) (trivial) rfl rfl) (.inr rfl) ?_
      refine fTt ((famD vs1 us1 (mkDk x.disk 1)++famD vs2 us2 (mkDk (lgAddL x e).disk 1))) [4,6,7,9,12,13,81,82] [21,22,2006,2009] ?_
      refine AF.two (i:=3) (j:=8) (by kernel_rfl) ?_ ?_
      ·refine v1 3 rfl (zL Try.func12 (toEvent_e e) rfl) (.inr rfl) ?_
       refine AF.two (i:=4) (j:=8) (by kernel_rfl) ?_ ?_
       ·refine v1 4 rfl (zC [] [] [] Try.func13 (logAdd_f x e) (trivial) rfl rfl) (.inr rfl)<|pq 5 (qmX (.tup [.agg [vL _ _ _,vL _ _ _,vI _ _,vI _ _],vI _ _]) rfl)<|pq 6 (qxX (.agg [vL _ _ _,vL _ _ _,vI _ _,vI _ _]) rfl)<|pq 7 (qxI rfl)<|vst 8 rfl (zA 2014 ty.ze36 rfl) (.inr rfl)<|vst 9 rfl (zB 2014 ty.co36 ty.inf36 rfl) (.inl rfl)<|vq 10 (raI rfl)<|fD<|gT<|aS<|sL<|loX (.agg [vL _ _ _,vL _ _ _,vI _ _,vI _ _]) ty.kd36 Z<|loX (.agg [vL _ _ _,vL _ _ _,vI _ _,vI _ _]) ty.kd36 Z<|lst (zL Try.func14 (eqLog_e (lgAddL x e) hz2.e) rfl) Z<|luZ Z<|lsB 90 false rfl (by first|(simp;done)|(simp;omega))<|lmZ Z<|lmI Z<|lmI Z<|lbB Z<|lsB 94 false rfl (by first|(simp;done)|(simp;omega))<|lkZ Z<|nG<|aN Z<|aK<|gA ?_
        refine laI Z<|nA<|loX (.agg [.own _,.own _,vI _ _,vI _ _]) ty.kd36 Z<|lmI Z<|lst (zLN Try.func16 (heldLog_e (lgAddL x e) 1 hz2.m (by omega)) rfl (.cons (rdLog (vs:=vs2) (us:=us2) (d:=mkDk (lgAddL x e).disk 1) (s:=(famD vs1 us1 (mkDk x.disk 1)).length) tlp rfl rfl (by show _=(mkG mCe gCe _ _).length;rw[mkG_len];exact hv2) (by show _=(mkG mWr gWr _ _).length;rw[mkG_len];exact hu2) at_last) (.cons (Reads.lend rfl) .nil))) rfl ?_
        refine lTt ((famD vs1 us1 (mkDk x.disk 1)++famD vs2 us2 (mkDk (lgAddL x e).disk 1))) [4,12,13,98] [] ?_
        refine laI Z<|nG<|aS<|sL<|lmI Z<|lbB Z<|lsB 100 false rfl (by first|(simp;done)|(simp;omega))<|nG<|aN Z<|aK<|gT<|aS<|sL<|lmI Z<|lmI Z<|lbB Z<|lsB 103 false rfl (by first|(simp;done)|(simp;omega))<|nG<|aN Z<|aK<|gA<|laT Z<|lN ?_
        refine gT<|aR ?_
        refine end_ret ?_ trivial
        rfl
       ·refine v1 8 Z (zA 2014 ty.ze36 Z) (.inr Z)<|vst 4 Z (zC [] [] [] Try.func13 (logAdd_f x e) (trivial) Z Z) (.inr Z)<|vq 5 (rmX (.tup [.agg [vL _ _ _,vL _ _ _,vI _ _,vI _ _],vI _ _]) Z)<|pq 6 (qxX (.agg [vL _ _ _,vL _ _ _,vI _ _,vI _ _]) Z)<|pq 7 (qxI Z)<|vst 9 Z (zB 2014 ty.co36 ty.inf36 Z) (.inl Z)<|vq 10 (raI Z)<|fD<|gT<|aS<|sL<|loX (.agg [vL _ _ _,vL _ _ _,vI _ _,vI _ _]) ty.kd36 Z<|loX (.agg [vL _ _ _,vL _ _ _,vI _ _,vI _ _]) ty.kd36 Z<|lst (zL Try.func14 (eqLog_e (lgAddL x e) hz2.e) Z) Z ?_
        refine lTt ((famD vs1 us1 (mkDk x.disk 1)++famD vs2 us2 (mkDk (lgAddL x e).disk 1))) [4,7,9,12,13,15,89] [21,22,2009] ?_
        refine luZ Z<|lsB 90 false rfl (by first|(simp;done)|(simp;omega))<|lmZ Z<|lmI Z<|lmI Z<|lbB Z<|lsB 94 false rfl (by first|(simp;done)|(simp;omega))<|lkZ Z<|nG<|aN Z<|aK<|gA<|laI Z<|nA<|loX (.agg [.own _,.own _,vI _ _,vI _ _]) ty.kd36 Z<|lmI Z<|lst (zLN Try.func16 (heldLog_e (lgAddL x e) 1 hz2.m (by omega)) rfl (.cons (rdLog (vs:=vs2) (us:=us2) (d:=mkDk (lgAddL x e).disk 1) (s:=(famD vs1 us1 (mkDk x.disk 1)).length) tlp rfl rfl (by show _=(mkG mCe gCe _ _).length;rw[mkG_len];exact hv2) (by show _=(mkG mWr gWr _ _).length;rw[mkG_len];exact hu2) at_last) (.cons (Reads.lend rfl) .nil))) Z<|laI Z<|nG<|aS<|sL<|lmI rfl ?_
        refine lbB Z<|lsB 100 false rfl (by first|(simp;done)|(simp;omega))<|nG<|aN Z<|aK<|gT<|aS<|sL<|lmI Z<|lmI Z<|lbB Z<|lsB 103 false rfl (by first|(simp;done)|(simp;omega))<|nG<|aN Z<|aK<|gA<|laT Z<|nG<|aR ?_
        refine end_ret ?_ trivial
        rfl
      ·refine v1 8 rfl (zA 2014 ty.ze36 rfl) (.inr rfl) ?_
       refine fTt ((famD vs1 us1 (mkDk x.disk 1)++famD vs2 us2 (mkDk (lgAddL x e).disk 1))) [4,6,7,9,12,13,14,81,82] [21,22,2006,2009,2014] ?_
       refine vst 3 rfl (zL Try.func12 (toEvent_e e) rfl) (.inr rfl)<|vst 4 rfl (zC [] [] [] Try.func13 (logAdd_f x e) (trivial) rfl rfl) (.inr rfl)<|vq 5 (rmX (.tup [.agg [vL _ _ _,vL _ _ _,vI _ _,vI _ _],vI _ _]) rfl)<|pq 6 (qxX (.agg [vL _ _ _,vL _ _ _,vI _ _,vI _ _]) rfl)<|pq 7 (qxI rfl)<|vst 9 rfl (zB 2014 ty.co36 ty.inf36 rfl) (.inl rfl)<|vq 10 (raI rfl)<|fD<|gT<|aS<|sL<|loX (.agg [vL _ _ _,vL _ _ _,vI _ _,vI _ _]) ty.kd36 Z<|loX (.agg [vL _ _ _,vL _ _ _,vI _ _,vI _ _]) ty.kd36 Z<|lst (zL Try.func14 (eqLog_e (lgAddL x e) hz2.e) rfl) Z<|luZ Z<|lsB 90 false rfl (by first|(simp;done)|(simp;omega))<|lmZ Z<|lmI Z<|lmI Z<|lbB Z<|lsB 94 false rfl (by first|(simp;done)|(simp;omega))<|lkZ Z<|nG<|aN Z<|aK<|gA ?_
       refine laI Z<|nA<|loX (.agg [.own _,.own _,vI _ _,vI _ _]) ty.kd36 Z<|lmI Z<|lst (zLN Try.func16 (heldLog_e (lgAddL x e) 1 hz2.m (by omega)) rfl (.cons (rdLog (vs:=vs2) (us:=us2) (d:=mkDk (lgAddL x e).disk 1) (s:=(famD vs1 us1 (mkDk x.disk 1)).length) tlp rfl rfl (by show _=(mkG mCe gCe _ _).length;rw[mkG_len];exact hv2) (by show _=(mkG mWr gWr _ _).length;rw[mkG_len];exact hu2) at_last) (.cons (Reads.lend rfl) .nil))) rfl ?_
       refine lTt ((famD vs1 us1 (mkDk x.disk 1)++famD vs2 us2 (mkDk (lgAddL x e).disk 1))) [4,12,13,98] [] ?_
       refine laI Z<|nG<|aS<|sL<|lmI Z<|lbB Z<|lsB 100 false rfl (by first|(simp;done)|(simp;omega))<|nG<|aN Z<|aK<|gT<|aS<|sL<|lmI Z<|lmI Z<|lbB Z<|lsB 103 false rfl (by first|(simp;done)|(simp;omega))<|nG<|aN Z<|aK<|gA<|laT Z<|lN ?_
       refine gT<|aR ?_
       refine end_ret ?_ trivial
       rfl
     ·refine v1 8 Z (zA 2014 ty.ze36 Z) (.inr Z)<|vst 1 Z (zC [] [] [] Try.func11 (toLog_f x hz) (trivial) Z Z) (.inr Z)<|vst 3 Z (zL Try.func12 (toEvent_e e) Z) (.inr Z)<|vst 4 Z (zC [] [] [] Try.func13 (logAdd_f x e) (trivial) Z Z) (.inr Z)<|vq 5 (rmX (.tup [.agg [vL _ _ _,vL _ _ _,vI _ _,vI _ _],vI _ _]) Z)<|pq 6 (qxX (.agg [vL _ _ _,vL _ _ _,vI _ _,vI _ _]) Z)<|pq 7 (qxI Z)<|vst 9 Z (zB 2014 ty.co36 ty.inf36 Z) (.inl Z) ?_
      refine fTt ((famD vs1 us1 (mkDk x.disk 1)++famD vs2 us2 (mkDk (lgAddL x e).disk 1))) [4,6,7,9,12,13,14,86] [21,22,2006,2009,2014] ?_
      refine vq 10 (raI rfl)<|fD<|gT<|aS<|sL<|loX (.agg [vL _ _ _,vL _ _ _,vI _ _,vI _ _]) ty.kd36 Z<|loX (.agg [vL _ _ _,vL _ _ _,vI _ _,vI _ _]) ty.kd36 Z<|lst (zL Try.func14 (eqLog_e (lgAddL x e) hz2.e) rfl) Z<|luZ Z<|lsB 90 false rfl (by first|(simp;done)|(simp;omega))<|lmZ Z<|lmI Z<|lmI Z<|lbB Z<|lsB 94 false rfl (by first|(simp;done)|(simp;omega))<|lkZ Z<|nG<|aN Z<|aK<|gA<|laI Z<|nA<|loX (.agg [.own _,.own _,vI _ _,vI _ _]) ty.kd36 rfl ?_
      refine lmI Z<|lst (zLN Try.func16 (heldLog_e (lgAddL x e) 1 hz2.m (by omega)) rfl (.cons (rdLog (vs:=vs2) (us:=us2) (d:=mkDk (lgAddL x e).disk 1) (s:=(famD vs1 us1 (mkDk x.disk 1)).length) tlp rfl rfl (by show _=(mkG mCe gCe _ _).length;rw[mkG_len];exact hv2) (by show _=(mkG mWr gWr _ _).length;rw[mkG_len];exact hu2) at_last) (.cons (Reads.lend rfl) .nil))) rfl ?_
      refine lTt ((famD vs1 us1 (mkDk x.disk 1)++famD vs2 us2 (mkDk (lgAddL x e).disk 1))) [4,12,13,98] [] ?_
      refine laI Z<|nG<|aS<|sL<|lmI Z<|lbB Z<|lsB 100 false rfl (by first|(simp;done)|(simp;omega))<|nG<|aN Z<|aK<|gT<|aS<|sL<|lmI Z<|lmI Z<|lbB Z<|lsB 103 false rfl (by first|(simp;done)|(simp;omega))<|nG<|aN Z<|aK<|gA<|laT Z<|lN ?_
      refine gT<|aR ?_
      refine end_ret ?_ trivial
      rfl
    ·refine v1 7 rfl (zA 2009 ty.ze36 rfl) (.inr rfl) ?_
     refine AF.stx (i:=3) rfl (by kernel_rfl) (StX.callN (F:=(famD vs1 us1 x.disk)) [(1,21),(2,22),(4,11),(5,12)] [21,22] [4,5] 0 Try.func13 (lentAd u11 u12 vs1 us1 x e hz hv1 hu1) tlp List.drop_zero List.take_zero (Nat.zero_le _) ((by rw[hFl];omega)) ((fun y l F ⟨_,_,_,_,_,e2,_⟩=>by subst e2;exact⟨stays.arr rfl,stays.arr rfl,trivial⟩)) rfl rfl) (.inl rfl) rfl ?_
     rintro _ _ ⟨xz39,oz39,Fz39,hz39,hF39,hM39,rfl,rfl⟩
     obtain⟨vs2,us2,hv2,hu2,rfl,rfl,rfl⟩:=hz39
     have hrf39:rowF ([]++(famD vs1 us1 x.disk++famD vs2 us2 (lgAddL x e).disk)):=rowF.app (by first|assumption|exact rowF.nil) hF39
     refine vq 4 (rmX (.tup [.agg [.own _,.own _,vI _ _,vI _ _],vI _ _]) Z)<|pq 5 (qxX (.agg [.own _,.own _,vI _ _,vI _ _]) Z)<|pq 6 (qxI Z)<|vst 8 Z (zB 2009 ty.co36 ty.inf36 Z) (.inl Z)<|vq 9 (raI Z)<|fD<|gT<|aS<|aS ?_
     rw[List.nil_append]
     have hrf2:rowF (famD vs1 us1 x.disk++famD vs2 us2 (lgAddL x e).disk):=rowF.app famD_row famD_row
     have hFl2:=famD_len hv2 hu2
     refine aL<|loX (.agg [.own _,.own _,vI _ _,vI _ _]) ty.kd36 Z<|loX (.agg [vL _ _ _,vL _ _ _,vI _ _,vI _ _]) ty.kd36 Z<|lst (zLN Try.func14 (eqLog_e (lgAddL x e) hz2.e) Z (.cons (rdLog (vs:=vs2) (us:=us2) (d:=(lgAddL x e).disk) (s:=(famD vs1 us1 x.disk).length) tlp Z Z hv2 hu2 at_last) (.cons (Reads.lend Z) .nil))) Z ?_
     refine lTt ((famD vs1 us1 x.disk++famD vs2 us2 (lgAddL x e).disk)) [2,3,4,6,7,8,9,10,40] [11,12,21,22,2002,2003,2006,2008,2009] ?_
     refine luZ Z<|lsB 41 false rfl (by first|(simp;done)|(simp;omega))<|lmZ Z<|lmI Z<|lmI Z<|lbB Z<|lsB 45 false rfl (by first|(simp;done)|(simp;omega))<|lkZ Z<|nG<|aN Z<|aK<|gT<|aS<|aS<|aF []<|sq 0 (roX (.agg [.own _,.own _,vI _ _,vI _ _]) ty.kd36 rfl)<|vq 1 (roX (.agg [vL _ _ _,vL _ _ _,vI _ _,vI _ _]) ty.kd27 rfl)<|vst 2 rfl (zC [] [] [] Try.func11 (toLog_f x hz) (trivial) rfl rfl) (.inr rfl)<|vst 3 rfl (zLN Try.func14 (eqLog_e x hz.e) rfl (.cons (rdLog (vs:=vs1) (us:=us1) (d:=x.disk) (s:=0) tlp rfl rfl hv1 hu1 (fun j hj=>by rw[Nat.zero_add,List.getElem?_append_left hj])) (.cons (Reads.lend rfl) .nil))) (.inr rfl)<|vq 4 (ruZ rfl)<|fsB 51 false rfl (by first|(simp;done)|(simp;omega))<|fD<|gT<|aN Z<|aK<|gA<|laI rfl ?_
     refine nA<|loX (.agg [.own _,.own _,vI _ _,vI _ _]) ty.kd36 Z<|lmI Z ?_
     refine AL.stx (StX.callN (F:=(famD vs1 us1 x.disk++famD vs2 us2 (lgAddL x e).disk)) [(1,11),(2,12)] [] [1,2] 0 Try.func15 (markLog_e u11 u12 vs1 us1 x.disk (famD vs2 us2 (lgAddL x e).disk) 1 hv1 hu1 famD_row (by rw[hFl2];omega) hz (by omega) x.next x.epoch) tlp List.drop_zero List.take_zero (Nat.zero_le _) ((by rw[List.length_append,hFl,hFl2];omega)) ((fun y l F ⟨_,e2,_⟩=>by subst e2;exact⟨stays.arr rfl,stays.arr (by show (rowsWV us1 (mkG mWr gWr _ _)).length=_;rw[rowsWV_len (by rw[mkG_len];exact hu1),mkG_len,rowsWV_len hu1]),trivial⟩)) rfl rfl) rfl ?_
     rintro _ _ ⟨xz40,oz40,Fz40,hz40,hF40,hM40,rfl,rfl⟩
     obtain⟨rfl,rfl,rfl⟩:=hz40
     have hrf40:rowF ([]++(famD vs1 us1 (mkDk x.disk 1)++famD vs2 us2 (lgAddL x e).disk)):=rowF.app (by first|assumption|exact rowF.nil) hF40
     refine lTt (([]++(famD vs1 us1 (mkDk x.disk 1)++famD vs2 us2 (lgAddL x e).disk))) [2,3,4,6,7,9,10,11,54] [21,22,2002,2003,2006,2009] ?_
     refine laI Z<|nG<|aS<|aS ?_
     rw[List.nil_append]
     have hrA:rowF (famD vs1 us1 (mkDk x.disk 1)):=famD_row
     have hrf3:rowF (famD vs1 us1 (mkDk x.disk 1)++famD vs2 us2 (lgAddL x e).disk):=rowF.app famD_row famD_row
     refine aL<|lmI Z<|lbB Z<|lsB 56 false rfl (by first|(simp;done)|(simp;omega))<|lmZ Z<|loX (.agg [.own _,.own _,vI _ _,vI _ _]) ty.kd36 Z<|loX (.agg [vL _ _ _,vL _ _ _,vI _ _,vI _ _]) ty.kd36 Z<|lst (zLN Try.func14 (eqLog_e (lgAddL x e) hz2.e) rfl (.cons (rdLog (vs:=vs2) (us:=us2) (d:=(lgAddL x e).disk) (s:=(famD vs1 us1 (mkDk x.disk 1)).length) tlp rfl rfl hv2 hu2 at_last) (.cons (Reads.lend rfl) .nil))) Z<|luZ Z<|lsB 61 false rfl (by first|(simp;done)|(simp;omega))<|lkZ Z<|lmZ Z<|lmI Z<|lmI Z<|lbB Z<|lsB 66 false rfl (by first|(simp;done)|(simp;omega))<|lkZ Z<|nG<|aN Z<|aK<|gA<|laI Z<|nG<|aS ?_
     refine AW.pinA 21 rfl ?_
     intro u21
     refine AW.pinA 22 rfl ?_
     intro u22
     rw[←List.append_nil (famD vs2 us2 (lgAddL x e).disk)]
     have hrf4:rowF (famD vs1 us1 (mkDk x.disk 1)++(famD vs2 us2 (lgAddL x e).disk++[])):=rowF.app famD_row (rowF.app famD_row rowF.nil)
     refine aL<|loX (.agg [.own _,.own _,vI _ _,vI _ _]) ty.kd36 Z<|lmI Z ?_
     refine AL.stx (StX.callN (F:=(famD vs1 us1 (mkDk x.disk 1)++(famD vs2 us2 (lgAddL x e).disk++[]))) [(1,21),(2,22)] [] [1,2] (famD vs1 us1 (mkDk x.disk 1)).length Try.func15 (markLog_e u21 u22 vs2 us2 (lgAddL x e).disk [] 1 hv2 hu2 rowF.nil (by simp) hz2 (by omega) (lgAddL x e).next (lgAddL x e).epoch) tlp List.drop_left List.take_left (by simp) ((by rw[List.length_append,List.append_nil,hFl2,famD_len (d:=mkDk x.disk 1) (by show _=(mkG mCe gCe _ _).length;rw[mkG_len];exact hv1) (by show _=(mkG mWr gWr _ _).length;rw[mkG_len];exact hu1)];show (mkG mCe gCe _ _).length+(mkG mWr gWr _ _).length+_≤_;rw[mkG_len,mkG_len];omega)) ((fun y l F ⟨_,e2,_⟩=>by subst e2;exact⟨stays.arr rfl,stays.arr (by show (rowsWV us2 (mkG mWr gWr _ _)).length=_;rw[rowsWV_len (by rw[mkG_len];exact hu2),mkG_len,rowsWV_len hu2]),trivial⟩)) rfl rfl) rfl ?_
     rintro _ _ ⟨xz41,oz41,Fz41,hz41,hF41,hM41,rfl,rfl⟩
     obtain⟨rfl,rfl,rfl⟩:=hz41
     have hrf41:rowF (famD vs1 us1 (mkDk x.disk 1)++(famD vs2 us2 (mkDk (lgAddL x e).disk 1)++[])):=rowF.app (by first|assumption|exact rowF.nil) hF41
     refine lTt ((famD vs1 us1 (mkDk x.disk 1)++(famD vs2 us2 (mkDk (lgAddL x e).disk 1)++[]))) [2,3,4,6,7,9,12,70] [21,22,2002,2003,2006,2009] ?_
     refine laI Z<|nG<|aS ?_
     rw[List.append_nil (famD vs2 us2 (mkDk (lgAddL x e).disk 1))]
     have hrf5:rowF (famD vs1 us1 (mkDk x.disk 1)++famD vs2 us2 (mkDk (lgAddL x e).disk 1)):=rowF.app famD_row famD_row
     refine aL<|laI Z<|nA<|loX (.agg [.own _,.own _,vI _ _,vI _ _]) ty.kd36 Z<|lmI Z<|lst (zLN Try.func16 (heldLog_e (lgAddL x e) 1 hz2.m (by omega)) rfl (.cons (rdLog (vs:=vs2) (us:=us2) (d:=mkDk (lgAddL x e).disk 1) (s:=(famD vs1 us1 (mkDk x.disk 1)).length) tlp rfl rfl (by show _=(mkG mCe gCe _ _).length;rw[mkG_len];exact hv2) (by show _=(mkG mWr gWr _ _).length;rw[mkG_len];exact hu2) at_last) (.cons (Reads.lend rfl) .nil))) Z<|laI Z<|nG<|aS<|sL<|lmI Z<|lbB Z<|lsB 75 false rfl (by first|(simp;done)|(simp;omega))<|nG<|aN Z<|aK<|gT<|aS<|sL<|lmI Z<|lmI Z<|lbB Z<|lsB 78 false rfl (by first|(simp;done)|(simp;omega)) ?_
     refine nG<|aN Z<|aK<|gT<|aS<|aF [9]<|sq 0 (roX (.agg [vL _ _ _,vL _ _ _,vI _ _,vI _ _]) ty.kd27 Z)<|sq 2 (roX (.agg [vI _ _,vI _ _,vI _ _,vI _ _,vI _ _,vI _ _,vB _]) ty.kd29 Z) ?_
     refine AF.two (i:=1) (j:=8) (by kernel_rfl) ?_ ?_
     ·refine v1 1 rfl (zC [] [] [] Try.func11 (toLog_f x hz) (trivial) rfl rfl) (.inr rfl) ?_
      refine fTt ((famD vs1 us1 (mkDk x.disk 1)++famD vs2 us2 (mkDk (lgAddL x e).disk 1))) [4,6,7,9,12,13,81,82] [21,22,2006,2009] ?_
      refine AF.two (i:=3) (j:=8) (by kernel_rfl) ?_ ?_
      ·refine v1 3 rfl (zL Try.func12 (toEvent_e e) rfl) (.inr rfl) ?_
       refine AF.two (i:=4) (j:=8) (by kernel_rfl) ?_ ?_
       ·refine v1 4 rfl (zC [] [] [] Try.func13 (logAdd_f x e) (trivial) rfl rfl) (.inr rfl)<|pq 5 (qmX (.tup [.agg [vL _ _ _,vL _ _ _,vI _ _,vI _ _],vI _ _]) rfl)<|pq 6 (qxX (.agg [vL _ _ _,vL _ _ _,vI _ _,vI _ _]) rfl)<|pq 7 (qxI rfl)<|vst 8 rfl (zA 2014 ty.ze36 rfl) (.inr rfl)<|vst 9 rfl (zB 2014 ty.co36 ty.inf36 rfl) (.inl rfl)<|vq 10 (raI rfl)<|fD<|gT<|aS<|sL<|loX (.agg [vL _ _ _,vL _ _ _,vI _ _,vI _ _]) ty.kd36 Z<|loX (.agg [vL _ _ _,vL _ _ _,vI _ _,vI _ _]) ty.kd36 Z<|lst (zL Try.func14 (eqLog_e (lgAddL x e) hz2.e) rfl) Z<|luZ Z<|lsB 90 false rfl (by first|(simp;done)|(simp;omega))<|lmZ Z<|lmI Z<|lmI Z<|lbB Z<|lsB 94 false rfl (by first|(simp;done)|(simp;omega))<|lkZ Z<|nG<|aN Z<|aK<|gA ?_
        refine laI Z<|nA<|loX (.agg [.own _,.own _,vI _ _,vI _ _]) ty.kd36 Z<|lmI Z<|lst (zLN Try.func16 (heldLog_e (lgAddL x e) 1 hz2.m (by omega)) rfl (.cons (rdLog (vs:=vs2) (us:=us2) (d:=mkDk (lgAddL x e).disk 1) (s:=(famD vs1 us1 (mkDk x.disk 1)).length) tlp rfl rfl (by show _=(mkG mCe gCe _ _).length;rw[mkG_len];exact hv2) (by show _=(mkG mWr gWr _ _).length;rw[mkG_len];exact hu2) at_last) (.cons (Reads.lend rfl) .nil))) rfl ?_
        refine lTt ((famD vs1 us1 (mkDk x.disk 1)++famD vs2 us2 (mkDk (lgAddL x e).disk 1))) [4,12,13,98] [] ?_
        refine laI Z<|nG<|aS<|sL<|lmI Z<|lbB Z<|lsB 100 false rfl (by first|(simp;done)|(simp;omega))<|nG<|aN Z<|aK<|gT<|aS<|sL<|lmI Z<|lmI Z<|lbB Z<|lsB 103 false rfl (by first|(simp;done)|(simp;omega))<|nG<|aN Z<|aK<|gA<|laT Z<|lN ?_
        refine gT<|aR ?_
        refine end_ret ?_ trivial
        rfl
       ·refine v1 8 Z (zA 2014 ty.ze36 Z) (.inr Z)<|vst 4 Z (zC [] [] [] Try.func13 (logAdd_f x e) (trivial) Z Z) (.inr Z)<|vq 5 (rmX (.tup [.agg [vL _ _ _,vL _ _ _,vI _ _,vI _ _],vI _ _]) Z)<|pq 6 (qxX (.agg [vL _ _ _,vL _ _ _,vI _ _,vI _ _]) Z)<|pq 7 (qxI Z)<|vst 9 Z (zB 2014 ty.co36 ty.inf36 Z) (.inl Z)<|vq 10 (raI Z)<|fD<|gT<|aS<|sL<|loX (.agg [vL _ _ _,vL _ _ _,vI _ _,vI _ _]) ty.kd36 Z<|loX (.agg [vL _ _ _,vL _ _ _,vI _ _,vI _ _]) ty.kd36 Z<|lst (zL Try.func14 (eqLog_e (lgAddL x e) hz2.e) Z) Z ?_
        refine lTt ((famD vs1 us1 (mkDk x.disk 1)++famD vs2 us2 (mkDk (lgAddL x e).disk 1))) [4,7,9,12,13,15,89] [21,22,2009] ?_
        refine luZ Z<|lsB 90 false rfl (by first|(simp;done)|(simp;omega))<|lmZ Z<|lmI Z<|lmI Z<|lbB Z<|lsB 94 false rfl (by first|(simp;done)|(simp;omega))<|lkZ Z<|nG<|aN Z<|aK<|gA<|laI Z<|nA<|loX (.agg [.own _,.own _,vI _ _,vI _ _]) ty.kd36 Z<|lmI Z<|lst (zLN Try.func16 (heldLog_e (lgAddL x e) 1 hz2.m (by omega)) rfl (.cons (rdLog (vs:=vs2) (us:=us2) (d:=mkDk (lgAddL x e).disk 1) (s:=(famD vs1 us1 (mkDk x.disk 1)).length) tlp rfl rfl (by show _=(mkG mCe gCe _ _).length;rw[mkG_len];exact hv2) (by show _=(mkG mWr gWr _ _).length;rw[mkG_len];exact hu2) at_last) (.cons (Reads.lend rfl) .nil))) Z<|laI Z<|nG<|aS<|sL<|lmI rfl ?_
        refine lbB Z<|lsB 100 false rfl (by first|(simp;done)|(simp;omega))<|nG<|aN Z<|aK<|gT<|aS<|sL<|lmI Z<|lmI Z<|lbB Z<|lsB 103 false rfl (by first|(simp;done)|(simp;omega))<|nG<|aN Z<|aK<|gA<|laT Z<|nG<|aR ?_
        refine end_ret ?_ trivial
        rfl
      ·refine v1 8 rfl (zA 2014 ty.ze36 rfl) (.inr rfl) ?_
       refine fTt ((famD vs1 us1 (mkDk x.disk 1)++famD vs2 us2 (mkDk (lgAddL x e).disk 1))) [4,6,7,9,12,13,14,81,82] [21,22,2006,2009,2014] ?_
       refine vst 3 rfl (zL Try.func12 (toEvent_e e) rfl) (.inr rfl)<|vst 4 rfl (zC [] [] [] Try.func13 (logAdd_f x e) (trivial) rfl rfl) (.inr rfl)<|vq 5 (rmX (.tup [.agg [vL _ _ _,vL _ _ _,vI _ _,vI _ _],vI _ _]) rfl)<|pq 6 (qxX (.agg [vL _ _ _,vL _ _ _,vI _ _,vI _ _]) rfl)<|pq 7 (qxI rfl)<|vst 9 rfl (zB 2014 ty.co36 ty.inf36 rfl) (.inl rfl)<|vq 10 (raI rfl)<|fD<|gT<|aS<|sL<|loX (.agg [vL _ _ _,vL _ _ _,vI _ _,vI _ _]) ty.kd36 Z<|loX (.agg [vL _ _ _,vL _ _ _,vI _ _,vI _ _]) ty.kd36 Z<|lst (zL Try.func14 (eqLog_e (lgAddL x e) hz2.e) rfl) Z<|luZ Z<|lsB 90 false rfl (by first|(simp;done)|(simp;omega))<|lmZ Z<|lmI Z<|lmI Z<|lbB Z<|lsB 94 false rfl (by first|(simp;done)|(simp;omega))<|lkZ Z<|nG<|aN Z<|aK<|gA ?_
       refine laI Z<|nA<|loX (.agg [.own _,.own _,vI _ _,vI _ _]) ty.kd36 Z<|lmI Z<|lst (zLN Try.func16 (heldLog_e (lgAddL x e) 1 hz2.m (by omega)) rfl (.cons (rdLog (vs:=vs2) (us:=us2) (d:=mkDk (lgAddL x e).disk 1) (s:=(famD vs1 us1 (mkDk x.disk 1)).length) tlp rfl rfl (by show _=(mkG mCe gCe _ _).length;rw[mkG_len];exact hv2) (by show _=(mkG mWr gWr _ _).length;rw[mkG_len];exact hu2) at_last) (.cons (Reads.lend rfl) .nil))) rfl ?_
       refine lTt ((famD vs1 us1 (mkDk x.disk 1)++famD vs2 us2 (mkDk (lgAddL x e).disk 1))) [4,12,13,98] [] ?_
       refine laI Z<|nG<|aS<|sL<|lmI Z<|lbB Z<|lsB 100 false rfl (by first|(simp;done)|(simp;omega))<|nG<|aN Z<|aK<|gT<|aS<|sL<|lmI Z<|lmI Z<|lbB Z<|lsB 103 false rfl (by first|(simp;done)|(simp;omega))<|nG<|aN Z<|aK<|gA<|laT Z<|lN ?_
       refine gT<|aR ?_
       refine end_ret ?_ trivial
       rfl
     ·refine v1 8 Z (zA 2014 ty.ze36 Z) (.inr Z)<|vst 1 Z (zC [] [] [] Try.func11 (toLog_f x hz) (trivial) Z Z) (.inr Z)<|vst 3 Z (zL Try.func12 (toEvent_e e) Z) (.inr Z)<|vst 4 Z (zC [] [] [] Try.func13 (logAdd_f x e) (trivial) Z Z) (.inr Z)<|vq 5 (rmX (.tup [.agg [vL _ _ _,vL _ _ _,vI _ _,vI _ _],vI _ _]) Z)<|pq 6 (qxX (.agg [vL _ _ _,vL _ _ _,vI _ _,vI _ _]) Z)<|pq 7 (qxI Z)<|vst 9 Z (zB 2014 ty.co36 ty.inf36 Z) (.inl Z) ?_
      refine fTt ((famD vs1 us1 (mkDk x.disk 1)++famD vs2 us2 (mkDk (lgAddL x e).disk 1))) [4,6,7,9,12,13,14,86] [21,22,2006,2009,2014] ?_
      refine vq 10 (raI rfl)<|fD<|gT<|aS<|sL<|loX (.agg [vL _ _ _,vL _ _ _,vI _ _,vI _ _]) ty.kd36 Z<|loX (.agg [vL _ _ _,vL _ _ _,vI _ _,vI _ _]) ty.kd36 Z<|lst (zL Try.func14 (eqLog_e (lgAddL x e) hz2.e) rfl) Z<|luZ Z<|lsB 90 false rfl (by first|(simp;done)|(simp;omega))<|lmZ Z<|lmI Z<|lmI Z<|lbB Z<|lsB 94 false rfl (by first|(simp;done)|(simp;omega))<|lkZ Z<|nG<|aN Z<|aK<|gA<|laI Z<|nA<|loX (.agg [.own _,.own _,vI _ _,vI _ _]) ty.kd36 rfl ?_
      refine lmI Z<|lst (zLN Try.func16 (heldLog_e (lgAddL x e) 1 hz2.m (by omega)) rfl (.cons (rdLog (vs:=vs2) (us:=us2) (d:=mkDk (lgAddL x e).disk 1) (s:=(famD vs1 us1 (mkDk x.disk 1)).length) tlp rfl rfl (by show _=(mkG mCe gCe _ _).length;rw[mkG_len];exact hv2) (by show _=(mkG mWr gWr _ _).length;rw[mkG_len];exact hu2) at_last) (.cons (Reads.lend rfl) .nil))) rfl ?_
      refine lTt ((famD vs1 us1 (mkDk x.disk 1)++famD vs2 us2 (mkDk (lgAddL x e).disk 1))) [4,12,13,98] [] ?_
      refine laI Z<|nG<|aS<|sL<|lmI Z<|lbB Z<|lsB 100 false rfl (by first|(simp;done)|(simp;omega))<|nG<|aN Z<|aK<|gT<|aS<|sL<|lmI Z<|lmI Z<|lbB Z<|lsB 103 false rfl (by first|(simp;done)|(simp;omega))<|nG<|aN Z<|aK<|gA<|laT Z<|lN ?_
      refine gT<|aR ?_
      refine end_ret ?_ trivial
      rfl
   ·refine v1 7 Z (zA 2009 ty.ze36 Z) (.inr Z)<|vst 2 Z (zL Try.func12 (toEvent_e e) Z) (.inr Z) ?_
    refine AF.stx (i:=3) rfl (by kernel_rfl) (StX.callN (F:=(famD vs1 us1 x.disk)) [(1,21),(2,22),(4,11),(5,12)] [21,22] [4,5] 0 Try.func13 (lentAd u11 u12 vs1 us1 x e hz hv1 hu1) tlp List.drop_zero List.take_zero (Nat.zero_le _) ((by rw[hFl];omega)) ((fun y l F ⟨_,_,_,_,_,e2,_⟩=>by subst e2;exact⟨stays.arr rfl,stays.arr rfl,trivial⟩)) rfl rfl) (.inl rfl) rfl ?_
    rintro _ _ ⟨xz42,oz42,Fz42,hz42,hF42,hM42,rfl,rfl⟩
    obtain⟨vs2,us2,hv2,hu2,rfl,rfl,rfl⟩:=hz42
    have hrf42:rowF ([]++(famD vs1 us1 x.disk++famD vs2 us2 (lgAddL x e).disk)):=rowF.app (by first|assumption|exact rowF.nil) hF42
    refine vq 4 (rmX (.tup [.agg [.own _,.own _,vI _ _,vI _ _],vI _ _]) Z)<|pq 5 (qxX (.agg [.own _,.own _,vI _ _,vI _ _]) Z)<|pq 6 (qxI Z)<|vst 8 Z (zB 2009 ty.co36 ty.inf36 Z) (.inl Z) ?_
    refine fTt (([]++(famD vs1 us1 x.disk++famD vs2 us2 (lgAddL x e).disk))) [2,3,4,6,7,8,9,37] [11,12,21,22,2002,2003,2006,2008,2009] ?_
    refine vq 9 (raI Z)<|fD<|gT<|aS<|aS ?_
    rw[List.nil_append]
    have hrf2:rowF (famD vs1 us1 x.disk++famD vs2 us2 (lgAddL x e).disk):=rowF.app famD_row famD_row
    have hFl2:=famD_len hv2 hu2
    refine aL<|loX (.agg [.own _,.own _,vI _ _,vI _ _]) ty.kd36 Z<|loX (.agg [vL _ _ _,vL _ _ _,vI _ _,vI _ _]) ty.kd36 Z<|lst (zLN Try.func14 (eqLog_e (lgAddL x e) hz2.e) rfl (.cons (rdLog (vs:=vs2) (us:=us2) (d:=(lgAddL x e).disk) (s:=(famD vs1 us1 x.disk).length) tlp rfl rfl hv2 hu2 at_last) (.cons (Reads.lend rfl) .nil))) Z<|luZ Z<|lsB 41 false rfl (by first|(simp;done)|(simp;omega))<|lmZ Z<|lmI Z<|lmI Z<|lbB Z<|lsB 45 false rfl (by first|(simp;done)|(simp;omega))<|lkZ Z<|nG<|aN Z<|aK<|gT<|aS<|aS<|aF []<|sq 0 (roX (.agg [.own _,.own _,vI _ _,vI _ _]) ty.kd36 rfl)<|vq 1 (roX (.agg [vL _ _ _,vL _ _ _,vI _ _,vI _ _]) ty.kd27 rfl)<|vst 2 rfl (zC [] [] [] Try.func11 (toLog_f x hz) (trivial) rfl rfl) (.inr rfl)<|vst 3 rfl (zLN Try.func14 (eqLog_e x hz.e) rfl (.cons (rdLog (vs:=vs1) (us:=us1) (d:=x.disk) (s:=0) tlp rfl rfl hv1 hu1 (fun j hj=>by rw[Nat.zero_add,List.getElem?_append_left hj])) (.cons (Reads.lend rfl) .nil))) (.inr rfl) ?_
    refine fTt ((famD vs1 us1 x.disk++famD vs2 us2 (lgAddL x e).disk)) [2,3,4,6,7,8,9,10,50] [11,12,21,22,2002,2003,2006,2008,2009] ?_
    refine vq 4 (ruZ rfl)<|fsB 51 false rfl (by first|(simp;done)|(simp;omega))<|fD<|gT<|aN Z<|aK<|gA<|laI Z<|nA<|loX (.agg [.own _,.own _,vI _ _,vI _ _]) ty.kd36 Z<|lmI rfl ?_
    refine AL.stx (StX.callN (F:=(famD vs1 us1 x.disk++famD vs2 us2 (lgAddL x e).disk)) [(1,11),(2,12)] [] [1,2] 0 Try.func15 (markLog_e u11 u12 vs1 us1 x.disk (famD vs2 us2 (lgAddL x e).disk) 1 hv1 hu1 famD_row (by rw[hFl2];omega) hz (by omega) x.next x.epoch) tlp List.drop_zero List.take_zero (Nat.zero_le _) ((by rw[List.length_append,hFl,hFl2];omega)) ((fun y l F ⟨_,e2,_⟩=>by subst e2;exact⟨stays.arr rfl,stays.arr (by show (rowsWV us1 (mkG mWr gWr _ _)).length=_;rw[rowsWV_len (by rw[mkG_len];exact hu1),mkG_len,rowsWV_len hu1]),trivial⟩)) rfl rfl) rfl ?_
    rintro _ _ ⟨xz43,oz43,Fz43,hz43,hF43,hM43,rfl,rfl⟩
    obtain⟨rfl,rfl,rfl⟩:=hz43
    have hrf43:rowF ([]++(famD vs1 us1 (mkDk x.disk 1)++famD vs2 us2 (lgAddL x e).disk)):=rowF.app (by first|assumption|exact rowF.nil) hF43
    refine laI Z<|nG<|aS<|aS ?_
    rw[List.nil_append]
    have hrA:rowF (famD vs1 us1 (mkDk x.disk 1)):=famD_row
    have hrf3:rowF (famD vs1 us1 (mkDk x.disk 1)++famD vs2 us2 (lgAddL x e).disk):=rowF.app famD_row famD_row
    refine aL<|lmI Z<|lbB Z<|lsB 56 false rfl (by first|(simp;done)|(simp;omega))<|lmZ Z<|loX (.agg [.own _,.own _,vI _ _,vI _ _]) ty.kd36 Z<|loX (.agg [vL _ _ _,vL _ _ _,vI _ _,vI _ _]) ty.kd36 Z<|lst (zLN Try.func14 (eqLog_e (lgAddL x e) hz2.e) rfl (.cons (rdLog (vs:=vs2) (us:=us2) (d:=(lgAddL x e).disk) (s:=(famD vs1 us1 (mkDk x.disk 1)).length) tlp rfl rfl hv2 hu2 at_last) (.cons (Reads.lend rfl) .nil))) Z<|luZ Z<|lsB 61 false rfl (by first|(simp;done)|(simp;omega))<|lkZ Z<|lmZ Z<|lmI Z<|lmI Z<|lbB Z<|lsB 66 false rfl (by first|(simp;done)|(simp;omega))<|lkZ Z<|nG<|aN Z<|aK<|gA<|laI Z<|nG<|aS ?_
    refine AW.pinA 21 rfl ?_
    intro u21
    refine AW.pinA 22 rfl ?_
    intro u22
    rw[←List.append_nil (famD vs2 us2 (lgAddL x e).disk)]
    have hrf4:rowF (famD vs1 us1 (mkDk x.disk 1)++(famD vs2 us2 (lgAddL x e).disk++[])):=rowF.app famD_row (rowF.app famD_row rowF.nil)
    refine aL<|loX (.agg [.own _,.own _,vI _ _,vI _ _]) ty.kd36 Z<|lmI Z ?_
    refine AL.stx (StX.callN (F:=(famD vs1 us1 (mkDk x.disk 1)++(famD vs2 us2 (lgAddL x e).disk++[]))) [(1,21),(2,22)] [] [1,2] (famD vs1 us1 (mkDk x.disk 1)).length Try.func15 (markLog_e u21 u22 vs2 us2 (lgAddL x e).disk [] 1 hv2 hu2 rowF.nil (by simp) hz2 (by omega) (lgAddL x e).next (lgAddL x e).epoch) tlp List.drop_left List.take_left (by simp) ((by rw[List.length_append,List.append_nil,hFl2,famD_len (d:=mkDk x.disk 1) (by show _=(mkG mCe gCe _ _).length;rw[mkG_len];exact hv1) (by show _=(mkG mWr gWr _ _).length;rw[mkG_len];exact hu1)];show (mkG mCe gCe _ _).length+(mkG mWr gWr _ _).length+_≤_;rw[mkG_len,mkG_len];omega)) ((fun y l F ⟨_,e2,_⟩=>by subst e2;exact⟨stays.arr rfl,stays.arr (by show (rowsWV us2 (mkG mWr gWr _ _)).length=_;rw[rowsWV_len (by rw[mkG_len];exact hu2),mkG_len,rowsWV_len hu2]),trivial⟩)) rfl rfl) rfl ?_
    rintro _ _ ⟨xz44,oz44,Fz44,hz44,hF44,hM44,rfl,rfl⟩
    obtain⟨rfl,rfl,rfl⟩:=hz44
    have hrf44:rowF (famD vs1 us1 (mkDk x.disk 1)++(famD vs2 us2 (mkDk (lgAddL x e).disk 1)++[])):=rowF.app (by first|assumption|exact rowF.nil) hF44
    refine lTt ((famD vs1 us1 (mkDk x.disk 1)++(famD vs2 us2 (mkDk (lgAddL x e).disk 1)++[]))) [2,3,4,6,7,9,12,70] [21,22,2002,2003,2006,2009] ?_
    refine laI Z<|nG<|aS ?_
    rw[List.append_nil (famD vs2 us2 (mkDk (lgAddL x e).disk 1))]
    have hrf5:rowF (famD vs1 us1 (mkDk x.disk 1)++famD vs2 us2 (mkDk (lgAddL x e).disk 1)):=rowF.app famD_row famD_row
    refine aL<|laI Z<|nA<|loX (.agg [.own _,.own _,vI _ _,vI _ _]) ty.kd36 Z<|lmI Z<|lst (zLN Try.func16 (heldLog_e (lgAddL x e) 1 hz2.m (by omega)) rfl (.cons (rdLog (vs:=vs2) (us:=us2) (d:=mkDk (lgAddL x e).disk 1) (s:=(famD vs1 us1 (mkDk x.disk 1)).length) tlp rfl rfl (by show _=(mkG mCe gCe _ _).length;rw[mkG_len];exact hv2) (by show _=(mkG mWr gWr _ _).length;rw[mkG_len];exact hu2) at_last) (.cons (Reads.lend rfl) .nil))) Z<|laI Z<|nG<|aS<|sL<|lmI Z<|lbB Z<|lsB 75 false rfl (by first|(simp;done)|(simp;omega))<|nG<|aN Z<|aK<|gT<|aS<|sL<|lmI Z<|lmI Z<|lbB Z<|lsB 78 false rfl (by first|(simp;done)|(simp;omega)) ?_
    refine nG<|aN Z<|aK<|gT<|aS<|aF [9]<|sq 0 (roX (.agg [vL _ _ _,vL _ _ _,vI _ _,vI _ _]) ty.kd27 Z)<|sq 2 (roX (.agg [vI _ _,vI _ _,vI _ _,vI _ _,vI _ _,vI _ _,vB _]) ty.kd29 Z) ?_
    refine AF.two (i:=1) (j:=8) (by kernel_rfl) ?_ ?_
    ·refine v1 1 rfl (zC [] [] [] Try.func11 (toLog_f x hz) (trivial) rfl rfl) (.inr rfl) ?_
     refine fTt ((famD vs1 us1 (mkDk x.disk 1)++famD vs2 us2 (mkDk (lgAddL x e).disk 1))) [4,6,7,9,12,13,81,82] [21,22,2006,2009] ?_
     refine AF.two (i:=3) (j:=8) (by kernel_rfl) ?_ ?_
     ·refine v1 3 rfl (zL Try.func12 (toEvent_e e) rfl) (.inr rfl) ?_
      refine AF.two (i:=4) (j:=8) (by kernel_rfl) ?_ ?_
      ·refine v1 4 rfl (zC [] [] [] Try.func13 (logAdd_f x e) (trivial) rfl rfl) (.inr rfl)<|pq 5 (qmX (.tup [.agg [vL _ _ _,vL _ _ _,vI _ _,vI _ _],vI _ _]) rfl)<|pq 6 (qxX (.agg [vL _ _ _,vL _ _ _,vI _ _,vI _ _]) rfl)<|pq 7 (qxI rfl)<|vst 8 rfl (zA 2014 ty.ze36 rfl) (.inr rfl)<|vst 9 rfl (zB 2014 ty.co36 ty.inf36 rfl) (.inl rfl)<|vq 10 (raI rfl)<|fD<|gT<|aS<|sL<|loX (.agg [vL _ _ _,vL _ _ _,vI _ _,vI _ _]) ty.kd36 Z<|loX (.agg [vL _ _ _,vL _ _ _,vI _ _,vI _ _]) ty.kd36 Z<|lst (zL Try.func14 (eqLog_e (lgAddL x e) hz2.e) rfl) Z<|luZ Z<|lsB 90 false rfl (by first|(simp;done)|(simp;omega))<|lmZ Z<|lmI Z<|lmI Z<|lbB Z<|lsB 94 false rfl (by first|(simp;done)|(simp;omega))<|lkZ Z<|nG<|aN Z<|aK<|gA ?_
       refine laI Z<|nA<|loX (.agg [.own _,.own _,vI _ _,vI _ _]) ty.kd36 Z<|lmI Z<|lst (zLN Try.func16 (heldLog_e (lgAddL x e) 1 hz2.m (by omega)) rfl (.cons (rdLog (vs:=vs2) (us:=us2) (d:=mkDk (lgAddL x e).disk 1) (s:=(famD vs1 us1 (mkDk x.disk 1)).length) tlp rfl rfl (by show _=(mkG mCe gCe _ _).length;rw[mkG_len];exact hv2) (by show _=(mkG mWr gWr _ _).length;rw[mkG_len];exact hu2) at_last) (.cons (Reads.lend rfl) .nil))) rfl ?_
       refine lTt ((famD vs1 us1 (mkDk x.disk 1)++famD vs2 us2 (mkDk (lgAddL x e).disk 1))) [4,12,13,98] [] ?_
       refine laI Z<|nG<|aS<|sL<|lmI Z<|lbB Z<|lsB 100 false rfl (by first|(simp;done)|(simp;omega))<|nG<|aN Z<|aK<|gT<|aS<|sL<|lmI Z<|lmI Z<|lbB Z<|lsB 103 false rfl (by first|(simp;done)|(simp;omega))<|nG<|aN Z<|aK<|gA<|laT Z<|lN ?_
       refine gT<|aR ?_
       refine end_ret ?_ trivial
       rfl
      ·refine v1 8 Z (zA 2014 ty.ze36 Z) (.inr Z)<|vst 4 Z (zC [] [] [] Try.func13 (logAdd_f x e) (trivial) Z Z) (.inr Z)<|vq 5 (rmX (.tup [.agg [vL _ _ _,vL _ _ _,vI _ _,vI _ _],vI _ _]) Z)<|pq 6 (qxX (.agg [vL _ _ _,vL _ _ _,vI _ _,vI _ _]) Z)<|pq 7 (qxI Z)<|vst 9 Z (zB 2014 ty.co36 ty.inf36 Z) (.inl Z)<|vq 10 (raI Z)<|fD<|gT<|aS<|sL<|loX (.agg [vL _ _ _,vL _ _ _,vI _ _,vI _ _]) ty.kd36 Z<|loX (.agg [vL _ _ _,vL _ _ _,vI _ _,vI _ _]) ty.kd36 Z<|lst (zL Try.func14 (eqLog_e (lgAddL x e) hz2.e) Z) Z ?_
       refine lTt ((famD vs1 us1 (mkDk x.disk 1)++famD vs2 us2 (mkDk (lgAddL x e).disk 1))) [4,7,9,12,13,15,89] [21,22,2009] ?_
       refine luZ Z<|lsB 90 false rfl (by first|(simp;done)|(simp;omega))<|lmZ Z<|lmI Z<|lmI Z<|lbB Z<|lsB 94 false rfl (by first|(simp;done)|(simp;omega))<|lkZ Z<|nG<|aN Z<|aK<|gA<|laI Z<|nA<|loX (.agg [.own _,.own _,vI _ _,vI _ _]) ty.kd36 Z<|lmI Z<|lst (zLN Try.func16 (heldLog_e (lgAddL x e) 1 hz2.m (by omega)) rfl (.cons (rdLog (vs:=vs2) (us:=us2) (d:=mkDk (lgAddL x e).disk 1) (s:=(famD vs1 us1 (mkDk x.disk 1)).length) tlp rfl rfl (by show _=(mkG mCe gCe _ _).length;rw[mkG_len];exact hv2) (by show _=(mkG mWr gWr _ _).length;rw[mkG_len];exact hu2) at_last) (.cons (Reads.lend rfl) .nil))) Z<|laI Z<|nG<|aS<|sL<|lmI rfl ?_
       refine lbB Z<|lsB 100 false rfl (by first|(simp;done)|(simp;omega))<|nG<|aN Z<|aK<|gT<|aS<|sL<|lmI Z<|lmI Z<|lbB Z<|lsB 103 false rfl (by first|(simp;done)|(simp;omega))<|nG<|aN Z<|aK<|gA<|laT Z<|nG<|aR ?_
       refine end_ret ?_ trivial
       rfl
     ·refine v1 8 rfl (zA 2014 ty.ze36 rfl) (.inr rfl) ?_
      refine fTt ((famD vs1 us1 (mkDk x.disk 1)++famD vs2 us2 (mkDk (lgAddL x e).disk 1))) [4,6,7,9,12,13,14,81,82] [21,22,2006,2009,2014] ?_
      refine vst 3 rfl (zL Try.func12 (toEvent_e e) rfl) (.inr rfl)<|vst 4 rfl (zC [] [] [] Try.func13 (logAdd_f x e) (trivial) rfl rfl) (.inr rfl)<|vq 5 (rmX (.tup [.agg [vL _ _ _,vL _ _ _,vI _ _,vI _ _],vI _ _]) rfl)<|pq 6 (qxX (.agg [vL _ _ _,vL _ _ _,vI _ _,vI _ _]) rfl)<|pq 7 (qxI rfl)<|vst 9 rfl (zB 2014 ty.co36 ty.inf36 rfl) (.inl rfl)<|vq 10 (raI rfl)<|fD<|gT<|aS<|sL<|loX (.agg [vL _ _ _,vL _ _ _,vI _ _,vI _ _]) ty.kd36 Z<|loX (.agg [vL _ _ _,vL _ _ _,vI _ _,vI _ _]) ty.kd36 Z<|lst (zL Try.func14 (eqLog_e (lgAddL x e) hz2.e) rfl) Z<|luZ Z<|lsB 90 false rfl (by first|(simp;done)|(simp;omega))<|lmZ Z<|lmI Z<|lmI Z<|lbB Z<|lsB 94 false rfl (by first|(simp;done)|(simp;omega))<|lkZ Z<|nG<|aN Z<|aK<|gA ?_
      refine laI Z<|nA<|loX (.agg [.own _,.own _,vI _ _,vI _ _]) ty.kd36 Z<|lmI Z<|lst (zLN Try.func16 (heldLog_e (lgAddL x e) 1 hz2.m (by omega)) rfl (.cons (rdLog (vs:=vs2) (us:=us2) (d:=mkDk (lgAddL x e).disk 1) (s:=(famD vs1 us1 (mkDk x.disk 1)).length) tlp rfl rfl (by show _=(mkG mCe gCe _ _).length;rw[mkG_len];exact hv2) (by show _=(mkG mWr gWr _ _).length;rw[mkG_len];exact hu2) at_last) (.cons (Reads.lend rfl) .nil))) rfl ?_
      refine lTt ((famD vs1 us1 (mkDk x.disk 1)++famD vs2 us2 (mkDk (lgAddL x e).disk 1))) [4,12,13,98] [] ?_
      refine laI Z<|nG<|aS<|sL<|lmI Z<|lbB Z<|lsB 100 false rfl (by first|(simp;done)|(simp;omega))<|nG<|aN Z<|aK<|gT<|aS<|sL<|lmI Z<|lmI Z<|lbB Z<|lsB 103 false rfl (by first|(simp;done)|(simp;omega))<|nG<|aN Z<|aK<|gA<|laT Z<|lN ?_
      refine gT<|aR ?_
      refine end_ret ?_ trivial
      rfl
    ·refine v1 8 Z (zA 2014 ty.ze36 Z) (.inr Z)<|vst 1 Z (zC [] [] [] Try.func11 (toLog_f x hz) (trivial) Z Z) (.inr Z)<|vst 3 Z (zL Try.func12 (toEvent_e e) Z) (.inr Z)<|vst 4 Z (zC [] [] [] Try.func13 (logAdd_f x e) (trivial) Z Z) (.inr Z)<|vq 5 (rmX (.tup [.agg [vL _ _ _,vL _ _ _,vI _ _,vI _ _],vI _ _]) Z)<|pq 6 (qxX (.agg [vL _ _ _,vL _ _ _,vI _ _,vI _ _]) Z)<|pq 7 (qxI Z)<|vst 9 Z (zB 2014 ty.co36 ty.inf36 Z) (.inl Z) ?_
     refine fTt ((famD vs1 us1 (mkDk x.disk 1)++famD vs2 us2 (mkDk (lgAddL x e).disk 1))) [4,6,7,9,12,13,14,86] [21,22,2006,2009,2014] ?_
     refine vq 10 (raI rfl)<|fD<|gT<|aS<|sL<|loX (.agg [vL _ _ _,vL _ _ _,vI _ _,vI _ _]) ty.kd36 Z<|loX (.agg [vL _ _ _,vL _ _ _,vI _ _,vI _ _]) ty.kd36 Z<|lst (zL Try.func14 (eqLog_e (lgAddL x e) hz2.e) rfl) Z<|luZ Z<|lsB 90 false rfl (by first|(simp;done)|(simp;omega))<|lmZ Z<|lmI Z<|lmI Z<|lbB Z<|lsB 94 false rfl (by first|(simp;done)|(simp;omega))<|lkZ Z<|nG<|aN Z<|aK<|gA<|laI Z<|nA<|loX (.agg [.own _,.own _,vI _ _,vI _ _]) ty.kd36 rfl ?_
     refine lmI Z<|lst (zLN Try.func16 (heldLog_e (lgAddL x e) 1 hz2.m (by omega)) rfl (.cons (rdLog (vs:=vs2) (us:=us2) (d:=mkDk (lgAddL x e).disk 1) (s:=(famD vs1 us1 (mkDk x.disk 1)).length) tlp rfl rfl (by show _=(mkG mCe gCe _ _).length;rw[mkG_len];exact hv2) (by show _=(mkG mWr gWr _ _).length;rw[mkG_len];exact hu2) at_last) (.cons (Reads.lend rfl) .nil))) rfl ?_
     refine lTt ((famD vs1 us1 (mkDk x.disk 1)++famD vs2 us2 (mkDk (lgAddL x e).disk 1))) [4,12,13,98] [] ?_
     refine laI Z<|nG<|aS<|sL<|lmI Z<|lbB Z<|lsB 100 false rfl (by first|(simp;done)|(simp;omega))<|nG<|aN Z<|aK<|gT<|aS<|sL<|lmI Z<|lmI Z<|lbB Z<|lsB 103 false rfl (by first|(simp;done)|(simp;omega))<|nG<|aN Z<|aK<|gA<|laT Z<|lN ?_
     refine gT<|aR ?_
     refine end_ret ?_ trivial
     rfl
end Go.Proofs.Yteblcdnhnckkaaa

