/- Texts of the proof of FnLogEvents, joined: EP1, MkD, EL1, EP2. -/
import Derived.Test.YteblcdnhnckkaaaJLogEvents6
import Derived.Test.YteblcdnhnckkaaaJLogEvents5
import Derived.Test.YteblcdnhnckkaaaJLogEvents3
namespace Go.Proofs.Yteblcdnhnckkaaa
open Go.RowKit
set_option maxHeartbeats 16000000
set_option maxRecDepth 100000
set_option linter.unusedSimpArgs false
set_option linter.unusedVariables false
abbrev obF(d:Disk):List (Nat×AO):=[(1,.arr 115 1 (rowsC d.cells)),(2,.arr 123 2 (rowsW d.dirty))]
theorem rowsC_succ{cs:List Cell}{k:Nat}(hk:k<cs.length):rowsC (cs.take k)++[[lstB cs[k].bytes]]=rowsC (cs.take (k+1)):=by
 rw[List.take_succ_eq_append_getElem hk];unfold rowsC;rw[List.map_append];rfl
theorem GC.disk{f:FuncId}{args:List AV}{d:Disk}(h:GC Try.prog f args [] oDisk (obF d)):GC Try.prog f args [] (diskV d) []:=
 (GX.frozen (Z:=fun y=>y=diskV d) h fun x ob ⟨h1,h2⟩=>by
   subst h1 h2
   exact⟨_,Still.agg (.cons (Still.row (e:=⟨115,none⟩) (sz:=1) (rows:=rowsC d.cells) rfl) (.cons (Still.row (e:=⟨123,none⟩) (sz:=2) (rows:=rowsW d.dirty) rfl) .nil)),rfl⟩).mono fun y o ⟨e1,e2⟩=>⟨e2,e1⟩
theorem sl03Copy_o(d:Disk)(hs:DkS d):GC Try.prog 93 [diskV d] [] (oDisk) (obF d):=by
 refine GC.intro (rs:=[.cell 2 34 (some 2)]) Try.func93 rfl Try.ntmps93 (Nat.le_of_ble_eq_true rfl) ⟨rfl,rfl,ty.kd34,trivial⟩ ?_
 intro L O w0
 refine sL<|lst (zX 2001 Z) Z<|lst (zA 2002 ty.ze34 Z) Z<|nA<|lq (rd (x:=.agg [vV _,vV _]) (rd_build Z ty.sa34 Z Z Z) Z)<|lst (zA 2003 ty.ze34 Z) Z<|lst (zB 2003 ty.co34 ty.inf34 Z) Z<|nG<|aS<|aS ?_
 refine AW.adoptB 1 2003 0 115 1 rfl (by decide) rfl ?_
 refine AW.adoptB 2 2003 1 123 2 rfl (by decide) rfl ?_
 refine aL<|lf 0 ty.F34_0 Z<|loL ty.kd31 Z<|lnI ty.sl31 Z ?_
 refine AL.slot 11 (int (d.cells.length:Int)) (congrArg (fun n:Nat=>int (n:Int)) (rowsC_len _)) ?_
 refine lmI Z<|nG<|aB ?_
 refine aW [1,2,3,10,11] [2,2001,2002,2003] (D:=Nat) (fun a=>[(12,int (a:Int))]) (fun a=>[(1,.arr 115 1 (rowsC (d.cells.take a)))]) (fun a=>a≤d.cells.length) (fun a=>d.cells.length-a) (0) (Nat.zero_le _) ⟨rfl,trivial⟩ ⟨rfl,trivial⟩ ?_
 intro k hI
 have hkl:k≤d.cells.length:=hI
 refine sL<|lbB Z<|nG<|aS ?_
 refine AW.cond rfl ?_ ?_
 ·intro h1
  refine aK<|gT<|aS<|aB<|aS ?_
  have hk:k<d.cells.length:=by have h:=h1;simp only[decide_eq_true_eq]at h;omega
  have hlc:=hs.lc
  refine aL<|li k ty.el31 Z (rowsC_at hk)<|lrX (.agg [vL _ _ _]) ty.kd115 Z<|lst (zA 2005 ty.ze115 Z) Z<|lst (zB 2005 ty.co115 ty.inf115 Z) Z<|lT [1,2,3,5,10,11,12] [1,2,2001,2002,2003,2005] ?_
  refine nG<|aG 10 [1,2018]<|tq 0 (rf 0 ty.F34_0 rfl)<|tq 1 (roO ty.kd31 rfl)<|tq 3 (rf 0 ty.F115_0 rfl)<|tq 4 (roL ty.kd56 rfl)<|yst 2 rfl (zS 2018 (rowsOf encU []) ty.el56 ty.ze5 rfl (by intro r hr;cases hr))<|yst 5 rfl (zP 2018 ty.el56 ty.ze5 ty.by5 rfl (Src.p rfl) (by have:=hs.bc _ (List.getElem_mem hk);simp[rowsOf];omega)) ?_
  refine AG.freeze 2018 rfl ?_
  refine yq 6 (rd (x:=.agg [vL _ _ _]) (rd_build rfl ty.sa115 rfl rfl rfl) rfl)<|yst 7 rfl (zS 2023 [[lstB d.cells[k].bytes]] ty.el31 ty.ze115 rfl (by intro r hr;simp at hr;subst hr;rfl))<|yst 8 rfl (zP 1 ty.el31 ty.ze115 ty.by115 rfl (Src.own rfl rfl) (by first|(simp[rowsC_len,rowsW_len];done)|(simp[rowsC_len,rowsW_len];omega)))<|yq 9 (rf 0 ty.F34_0 rfl)<|yl rfl (zB 2003 ty.co31 ty.inf31 rfl)<|gB<|gT<|aL<|lgI Z<|lmI Z<|nG ?_
  refine⟨(k+1),hk,by show d.cells.length-(k+1)<d.cells.length-k;omega,⟨(iq rfl),trivial⟩,⟨(congrArg (AO.arr 115 1) (rowsC_succ hk)),trivial⟩,rfl,rfl⟩
 ·intro h1
  refine aE<|eT<|eT<|eB<|gT<|aS<|aS ?_
  have hke:k=d.cells.length:=by have h:=h1;simp only[decide_eq_false_iff_not]at h;omega
  subst hke
  rw[List.take_length]
  refine aL<|lf 1 ty.F34_1 Z<|loL ty.kd32 Z<|lnI ty.sl32 Z ?_
  refine AL.slot 29 (int (d.dirty.length:Int)) (congrArg (fun n:Nat=>int (n:Int)) (rowsW_len _)) ?_
  refine lmI Z<|nG<|aB ?_
  refine aW [2,3,28,29] [1,2001,2002,2003] (D:=Nat) (fun a=>[(30,int (a:Int))]) (fun a=>[(2,.arr 123 2 (rowsW (d.dirty.take a)))]) (fun a=>a≤d.dirty.length) (fun a=>d.dirty.length-a) (0) (Nat.zero_le _) ⟨rfl,trivial⟩ ⟨rfl,trivial⟩ ?_
  intro j hI
  have hjl:j≤d.dirty.length:=hI
  refine sL<|lbB Z<|nG<|aS ?_
  refine AW.cond rfl ?_ ?_
  ·intro h2
   refine aK<|gT<|aS<|aB<|aS ?_
   have hj:j<d.dirty.length:=by have h:=h2;simp only[decide_eq_true_eq]at h;omega
   have hlw:=hs.lw
   refine aL<|li j ty.el32 Z (rowsW_at hj)<|lrX (.agg [vI _ _,vL _ _ _]) ty.kd123 Z<|lst (zA 2007 ty.ze123 Z) Z<|lT [2,3,7,28,29,30,33] [1,2,2001,2002,2003,2007] ?_
   refine lst (zB 2007 ty.co123 ty.inf123 rfl) Z<|nG<|aG 12 [2,2038]<|tq 0 (rf 1 ty.F34_1 rfl)<|tq 1 (roO ty.kd32 rfl)<|tq 2 (rf 0 ty.F123_0 rfl)<|tq 3 (roI ty.kd3 rfl)<|tq 5 (rf 1 ty.F123_1 rfl)<|tq 6 (roL ty.kd56 rfl)<|yst 4 rfl (zS 2038 (rowsOf encU []) ty.el56 ty.ze5 rfl (by intro r hr;cases hr))<|yst 7 rfl (zP 2038 ty.el56 ty.ze5 ty.by5 rfl (Src.p rfl) (by have:=hs.bw _ (List.getElem_mem hj);simp[rowsOf];omega)) ?_
   refine AG.freeze 2038 rfl ?_
   refine yq 8 (rd (x:=.agg [vI _ _,vL _ _ _]) (rd_build rfl ty.sa123 rfl rfl rfl) rfl)<|yst 9 rfl (zS 2043 [[.v (.int .i64 d.dirty[j].at_),lstB d.dirty[j].bytes]] ty.el32 ty.ze123 rfl (by intro r hr;simp at hr;subst hr;rfl))<|yst 10 rfl (zP 2 ty.el32 ty.ze123 ty.by123 rfl (Src.own rfl rfl) (by first|(simp[rowsC_len,rowsW_len];done)|(simp[rowsC_len,rowsW_len];omega)))<|yq 11 (rf 1 ty.F34_1 rfl)<|yl rfl (zB 2003 ty.co32 ty.inf32 rfl)<|gB<|gT<|aL<|lgI Z<|lmI Z<|nG ?_
   refine⟨(j+1),hj,by show d.dirty.length-(j+1)<d.dirty.length-j;omega,⟨(iq rfl),trivial⟩,⟨(congrArg (AO.arr 123 2) (rowsW_succ hj)),trivial⟩,rfl,rfl⟩
  ·intro h2
   refine aE<|eT<|eT<|eB<|gT<|aS ?_
   have hje:j=d.dirty.length:=by have h:=h2;simp only[decide_eq_false_iff_not]at h;omega
   subst hje
   rw[List.take_length]
   refine aL<|loX (.agg [.own _,.own _]) ty.kd34 Z<|lst (zB 2002 ty.co34 ty.inf34 Z) Z<|lT [2] [1,2,2001,2002,2003] ?_
   refine nG<|aR ?_
   refine end_ret ?_ ⟨rfl,rfl,trivial⟩
   rfl
theorem sdiskWrite_o(d:Disk)(i:Nat)(b:List Int)(hd:diskOk d=true)(hi:i<d.cells.length)(hw:d.dirty.length<600)(hb:b.length=128):GC Try.prog 45 [diskV d,int (i:Int),byV b] [] (.tup [oDisk,boo true]) (obF (diskW d i b)):=by
 refine GC.intro (rs:=[.cell 6 34 (some 2),.tmp 7]) Try.func45 rfl Try.ntmps45 (Nat.le_of_ble_eq_true rfl) ⟨rfl,rfl,ty.kd34,rfl,trivial⟩ ?_
 intro L O w0
 refine sL<|lst (zX 2003 Z) Z<|lst (zA 2006 ty.ze34 Z) Z<|laZ Z<|nG<|aS<|aS ?_
 have hsz:=(dok_iff hd).1
 refine aL<|loX (.agg [vL _ _ _,vL _ _ _]) ty.kd34 Z<|lst (zC [] [] [] Try.func41 (sdiskOk_e d) (trivial) rfl rfl) Z<|lsB 10 true rfl (hd)<|luZ Z<|nG<|aN Z<|aK<|gA<|loX (.agg [vL _ _ _,vL _ _ _]) ty.kd34 Z<|lst (zC [(1,1),(2,2)] [1,2] [] Try.func93 (sl03Copy_o d (dok_s hd)) (trivial) rfl rfl) Z<|lst (zA 2008 ty.ze34 rfl) Z<|lst (zB 2008 ty.co34 ty.inf34 rfl) Z<|nG<|aS<|aG 10 [2,2018]<|tq 0 (rf 1 ty.F34_1 rfl)<|tq 1 (roO ty.kd32 rfl)<|tq 2 (rmI rfl)<|tq 4 (rmL rfl)<|yst 3 rfl (zS 2018 (rowsOf encU []) ty.el56 ty.ze5 rfl (by intro r hr;cases hr))<|gX [6,7,8,16,17,18,19] [1,2,2003,2006,2008,2018] ?_
 refine yst 5 rfl (zP 2018 ty.el56 ty.ze5 ty.by5 rfl (Src.p rfl) (by have:=hb;simp[rowsOf];omega)) ?_
 refine AG.freeze 2018 rfl ?_
 refine yq 6 (rd (x:=.agg [vI _ _,vL _ _ _]) (rd_build rfl ty.sa123 rfl rfl rfl) rfl)<|yst 7 rfl (zS 2022 [[.v (.int .i64 (i:Int)),lstB b]] ty.el32 ty.ze123 rfl (by intro r hr;simp at hr;subst hr;rfl))<|yst 8 rfl (zP 2 ty.el32 ty.ze123 ty.by123 rfl (Src.own rfl rfl) (by first|(simp[rowsC_len,rowsW_len];done)|(simp[rowsC_len,rowsW_len];omega)))<|yq 9 (rf 1 ty.F34_1 rfl)<|yl rfl (zB 2008 ty.co32 ty.inf32 rfl)<|gT<|aS<|aS ?_
 refine AW.obj 2 (.arr 123 2 (rowsW (diskW d i b).dirty)) (congrArg (AO.arr 123 2) (show rowsW d.dirty++[[.v (.int .i64 (i:Int)),lstB b]]=_ by unfold rowsW diskW;rw[List.map_append];rfl)) ?_
 refine aL<|loX (.agg [.own _,.own _]) ty.kd34 Z<|lst (zL Try.func41 (sdiskOk_e (diskW d i b)) Z) Z<|lsB 26 true Z (dok_diskW hd hi hw hb)<|luZ Z<|nG<|aN Z<|aK<|gA<|loX (.agg [.own _,.own _]) ty.kd34 Z<|lst (zB 2006 ty.co34 ty.inf34 Z) Z<|laT Z<|nG<|aR ?_
 refine end_ret ?_ ⟨rfl,rfl,trivial⟩
 rfl
theorem inB_n{n a b:Int}(h:¬(a≤n∧n≤b)):inB n a b=false:=Bool.eq_false_iff.2 fun q=>h (inB_iff.1 q)
theorem slogAdd_o(l:Log)(e:Event):GC Try.prog 10 [logV l,evV e] [] (.tup [.agg [.own 1,.own 2,int (lgAddL l e).next,int (lgAddL l e).epoch],int (lgAddC l e)]) (obF (lgAddL l e).disk):=by
 refine GC.intro (rs:=[.cell 4 36 (some 4),.tmp 5]) Try.func10 rfl Try.ntmps10 (Nat.le_of_ble_eq_true rfl) ⟨rfl,rfl,ty.kd36,rfl,trivial⟩ ?_
 intro L O w0
 refine sL<|lst (zX 2002 Z) Z<|lst (zX 2003 Z) Z<|lst (zA 2004 ty.ze36 Z) Z<|laI Z<|nG<|aS<|sL<|lf 0 ty.F36_0 Z<|loX (.agg [vL _ _ _,vL _ _ _]) ty.kd34 Z<|lst (zC [] [] [] Try.func41 (sdiskOk_e l.disk) (trivial) Z Z) Z<|luB Z<|lmB Z ?_
 refine AL.bool (t:=16) rfl ?_ ?_
 ·intro h1
  refine lno Z<|lno Z<|lno Z<|lkT Z<|lmT Z<|lno Z<|lno Z<|lno Z<|lno Z<|lno Z<|lno Z<|lno Z<|lkT Z<|lmT Z<|lno Z<|lno Z<|lno Z<|lkT Z<|lmT Z<|lno Z<|lno Z<|lno Z<|lkT Z<|lmT Z<|lno Z<|lno Z<|lno Z<|lkT Z<|nG ?_
  refine aY Z<|sL<|lq (rd (x:=.agg [vV _,vV _,vI _ _,vI _ _]) (rd_build Z ty.sa36 Z Z Z) Z)<|lst (zB 2004 ty.co36 ty.inf36 Z) Z<|lT [2,3,4,5] [2002,2003,2004] ?_
  refine laI Z<|nG ?_
  refine AW.adoptB 1 2004 0 115 1 rfl (by decide) rfl ?_
  refine AW.adoptB 2 2004 1 123 2 rfl (by decide) rfl ?_
  refine aR<|rT ?_
  have hc:lgAddC l e=1:=ad1 (by first|exact .inl (by simpa using h1)|exact .inr (.inl (inB_n (by have h:=h1;simp only[gt_iff_lt,decide_eq_true_eq]at h;omega)))|exact .inr (.inr (.inl (inB_n (by have h:=h1;simp only[gt_iff_lt,decide_eq_true_eq]at h;omega))))|exact .inr (.inr (.inr (by simpa using h1))))
  have hL:=adL_n (l:=l) (e:=e) (by rw[hc];decide)
  rw[hc,hL]
  refine end_ret ?_ ⟨rfl,rfl,trivial⟩
  rfl
 ·intro h1
  refine lf 2 ty.F36_1 Z<|loI ty.kd3 Z<|lbB Z<|lkB Z<|lmB Z ?_
  refine AL.bool (t:=21) rfl ?_ ?_
  ·intro h2
   refine lno Z<|lno Z<|lno Z<|lno Z<|lno Z<|lno Z<|lno Z<|lkT Z<|lmT Z<|lno Z<|lno Z<|lno Z<|lkT Z<|lmT Z<|lno Z<|lno Z<|lno Z<|lkT Z<|lmT Z<|lno Z<|lno Z<|lno Z<|lkT Z<|nG<|aY Z<|sL<|lq (rd (x:=.agg [vV _,vV _,vI _ _,vI _ _]) (rd_build Z ty.sa36 Z Z Z) Z)<|lst (zB 2004 ty.co36 ty.inf36 Z) Z ?_
   refine lT [2,3,4,5] [2002,2003,2004] ?_
   refine laI Z<|nG ?_
   refine AW.adoptB 1 2004 0 115 1 rfl (by decide) rfl ?_
   refine AW.adoptB 2 2004 1 123 2 rfl (by decide) rfl ?_
   refine aR<|rT ?_
   have hc:lgAddC l e=1:=ad1 (by first|exact .inl (by simpa using h2)|exact .inr (.inl (inB_n (by have h:=h2;simp only[gt_iff_lt,decide_eq_true_eq]at h;omega)))|exact .inr (.inr (.inl (inB_n (by have h:=h2;simp only[gt_iff_lt,decide_eq_true_eq]at h;omega))))|exact .inr (.inr (.inr (by simpa using h2)))|exact .inl (by simpa using h1)|exact .inr (.inl (inB_n (by have h:=h1;simp only[gt_iff_lt,decide_eq_true_eq]at h;omega)))|exact .inr (.inr (.inl (inB_n (by have h:=h1;simp only[gt_iff_lt,decide_eq_true_eq]at h;omega))))|exact .inr (.inr (.inr (by simpa using h1))))
   have hL:=adL_n (l:=l) (e:=e) (by rw[hc];decide)
   rw[hc,hL]
   refine end_ret ?_ ⟨rfl,rfl,trivial⟩
   rfl
  ·intro h2
   refine lf 2 ty.F36_1 Z<|loI ty.kd3 Z<|lf 0 ty.F36_0 Z<|lf 0 ty.F34_0 Z<|loL ty.kd31 Z<|lnI ty.sl31 Z ?_
   refine AL.slot 27 (int (l.disk.cells.length:Int)) (congrArg (fun n:Nat=>int (n:Int)) (rowsC_len _)) ?_
   refine lbB Z<|lkB Z<|lmB Z ?_
   refine AL.bool (t:=30) rfl ?_ ?_
   ·intro h3
    refine lno Z<|lno Z<|lno Z<|lkT Z<|lmT Z<|lno Z<|lno Z<|lno Z<|lkT Z<|lmT Z<|lno Z<|lno Z<|lno Z<|lkT Z<|nG<|aY Z<|sL<|lq (rd (x:=.agg [vV _,vV _,vI _ _,vI _ _]) (rd_build Z ty.sa36 Z Z Z) Z)<|lst (zB 2004 ty.co36 ty.inf36 Z) Z<|lT [2,3,4,5] [2002,2003,2004] ?_
    refine laI Z<|nG ?_
    refine AW.adoptB 1 2004 0 115 1 rfl (by decide) rfl ?_
    refine AW.adoptB 2 2004 1 123 2 rfl (by decide) rfl ?_
    refine aR<|rT ?_
    have hc:lgAddC l e=1:=ad1 (by first|exact .inl (by simpa using h3)|exact .inr (.inl (inB_n (by have h:=h3;simp only[gt_iff_lt,decide_eq_true_eq]at h;omega)))|exact .inr (.inr (.inl (inB_n (by have h:=h3;simp only[gt_iff_lt,decide_eq_true_eq]at h;omega))))|exact .inr (.inr (.inr (by simpa using h3)))|exact .inl (by simpa using h2)|exact .inr (.inl (inB_n (by have h:=h2;simp only[gt_iff_lt,decide_eq_true_eq]at h;omega)))|exact .inr (.inr (.inl (inB_n (by have h:=h2;simp only[gt_iff_lt,decide_eq_true_eq]at h;omega))))|exact .inr (.inr (.inr (by simpa using h2)))|exact .inl (by simpa using h1)|exact .inr (.inl (inB_n (by have h:=h1;simp only[gt_iff_lt,decide_eq_true_eq]at h;omega)))|exact .inr (.inr (.inl (inB_n (by have h:=h1;simp only[gt_iff_lt,decide_eq_true_eq]at h;omega))))|exact .inr (.inr (.inr (by simpa using h1))))
    have hL:=adL_n (l:=l) (e:=e) (by rw[hc];decide)
    rw[hc,hL]
    refine end_ret ?_ ⟨rfl,rfl,trivial⟩
    rfl
   ·intro h3
    refine lf 3 ty.F36_2 Z<|loI ty.kd3 Z<|lbB Z<|lkB Z<|lmB Z ?_
    refine AL.bool (t:=35) rfl ?_ ?_
    ·intro h4
     refine lno Z<|lno Z<|lno Z<|lkT Z<|lmT Z<|lno Z<|lno Z<|lno Z<|lkT Z<|nG<|aY Z<|sL<|lq (rd (x:=.agg [vV _,vV _,vI _ _,vI _ _]) (rd_build Z ty.sa36 Z Z Z) Z)<|lst (zB 2004 ty.co36 ty.inf36 Z) Z<|laI Z<|nG ?_
     refine AW.adoptB 1 2004 0 115 1 rfl (by decide) rfl ?_
     refine AW.adoptB 2 2004 1 123 2 rfl (by decide) rfl ?_
     refine aR<|rT ?_
     have hc:lgAddC l e=1:=ad1 (by first|exact .inl (by simpa using h4)|exact .inr (.inl (inB_n (by have h:=h4;simp only[gt_iff_lt,decide_eq_true_eq]at h;omega)))|exact .inr (.inr (.inl (inB_n (by have h:=h4;simp only[gt_iff_lt,decide_eq_true_eq]at h;omega))))|exact .inr (.inr (.inr (by simpa using h4)))|exact .inl (by simpa using h3)|exact .inr (.inl (inB_n (by have h:=h3;simp only[gt_iff_lt,decide_eq_true_eq]at h;omega)))|exact .inr (.inr (.inl (inB_n (by have h:=h3;simp only[gt_iff_lt,decide_eq_true_eq]at h;omega))))|exact .inr (.inr (.inr (by simpa using h3)))|exact .inl (by simpa using h2)|exact .inr (.inl (inB_n (by have h:=h2;simp only[gt_iff_lt,decide_eq_true_eq]at h;omega)))|exact .inr (.inr (.inl (inB_n (by have h:=h2;simp only[gt_iff_lt,decide_eq_true_eq]at h;omega))))|exact .inr (.inr (.inr (by simpa using h2)))|exact .inl (by simpa using h1)|exact .inr (.inl (inB_n (by have h:=h1;simp only[gt_iff_lt,decide_eq_true_eq]at h;omega)))|exact .inr (.inr (.inl (inB_n (by have h:=h1;simp only[gt_iff_lt,decide_eq_true_eq]at h;omega))))|exact .inr (.inr (.inr (by simpa using h1))))
     have hL:=adL_n (l:=l) (e:=e) (by rw[hc];decide)
     rw[hc,hL]
     refine end_ret ?_ ⟨rfl,rfl,trivial⟩
     rfl
    ·intro h4
     refine lf 3 ty.F36_2 Z<|loI ty.kd3 Z<|lbB Z<|lkB Z<|lmB Z ?_
     refine AL.bool (t:=40) rfl ?_ ?_
     ·intro h5
      refine lno Z<|lno Z<|lno Z<|lkT Z<|nG<|aY Z<|sL<|lq (rd (x:=.agg [vV _,vV _,vI _ _,vI _ _]) (rd_build Z ty.sa36 Z Z Z) Z)<|lst (zB 2004 ty.co36 ty.inf36 Z) Z<|lT [2,3,4,5] [2002,2003,2004] ?_
      refine laI Z<|nG ?_
      refine AW.adoptB 1 2004 0 115 1 rfl (by decide) rfl ?_
      refine AW.adoptB 2 2004 1 123 2 rfl (by decide) rfl ?_
      refine aR<|rT ?_
      have hc:lgAddC l e=1:=ad1 (by first|exact .inl (by simpa using h5)|exact .inr (.inl (inB_n (by have h:=h5;simp only[gt_iff_lt,decide_eq_true_eq]at h;omega)))|exact .inr (.inr (.inl (inB_n (by have h:=h5;simp only[gt_iff_lt,decide_eq_true_eq]at h;omega))))|exact .inr (.inr (.inr (by simpa using h5)))|exact .inl (by simpa using h4)|exact .inr (.inl (inB_n (by have h:=h4;simp only[gt_iff_lt,decide_eq_true_eq]at h;omega)))|exact .inr (.inr (.inl (inB_n (by have h:=h4;simp only[gt_iff_lt,decide_eq_true_eq]at h;omega))))|exact .inr (.inr (.inr (by simpa using h4)))|exact .inl (by simpa using h3)|exact .inr (.inl (inB_n (by have h:=h3;simp only[gt_iff_lt,decide_eq_true_eq]at h;omega)))|exact .inr (.inr (.inl (inB_n (by have h:=h3;simp only[gt_iff_lt,decide_eq_true_eq]at h;omega))))|exact .inr (.inr (.inr (by simpa using h3)))|exact .inl (by simpa using h2)|exact .inr (.inl (inB_n (by have h:=h2;simp only[gt_iff_lt,decide_eq_true_eq]at h;omega)))|exact .inr (.inr (.inl (inB_n (by have h:=h2;simp only[gt_iff_lt,decide_eq_true_eq]at h;omega))))|exact .inr (.inr (.inr (by simpa using h2)))|exact .inl (by simpa using h1)|exact .inr (.inl (inB_n (by have h:=h1;simp only[gt_iff_lt,decide_eq_true_eq]at h;omega)))|exact .inr (.inr (.inl (inB_n (by have h:=h1;simp only[gt_iff_lt,decide_eq_true_eq]at h;omega))))|exact .inr (.inr (.inr (by simpa using h1))))
      have hL:=adL_n (l:=l) (e:=e) (by rw[hc];decide)
      rw[hc,hL]
      refine end_ret ?_ ⟨rfl,rfl,trivial⟩
      rfl
     ·intro h5
      refine loX (.agg [vI _ _,vI _ _,vI _ _,vI _ _,vI _ _,vI _ _,vB _]) ty.kd40 Z<|lst (zC [] [] [] Try.func42 (seventOk_e e) (trivial) Z Z) Z<|luB Z<|lkB Z<|nG ?_
      refine AW.cond rfl ?_ ?_
      ·intro h6
       refine sL<|lq (rd (x:=.agg [vV _,vV _,vI _ _,vI _ _]) (rd_build Z ty.sa36 Z Z Z) Z)<|lst (zB 2004 ty.co36 ty.inf36 Z) Z<|laI Z<|nG ?_
       refine AW.adoptB 1 2004 0 115 1 rfl (by decide) rfl ?_
       refine AW.adoptB 2 2004 1 123 2 rfl (by decide) rfl ?_
       refine aR<|rT ?_
       have hc:lgAddC l e=1:=ad1 (by first|exact .inl (by simpa using h6)|exact .inr (.inl (inB_n (by have h:=h6;simp only[gt_iff_lt,decide_eq_true_eq]at h;omega)))|exact .inr (.inr (.inl (inB_n (by have h:=h6;simp only[gt_iff_lt,decide_eq_true_eq]at h;omega))))|exact .inr (.inr (.inr (by simpa using h6)))|exact .inl (by simpa using h5)|exact .inr (.inl (inB_n (by have h:=h5;simp only[gt_iff_lt,decide_eq_true_eq]at h;omega)))|exact .inr (.inr (.inl (inB_n (by have h:=h5;simp only[gt_iff_lt,decide_eq_true_eq]at h;omega))))|exact .inr (.inr (.inr (by simpa using h5)))|exact .inl (by simpa using h4)|exact .inr (.inl (inB_n (by have h:=h4;simp only[gt_iff_lt,decide_eq_true_eq]at h;omega)))|exact .inr (.inr (.inl (inB_n (by have h:=h4;simp only[gt_iff_lt,decide_eq_true_eq]at h;omega))))|exact .inr (.inr (.inr (by simpa using h4)))|exact .inl (by simpa using h3)|exact .inr (.inl (inB_n (by have h:=h3;simp only[gt_iff_lt,decide_eq_true_eq]at h;omega)))|exact .inr (.inr (.inl (inB_n (by have h:=h3;simp only[gt_iff_lt,decide_eq_true_eq]at h;omega))))|exact .inr (.inr (.inr (by simpa using h3)))|exact .inl (by simpa using h2)|exact .inr (.inl (inB_n (by have h:=h2;simp only[gt_iff_lt,decide_eq_true_eq]at h;omega)))|exact .inr (.inr (.inl (inB_n (by have h:=h2;simp only[gt_iff_lt,decide_eq_true_eq]at h;omega))))|exact .inr (.inr (.inr (by simpa using h2)))|exact .inl (by simpa using h1)|exact .inr (.inl (inB_n (by have h:=h1;simp only[gt_iff_lt,decide_eq_true_eq]at h;omega)))|exact .inr (.inr (.inl (inB_n (by have h:=h1;simp only[gt_iff_lt,decide_eq_true_eq]at h;omega))))|exact .inr (.inr (.inr (by simpa using h1))))
       have hL:=adL_n (l:=l) (e:=e) (by rw[hc];decide)
       rw[hc,hL]
       refine end_ret ?_ ⟨rfl,rfl,trivial⟩
       rfl
      ·intro h6
       refine aK<|gT<|aS<|aS ?_
       have hd:diskOk l.disk=true:=by first|(have h:=h6;simpa using h;done)|(have h:=h5;simpa using h;done)|(have h:=h4;simpa using h;done)|(have h:=h3;simpa using h;done)|(have h:=h2;simpa using h;done)|(have h:=h1;simpa using h;done)
       have hi:inB l.next 0 l.disk.cells.length=true:=inB_iff.2 (by
        have h1:=h2
        have h2:=h3
        simp only[decide_eq_false_iff_not]at h1 h2
        omega)
       have hp:inB l.epoch 1 16000000=true:=inB_iff.2 (by
        have h1:=h4
        have h2:=h5
        simp only[decide_eq_false_iff_not]at h1 h2
        omega)
       have he:eventOk e=true:=by first|(have h:=h6;simpa using h;done)|(have h:=h5;simpa using h;done)|(have h:=h4;simpa using h;done)|(have h:=h3;simpa using h;done)|(have h:=h2;simpa using h;done)|(have h:=h1;simpa using h;done)
       have hsz:=(dok_iff hd).1
       have hi2:=inB_iff.1 hi
       refine aL<|lf 2 ty.F36_1 Z<|loI ty.kd3 Z<|lf 0 ty.F36_0 Z<|lf 0 ty.F34_0 Z<|loL ty.kd31 Z<|lnI ty.sl31 Z ?_
       refine AL.slot 51 (int (l.disk.cells.length:Int)) (congrArg (fun n:Nat=>int (n:Int)) (rowsC_len _)) ?_
       refine lbB Z<|lmB Z ?_
       refine AL.bool (t:=53) rfl ?_ ?_
       ·intro h7
        refine lno Z<|lno Z<|lno Z<|lno Z<|lno Z<|lkT Z<|nG<|aY Z<|sL<|lq (rd (x:=.agg [vV _,vV _,vI _ _,vI _ _]) (rd_build Z ty.sa36 Z Z Z) Z)<|lst (zB 2004 ty.co36 ty.inf36 Z) Z<|lT [2,3,4,5] [2002,2003,2004] ?_
        refine laI Z<|nG ?_
        refine AW.adoptB 1 2004 0 115 1 rfl (by decide) rfl ?_
        refine AW.adoptB 2 2004 1 123 2 rfl (by decide) rfl ?_
        refine aR<|rT ?_
        have hc:lgAddC l e=2:=ad2 hd hi hp he (by first|exact .inl (by have h:=h7;simp only[decide_eq_true_eq]at h;omega)|exact .inr (by have h:=h7;simp only[ge_iff_le,decide_eq_true_eq]at h;omega)|exact .inl (by have h:=h6;simp only[decide_eq_true_eq]at h;omega)|exact .inr (by have h:=h6;simp only[ge_iff_le,decide_eq_true_eq]at h;omega)|exact .inl (by have h:=h5;simp only[decide_eq_true_eq]at h;omega)|exact .inr (by have h:=h5;simp only[ge_iff_le,decide_eq_true_eq]at h;omega)|exact .inl (by have h:=h4;simp only[decide_eq_true_eq]at h;omega)|exact .inr (by have h:=h4;simp only[ge_iff_le,decide_eq_true_eq]at h;omega)|exact .inl (by have h:=h3;simp only[decide_eq_true_eq]at h;omega)|exact .inr (by have h:=h3;simp only[ge_iff_le,decide_eq_true_eq]at h;omega)|exact .inl (by have h:=h2;simp only[decide_eq_true_eq]at h;omega)|exact .inr (by have h:=h2;simp only[ge_iff_le,decide_eq_true_eq]at h;omega)|exact .inl (by have h:=h1;simp only[decide_eq_true_eq]at h;omega)|exact .inr (by have h:=h1;simp only[ge_iff_le,decide_eq_true_eq]at h;omega))
        have hL:=adL_n (l:=l) (e:=e) (by rw[hc];decide)
        rw[hc,hL]
        refine end_ret ?_ ⟨rfl,rfl,trivial⟩
        rfl
       ·intro h7
        refine lf 0 ty.F36_0 Z<|lf 1 ty.F34_1 Z<|loL ty.kd32 Z<|lnI ty.sl32 Z ?_
        refine AL.slot 57 (int (l.disk.dirty.length:Int)) (congrArg (fun n:Nat=>int (n:Int)) (rowsW_len _)) ?_
        refine lbB Z<|lkB Z<|nG ?_
        refine AW.cond rfl ?_ ?_
        ·intro h8
         refine sL<|lq (rd (x:=.agg [vV _,vV _,vI _ _,vI _ _]) (rd_build Z ty.sa36 Z Z Z) Z)<|lst (zB 2004 ty.co36 ty.inf36 Z) Z<|laI Z<|nG ?_
         refine AW.adoptB 1 2004 0 115 1 rfl (by decide) rfl ?_
         refine AW.adoptB 2 2004 1 123 2 rfl (by decide) rfl ?_
         refine aR<|rT ?_
         have hc:lgAddC l e=2:=ad2 hd hi hp he (by first|exact .inl (by have h:=h8;simp only[decide_eq_true_eq]at h;omega)|exact .inr (by have h:=h8;simp only[ge_iff_le,decide_eq_true_eq]at h;omega)|exact .inl (by have h:=h7;simp only[decide_eq_true_eq]at h;omega)|exact .inr (by have h:=h7;simp only[ge_iff_le,decide_eq_true_eq]at h;omega)|exact .inl (by have h:=h6;simp only[decide_eq_true_eq]at h;omega)|exact .inr (by have h:=h6;simp only[ge_iff_le,decide_eq_true_eq]at h;omega)|exact .inl (by have h:=h5;simp only[decide_eq_true_eq]at h;omega)|exact .inr (by have h:=h5;simp only[ge_iff_le,decide_eq_true_eq]at h;omega)|exact .inl (by have h:=h4;simp only[decide_eq_true_eq]at h;omega)|exact .inr (by have h:=h4;simp only[ge_iff_le,decide_eq_true_eq]at h;omega)|exact .inl (by have h:=h3;simp only[decide_eq_true_eq]at h;omega)|exact .inr (by have h:=h3;simp only[ge_iff_le,decide_eq_true_eq]at h;omega)|exact .inl (by have h:=h2;simp only[decide_eq_true_eq]at h;omega)|exact .inr (by have h:=h2;simp only[ge_iff_le,decide_eq_true_eq]at h;omega)|exact .inl (by have h:=h1;simp only[decide_eq_true_eq]at h;omega)|exact .inr (by have h:=h1;simp only[ge_iff_le,decide_eq_true_eq]at h;omega))
         have hL:=adL_n (l:=l) (e:=e) (by rw[hc];decide)
         rw[hc,hL]
         refine end_ret ?_ ⟨rfl,rfl,trivial⟩
         rfl
        ·intro h8
         refine aK<|gT<|aS ?_
         have hn:¬(l.next=l.disk.cells.length∨600≤l.disk.dirty.length):=by
          have h1:=h7
          have h2:=h8
          simp only[ge_iff_le,decide_eq_false_iff_not]at h1 h2
          omega
         have hS:=adSec (e:=e) hd hi hp (by omega)
         have hBl:(secB (⟨l.next,l.epoch,evB e⟩:Sector)).length=128:=secB_length (by rw[show ((⟨l.next,l.epoch,evB e⟩:Sector)).body=evB e from rfl,evB_length];decide)
         refine aL<|loX (.agg [vI _ _,vI _ _,vI _ _,vI _ _,vI _ _,vI _ _,vB _]) ty.kd40 Z<|lst (zC [] [] [] Try.func43 (seventBody_e e) (trivial) Z Z) Z ?_
         refine AL.slot 63 (.tup [byV (evB e),boo true]) (Eq.trans (b:=AV.tup [byV (evX e),boo (eventOk e)]) rfl (by rw[evX_y he,he])) ?_
         refine lmX (.tup [vL _ _ _,vB _]) Z<|lxL Z<|lxB Z<|laL Z<|laB Z<|nA<|lf 2 ty.F36_1 Z<|loI ty.kd3 Z<|lf 3 ty.F36_2 Z<|loI ty.kd3 Z<|lmL Z<|lq (rd (x:=.agg [vI _ _,vI _ _,vL _ _ _]) (rd_build Z ty.sa92 Z Z Z) Z) ?_
         refine lst (zC [] [] [] Try.func44 (ssectorBytes_e (⟨l.next,l.epoch,evB e⟩:Sector)) (trivial) rfl rfl) rfl ?_
         refine AL.slot 73 (.tup [byV (secB (⟨l.next,l.epoch,evB e⟩:Sector)),boo true]) (Eq.trans (b:=AV.tup [byV (secX (⟨l.next,l.epoch,evB e⟩:Sector)),boo (secOk (⟨l.next,l.epoch,evB e⟩:Sector))]) rfl (by rw[secX_y hS,hS])) ?_
         refine lT [2,4,5,73] [2002,2003,2004] ?_
         refine lmX (.tup [vL _ _ _,vB _]) Z<|lxL Z<|lxB Z<|laL Z<|laB Z<|nA<|lf 0 ty.F36_0 Z<|loX (.agg [vL _ _ _,vL _ _ _]) ty.kd34 Z<|lf 2 ty.F36_1 Z<|loI ty.kd3 Z<|lsN 80 ((l.next.toNat:Nat):Int) rfl (by omega)<|lmL rfl ?_
         refine lst (zC [(1,1),(2,2)] [1,2] [] Try.func45 (sdiskWrite_o l.disk l.next.toNat (secB (⟨l.next,l.epoch,evB e⟩:Sector)) hd (by omega) (by omega) hBl) (trivial) rfl rfl) Z<|lmX (.tup [.agg [.own _,.own _],vB true]) Z<|lxX (.agg [.own _,.own _]) Z<|lxX (vB true) Z<|lst (zA 2010 ty.ze34 rfl) Z<|lT [2,4,5,10,83,84] [1,2,2002,2003,2004,2010] ?_
         refine lst (zB 2010 ty.co34 ty.inf34 Z) Z<|laT Z<|nA<|loX (.agg [.own _,.own _]) ty.kd34 Z<|lf 2 ty.F36_1 Z<|loI ty.kd3 Z<|lgI Z<|lf 3 ty.F36_2 Z<|loI ty.kd3 Z<|lq (rd (x:=.agg [.own _,.own _,vI _ _,vI _ _]) (rd_build Z ty.sa36 Z Z Z) Z)<|lst (zB 2004 ty.co36 ty.inf36 Z) Z<|laI Z<|nG<|aR ?_
         have hc:lgAddC l e=0:=ad0 hd hi hp he hn
         have hL:=adL_y hc
         rw[hc,hL]
         refine end_ret ?_ ⟨rfl,rfl,trivial⟩
         rfl

section
variable {α:Type}(n:α→Int)(g:α→Int→α)
def cntG:List α→Int
 |[]=>0
 |x::l=>n x+cntG l
def mkG:List α→Int→List α
 |[],_=>[]
 |x::l,k=>g x k::mkG l (k+n x)
def mkJ(l:List α)(k:Int)(j:Nat):List α:=mkG n g (l.take j) k++l.drop j
def szG:List α→Int→Int
 |[],l=>l
 |x::r,l=>if l-n x<0 then -1 else szG r (l-n x)
variable {n g}
theorem cntG_app:∀ {a b:List α},cntG n (a++b)=cntG n a+cntG n b
 |[],b=>by simp[cntG]
 |x::a,b=>by rw[List.cons_append,cntG,cntG,cntG_app];omega
theorem cntG_bd{B:Int}:∀ {l:List α},(∀x∈l,0≤n x∧n x≤B)→0≤cntG n l∧cntG n l≤B*(l.length:Int)
 |[],_=>by simp[cntG]
 |x::l,h=>by
  have h1:=h x (by simp)
  have h2:=cntG_bd (l:=l) (fun q hq=>h q (by simp[hq]))
  rw[cntG,List.length_cons,Int.natCast_add,Int.mul_add]
  simp only[Int.cast_ofNat_Int,Int.mul_one]
  omega
theorem cntG_nn(h:∀x,0≤n x):∀(l:List α),0≤cntG n l
 |[]=>by simp[cntG]
 |x::l=>by rw[cntG];have:=h x;have:=cntG_nn h l;omega
theorem cntG_mem(h:∀x,0≤n x):∀ {l:List α} {x:α},x∈l→n x≤cntG n l
 |y::l,x,hx=>by
  rw[cntG]
  have:=cntG_nn h l
  rcases List.mem_cons.1 hx with rfl|hx
  ·omega
  ·have:=cntG_mem h hx;have:=h y;omega
theorem cntG_take{l:List α}{j:Nat}(h:j<l.length):cntG n (l.take (j+1))=cntG n (l.take j)+n l[j]:=by
 rw[List.take_succ_eq_append_getElem h,cntG_app];simp[cntG]
theorem cntG_le(h:∀x,0≤n x){l:List α}{j:Nat}:cntG n (l.take j)≤cntG n l:=by
 have e:cntG n l=cntG n (l.take j)+cntG n (l.drop j):=by rw[←cntG_app,List.take_append_drop]
 have:=cntG_nn h (l.drop j)
 omega
theorem mkG_len:∀ {l:List α} {k:Int},(mkG n g l k).length=l.length
 |[],_=>rfl
 |p::ps,k=>by unfold mkG;rw[List.length_cons,List.length_cons,mkG_len]
theorem mkG_app:∀ {a b:List α} {k:Int},mkG n g (a++b) k=mkG n g a k++mkG n g b (k+cntG n a)
 |[],b,k=>by simp[mkG,cntG]
 |p::a,b,k=>by
  rw[List.cons_append,mkG,mkG,mkG_app,cntG,List.cons_append]
  congr 3;omega
theorem mkG_get:∀ {ps:List α} {k:Int} {j:Nat} (h:j<ps.length),(mkG n g ps k)[j]'(by rw[mkG_len];exact h)=g ps[j] (k+cntG n (ps.take j))
 |p::ps,k,0,h=>by simp[mkG,cntG]
 |p::ps,k,j+1,h=>by
  have:=mkG_get (ps:=ps) (k:=k+n p) (j:=j) (by simpa using h)
  simp only[mkG,List.getElem_cons_succ,this,List.take_succ_cons,cntG]
  congr 1;omega
theorem mkJ_len{ps:List α}{k:Int}{j:Nat}:(mkJ n g ps k j).length=ps.length:=by unfold mkJ;rw[List.length_append,mkG_len,List.length_take,List.length_drop];omega
theorem mkJ_zero{ps:List α}{k:Int}:mkJ n g ps k 0=ps:=by unfold mkJ;rw[List.take_zero,List.drop_zero];rfl
theorem mkJ_all{ps:List α}{k:Int}:mkJ n g ps k ps.length=mkG n g ps k:=by unfold mkJ;rw[List.take_length,List.drop_length,List.append_nil]
theorem mkJ_at{ps:List α}{k:Int}{j:Nat}(h:j<ps.length):(mkJ n g ps k j)[j]'(by rw[mkJ_len];exact h)=ps[j]:=by
 unfold mkJ
 have hl:(mkG n g (ps.take j) k).length=j:=by rw[mkG_len,List.length_take];omega
 rw[List.getElem_append_right (by omega)]
 simp[hl]
theorem mkJ_succ{ps:List α}{k:Int}{j:Nat}(h:j<ps.length):mkJ n g ps k (j+1)=(mkJ n g ps k j).set j (g ps[j] (k+cntG n (ps.take j))):=by
 unfold mkJ
 have hl:(mkG n g (ps.take j) k).length=j:=by rw[mkG_len,List.length_take];omega
 rw[List.take_succ_eq_append_getElem h,mkG_app,List.set_append_right _ _ (by omega),hl,Nat.sub_self,List.drop_eq_getElem_cons h,List.set_cons_zero,List.append_assoc]
 rfl
theorem szG_lo(h:∀x,0≤n x):∀(l:List α) (x:Int),-1≤x→-1≤szG n l x
 |[],x,hx=>hx
 |y::l,x,hx=>by
  unfold szG
  split
  ·omega
  ·exact szG_lo h l _ (by omega)
theorem szG_y(h:∀x,0≤n x):∀(l:List α) (x:Int),0≤x→0≤szG n l x→cntG n l≤x∧szG n l x=x-cntG n l
 |[],x,hx,_=>by simp[cntG,szG,hx]
 |y::l,x,hx,hs=>by
  unfold szG at hs ⊢
  split at hs
  ·omega
  ·rename_i q
   rw[if_neg q,cntG]
   have:=szG_y h l (x-n y) (by omega) hs
   omega
theorem szG_drop{l:List α}{j:Nat}(h:j<l.length)(x:Int):szG n (l.drop j) x=if x-n l[j]<0 then -1 else szG n (l.drop (j+1)) (x-n l[j]):=by
 rw[List.drop_eq_getElem_cons h];rfl
end
abbrev mCe(c:Cell):Int:=(c.bytes.length:Int)
abbrev mWr(w:Write):Int:=1+(w.bytes.length:Int)
abbrev mBy(w:Write):Int:=(w.bytes.length:Int)
abbrev mkdB(k:Int)(m:Nat):List Int:=mkLs (fun k=>k%256) 1 k m
abbrev gCe(c:Cell)(k:Int):Cell:=⟨mkdB k c.bytes.length⟩
abbrev gWr(w:Write)(k:Int):Write:=⟨k,mkdB (k+1) w.bytes.length⟩
theorem mCe_nn(c:Cell):0≤mCe c:=Int.natCast_nonneg _
theorem mWr_nn(w:Write):0≤mWr w:=by unfold mWr;omega
theorem mBy_nn(w:Write):0≤mBy w:=Int.natCast_nonneg _
def dcnt(d:Disk):Int:=cntG mCe d.cells+cntG mWr d.dirty
def mkDk(d:Disk)(k:Int):Disk:=⟨mkG mCe gCe d.cells k,mkG mWr gWr d.dirty (k+cntG mCe d.cells)⟩
def szB(m:Nat)(l:Int):Int:=if l-(m:Int)<0 then -1 else l-(m:Int)
def szCs(cs:List Cell)(l:Int):Int:=if l-(cs.length:Int)<0 then -1 else szG mCe cs (l-(cs.length:Int))
def szWs(ws:List Write)(l:Int):Int:=if l-(ws.length:Int)<0 then -1 else szG mBy ws (l-(ws.length:Int))
def szD(d:Disk)(l:Int):Int:=if szCs d.cells l<0 then -1 else szWs d.dirty (szCs d.cells l)
theorem szCs_y{cs:List Cell}{l:Int}(h:0≤szCs cs l):(cs.length:Int)+cntG mCe cs≤l∧szCs cs l≤l:=by
 unfold szCs at *
 split at h
 ·omega
 ·rename_i q
  rw[if_neg q]
  have:=szG_y mCe_nn cs _ (by omega) h
  have:=cntG_nn mCe_nn cs
  omega
theorem szWs_y{ws:List Write}{l:Int}(h:0≤szWs ws l):(ws.length:Int)+cntG mBy ws≤l∧szWs ws l≤l:=by
 unfold szWs at *
 split at h
 ·omega
 ·rename_i q
  rw[if_neg q]
  have:=szG_y mBy_nn ws _ (by omega) h
  have:=cntG_nn mBy_nn ws
  omega
theorem szCs_lo(cs:List Cell)(l:Int):-1≤szCs cs l:=by
 unfold szCs
 split
 ·omega
 ·exact szG_lo mCe_nn cs _ (by omega)
theorem szWs_lo(ws:List Write)(l:Int):-1≤szWs ws l:=by
 unfold szWs
 split
 ·omega
 ·exact szG_lo mBy_nn ws _ (by omega)
theorem cntW_B:∀(ws:List Write),cntG mWr ws=(ws.length:Int)+cntG mBy ws
 |[]=>rfl
 |w::ws=>by rw[cntG,cntG,cntW_B ws,List.length_cons];unfold mWr mBy;omega
structure DkZ(d:Disk):Prop where
 lc:d.cells.length≤1048576
 lw:d.dirty.length≤1048576
 bc:∀c∈d.cells,c.bytes.length≤1048576
 bw:∀w∈d.dirty,w.bytes.length≤1048576
 cc:cntG mCe d.cells≤1048576
 cw:cntG mWr d.dirty≤1048576
theorem szD_y{d:Disk}(h:0≤szD d 1048576):DkZ d:=by
 unfold szD at h
 split at h
 ·omega
 ·rename_i q
  have h1:=szCs_y (cs:=d.cells) (l:=1048576) (by omega)
  have h2:=szWs_y h
  have h3:=cntG_nn mCe_nn d.cells
  have h4:=cntG_nn mBy_nn d.dirty
  refine⟨by omega,by omega,fun c hc=>?_,fun w hw=>?_,by omega,by rw[cntW_B];omega⟩
  ·have:(c.bytes.length:Int)≤_:=cntG_mem mCe_nn hc;omega
  ·have:(w.bytes.length:Int)≤_:=cntG_mem mBy_nn hw;omega
theorem famB_put{vs:List Value}{bs:List (List Int)}{j:Nat}{v:Value}{b:List Int}(hv:vs[j]? = some v):famB vs (bs.set j b)=(famB vs bs).set j (.arr ⟨5,some v⟩ 1 (rowsOf encU b)):=by
 unfold famB
 refine List.ext_getElem? fun i=>?_
 rw[List.getElem?_zipWith,List.getElem?_set,List.getElem?_set,List.length_zipWith,List.getElem?_zipWith]
 by_cases q:j=i
 ·subst q
  have hl:=(List.getElem?_eq_some_iff.1 hv).1
  simp only[if_true,hv]
  by_cases z:j<bs.length
  ·rw[if_pos z,if_pos (by omega)]
  ·rw[if_neg z,if_neg (by omega)]
 ·rw[if_neg q,if_neg q]
theorem famC_put{vs:List Value}{cs:List Cell}{j:Nat}{v:Value}{b:List Int}(hv:vs[j]? = some v):famB vs (byC (cs.set j ⟨b⟩))=(famB vs (byC cs)).set j (.arr ⟨5,some v⟩ 1 (rowsOf encU b)):=by
 unfold byC;rw[List.map_set];exact famB_put hv
theorem famW_put{vs:List Value}{ws:List Write}{j:Nat}{v:Value}{w:Write}(hv:vs[j]? = some v):famB vs (byW (ws.set j w))=(famB vs (byW ws)).set j (.arr ⟨5,some v⟩ 1 (rowsOf encU w.bytes)):=by
 unfold byW;rw[List.map_set];exact famB_put hv
theorem rowsWV_set{vs:List Value}{ws:List Write}{j:Nat}{w:Write}{v:Value}(hv:vs[j]? = some v):rowsWV vs (ws.set j w)=(rowsWV vs ws).set j [.v (.int .i64 w.at_),.v v]:=by
 unfold rowsWV
 refine List.ext_getElem? fun i=>?_
 rw[List.getElem?_zipWith,List.getElem?_set,List.getElem?_set,List.length_zipWith,List.getElem?_zipWith]
 by_cases q:j=i
 ·subst q
  have hl:=(List.getElem?_eq_some_iff.1 hv).1
  simp only[if_true,hv]
  by_cases z:j<ws.length
  ·rw[if_pos z,if_pos (by omega)]
  ·rw[if_neg z,if_neg (by omega)]
 ·rw[if_neg q,if_neg q]
theorem rowF.set{F:List AO}{j:Nat}{o:AO}(h:rowF F)(ho:rowO o=true):rowF (F.set j o):=fun x hx=>by
 rcases List.mem_or_eq_of_mem_set hx with q|rfl
 ·exact h x q
 ·exact ho
section
variable {L:Nat→Prop}{ρ:Nat→Value}{H:Nat→AO}
theorem RWR.each{α:Type}{row:α→List PV}{sz:Nat}{rep:World→Nat→Nat→List Value→α→Prop}{w:World}{lo hi b:Nat}(hr:∀cs x,rep w lo hi cs x→cs.length=sz∧∃fp,RWL w false (row x) cs fp)(hs:∀x,(row x).length=sz) :
 ∀ {xs:List α} {off:Nat},Elems sz rep w lo hi b off xs→∃cs fp,RWR w false sz (xs.map row) cs fp∧CellsAt w b off cs∧cs.length=sz*xs.length
 |[],off,_=>⟨[],[],by rw[List.map_nil,RWR];exact⟨rfl,rfl⟩,fun j v hj=>by simp at hj,rfl⟩
 |x::xs,off,h=>by
  obtain⟨cs,h1,h2⟩:=h 0 (by simp)
  obtain⟨hl,fp,h3⟩:=hr cs _ h1
  have ht:Elems sz rep w lo hi b (off+sz) xs:=fun i hi'=>by
   obtain⟨c,k1,k2⟩:=h (i+1) (by simpa using hi')
   refine⟨c,by simpa using k1,?_⟩
   rw[show off+sz+i*sz=off+(i+1)*sz by rw[Nat.add_mul];omega];exact k2
  obtain⟨cs2,fp2,q1,q2,q3⟩:=RWR.each hr hs ht
  refine⟨cs++cs2,fp++fp2,?_,fun j v hj=>?_,by rw[List.length_append,hl,q3,List.length_cons,Nat.mul_add];omega⟩
  ·rw[List.map_cons,RWR]
   exact⟨hs x,cs,cs2,fp,fp2,rfl,rfl,h3,q1⟩
  ·rcases Nat.lt_or_ge j cs.length with z|z
   ·rw[List.getElem?_append_left z]at hj
    have:=h2 j v hj
    simpa using this
   ·rw[List.getElem?_append_right z]at hj
    have:=q2 _ v hj
    rw[hl]at this
    rwa [show off+sz+(j-sz)=off+j by omega]at this
theorem RV.of_slrD{α:Type}{row:α→List PV}{sz:Nat}{rep:World→Nat→Nat→List Value→α→Prop}{w:World}{lo hi:Nat}{v:Value}{xs:List α}{e:TypeId}(h:SlR sz rep w lo hi v xs)(hr:∀cs x,rep w lo hi cs x→cs.length=sz∧∃fp,RWL w false (row x) cs fp)(hs:∀x,(row x).length=sz)
 (hhi:hi≤w.heap.size):∃fp,RW w false (.lst e sz (xs.map row)) v fp:=by
 obtain⟨a,cap,rfl,c1,c2,hsl⟩:=h
 rcases hsl with hz|⟨b,off,rfl,b1,b2,hel⟩
 ·have:xs=[]:=List.length_eq_zero_iff.1 (by simpa using hz)
  subst this
  refine⟨[]++[],?_⟩
  rw[RW]
  refine⟨[],[],[],by rw[List.map_nil,RWR];exact⟨rfl,rfl⟩,?_,rfl⟩
  unfold SlAt
  simp only[Bool.false_eq_true,if_false]
  exact⟨_,_,rfl,by simp,c2,.inl ⟨rfl,trivial⟩⟩
 ·obtain⟨cs,fp,q1,q2,q3⟩:=RWR.each hr hs hel
  refine⟨[b]++fp,?_⟩
  rw[RW]
  refine⟨cs,[b],fp,q1,?_,rfl⟩
  unfold SlAt
  simp only[Bool.false_eq_true,if_false]
  exact⟨_,_,by rw[List.length_map],by rw[List.length_map];exact c1,c2,.inr ⟨b,off,rfl,q2,by omega,rfl⟩⟩
end

theorem toEvent_e(x:Event):GC Try.prog 12 [.agg [int x.kind,int x.key,int x.ch,int x.to,int x.amt,int x.fee,boo x.yes]] [] (.agg [int x.kind,int x.key,int x.ch,int x.to,int x.amt,int x.fee,boo x.yes]) []:=by
 refine GC.intro (rs:=[.cell 2 40 (some 7)]) Try.func12 rfl Try.ntmps12 (Nat.le_of_ble_eq_true rfl) ⟨rfl,rfl,ty.kd40,trivial⟩ ?_
 intro L O w0
 refine sL<|lst (zX 2001 Z) Z<|lst (zA 2002 ty.ze40 Z) Z<|nA<|lst (zA 2003 ty.ze40 Z) Z<|nA<|lf 0 ty.F29_0 Z<|loI ty.kd3 Z<|lf 0 ty.F40_0 Z<|lst (zB 2003 ty.co3 ty.inf3 Z) Z<|nA<|lf 1 ty.F29_1 Z<|loI ty.kd3 Z<|lf 1 ty.F40_1 Z<|lst (zB 2003 ty.co3 ty.inf3 Z) Z<|nA<|lf 2 ty.F29_2 Z ?_
 refine loI ty.kd3 Z<|lf 2 ty.F40_2 Z<|lst (zB 2003 ty.co3 ty.inf3 Z) Z<|lT [1,2,3] [2001,2002,2003] ?_
 refine nA<|lf 3 ty.F29_3 Z<|loI ty.kd3 Z<|lf 3 ty.F40_3 Z<|lst (zB 2003 ty.co3 ty.inf3 Z) Z<|nA<|lf 4 ty.F29_4 Z<|loI ty.kd3 Z<|lf 4 ty.F40_4 Z<|lst (zB 2003 ty.co3 ty.inf3 Z) Z<|nA<|lf 5 ty.F29_5 Z<|loI ty.kd3 Z<|lf 5 ty.F40_5 Z<|lst (zB 2003 ty.co3 ty.inf3 Z) Z<|nA<|lf 6 ty.F29_6 Z<|loB ty.kd4 Z ?_
 refine lf 6 ty.F40_6 Z<|lst (zB 2003 ty.co4 ty.inf4 Z) Z<|lT [2,3] [2001,2002,2003] ?_
 refine nA<|loX (.agg [vI _ _,vI _ _,vI _ _,vI _ _,vI _ _,vI _ _,vB _]) ty.kd40 Z<|lst (zB 2002 ty.co40 ty.inf40 Z) Z<|nG<|aR ?_
 refine end_ret ?_ trivial
 rfl

abbrev ldiskV(d:Disk):AV:=.agg [.p (.lst 149 1 (rowsC d.cells)),.p (.lst 151 2 (rowsW d.dirty))]
abbrev llogV(l:Log):AV:=.agg [.p (.lst 149 1 (rowsC l.disk.cells)),.p (.lst 151 2 (rowsW l.disk.dirty)),int l.next,int l.epoch]
theorem toByteS_o(b:List Int)(hl:b.length≤1048576):GC Try.prog 137 [byV b] [] (.own 1) [(1,yAr b)]:=by
 refine gi 2 Try.func137 rfl Try.ntmps137 rfl ?_
 intro L O w0
 refine sL<|laV Z<|nA<|lmL Z<|lnI ty.sl56 Z<|lst (St.make 1 (m:=b.length) rfl rfl (by decide) ty.el56 ty.ze5 rfl rfl rfl ?hn1 ?hn2 (Nat.le_trans (Nat.mul_le_mul_right _ ty.by5) (by omega)) (by unfold maxLen;omega)) rfl ?_
 case hn1=>rw[length_rowsOf]
 case hn2=>rw[length_rowsOf]
 refine laO Z<|nG<|aS<|sL<|laI Z<|nG<|aB ?_
 refine aW [0,2,3] [] (D:=Nat) (fun k=>[(4,int (k:Int))]) (fun k=>[(1,.arr 5 1 (fill (rowsOf encU b) [.v (.int .u8 0)] k))]) (fun k=>k≤b.length) (fun k=>b.length-k) (0) (Nat.zero_le _) ⟨rfl,trivial⟩ ⟨(congrArg (fun q=>AO.arr 5 1 q) (by rw[fill_zero,length_rowsOf];rfl)),trivial⟩ ?_
 intro k hI
 refine aS<|sL<|lmI Z<|lmL Z<|lnI ty.sl56 Z<|lbB Z<|nG ?_
 refine AW.cond rfl ?_ ?_
 ·intro h1
  refine aK<|gT<|aS<|aB ?_
  have hk:k<b.length:=by have h:=h1;simp only[length_rowsOf,decide_eq_true_eq]at h;omega
  refine aL<|lmO Z<|lmI Z<|lmL Z<|lmI Z<|li k ty.el56 rfl (row_map hk)<|lrI ty.kd5 Z<|lq (rj k ty.el56 rfl (by rw[fill_len _ (by rw[length_rowsOf];omega),length_rowsOf];exact hk))<|lst (zQ 1 [.v (.int .u8 b[k])] ty.co5 ty.inf5 rfl (fill_get (by rw[length_rowsOf];exact hk))) Z<|lT [0,2,3,4] [1] ?_
  refine lN<|gB<|gT<|aL<|lmI Z<|lgI Z<|laI Z<|nG ?_
  refine⟨k+1,hk,by omega,⟨(iq rfl),trivial⟩,⟨(Eq.trans (b:=AO.arr 5 1 ((fill (rowsOf encU b) [.v (.int .u8 0)] k).set k ((encU b[k]).map PV.v))) rfl (congrArg (fun q=>AO.arr 5 1 q) (fill_set (row_map hk)))),trivial⟩,rfl,rfl⟩
 ·intro h1
  refine aE<|eT<|eT<|eB<|gA<|lmO Z<|laO Z<|nG<|aR ?_
  refine end_ret ?_ ⟨(congrArg (fun q=>AO.arr 5 1 q) (by have h:=h1;simp only[length_rowsOf,decide_eq_false_iff_not]at h;rw[show k=(rowsOf encU b).length by rw[length_rowsOf];omega,fill_all])),trivial⟩
  rfl
theorem toByteS_n(b:List Int)(hl:b.length≤1048576):GN Try.prog 137 [byV b] [] [] (oneR 5 1 (rowsOf encU b)):=(toByteS_o b hl).fam1 flat_rowsOf
def cellR(c:Cell):AV→List (Nat×AO)→List AO→Prop:=fun y l1 F1=>∃u,y=.agg [.p (.v u)]∧l1=[]∧F1=[uAr u c.bytes]
def writeR(c:Write):AV→List (Nat×AO)→List AO→Prop:=fun y l1 F1=>∃u,y=.agg [int c.at_,.p (.v u)]∧l1=[]∧F1=[uAr u c.bytes]
theorem nil_rows{vs:List Value}{n k:Nat}{z c:List PV}(hv:vs.length=k)(hk:k<n):(rowsCV vs++List.replicate (n-k) z).set k c=rowsCV vs++[c]++List.replicate (n-(k+1)) z:=by
 rw[List.set_append_right _ _ (by rw[rowsCV_len];omega),rowsCV_len,hv,Nat.sub_self,show n-k=(n-(k+1))+1 by omega,List.replicate_succ,List.set_cons_zero,List.append_assoc];rfl
theorem nil_rowsW{vs:List Value}{ws:List Write}{n k:Nat}{z c:List PV}(hv:(rowsWV vs ws).length=k)(hk:k<n):(rowsWV vs ws++List.replicate (n-k) z).set k c=rowsWV vs ws++[c]++List.replicate (n-(k+1)) z:=by
 rw[List.set_append_right _ _ (by omega),hv,Nat.sub_self,show n-k=(n-(k+1))+1 by omega,List.replicate_succ,List.set_cons_zero,List.append_assoc];rfl
theorem toCell_n(c:Cell)(hl:c.bytes.length≤1048576):GN Try.prog 105 [.agg [byV c.bytes]] [] ([]) (cellR c):=by
 refine GN.intro (rs:=[.cell 2 115 (some 1)]) Try.func105 rfl Try.ntmps105 (Nat.le_of_ble_eq_true rfl) ⟨rfl,rfl,ty.kd115,trivial⟩ rfl ?_
 intro L O w0
 refine sL<|lst (zX 2001 Z) Z<|lst (zA 2002 ty.ze115 Z) Z<|nA<|lst (zA 2003 ty.ze115 Z) Z<|nA<|lf 0 ty.F149_0 Z<|loL ty.kd56 Z ?_
 refine AL.stx (StX.callN (F:=[]) [] [] [] ([]).length Try.func137 (toByteS_n c.bytes hl) tlp List.drop_length List.take_length (Nat.le_refl _) ((by simp)) (fun _ _ _ _=>trivial) rfl rfl) rfl ?_
 rintro _ _ ⟨xz1,oz1,Fz1,hz1,hF1,hM1,rfl,rfl⟩
 obtain⟨u1,rfl,rfl,rfl⟩:=hz1
 have hrf1:rowF ([]++[uAr u1 c.bytes]):=rowF.app (by first|assumption|exact rowF.nil) hF1
 refine lf 0 ty.F115_0 Z<|lst (zB 2003 ty.co56 ty.inf56 Z) Z<|nA<|loX (.agg [vV _]) ty.kd115 Z<|lst (zB 2002 ty.co115 ty.inf115 Z) Z<|nG<|aR ?_
 skip
 refine end_nret (F1:=([]++[uAr u1 c.bytes])) (.agg [.p (.v u1)]) ([]) ?_ (by simp) rfl rfl trivial tlp
 exact⟨u1,rfl,rfl,rfl⟩
theorem toWrite_n(c:Write)(hl:c.bytes.length≤1048576):GN Try.prog 106 [.agg [int c.at_,byV c.bytes]] [] ([]) (writeR c):=by
 refine GN.intro (rs:=[.cell 2 123 (some 2)]) Try.func106 rfl Try.ntmps106 (Nat.le_of_ble_eq_true rfl) ⟨rfl,rfl,ty.kd123,trivial⟩ rfl ?_
 intro L O w0
 refine sL<|lst (zX 2001 Z) Z<|lst (zA 2002 ty.ze123 Z) Z<|nA<|lst (zA 2003 ty.ze123 Z) Z<|nA<|lf 0 ty.F151_0 Z<|loI ty.kd3 Z<|lf 0 ty.F123_0 Z<|lst (zB 2003 ty.co3 ty.inf3 Z) Z<|nA<|lf 1 ty.F151_1 Z<|loL ty.kd56 Z ?_
 refine AL.stx (StX.callN (F:=[]) [] [] [] ([]).length Try.func137 (toByteS_n c.bytes hl) tlp List.drop_length List.take_length (Nat.le_refl _) ((by simp)) (fun _ _ _ _=>trivial) rfl rfl) rfl ?_
 rintro _ _ ⟨xz1,oz1,Fz1,hz1,hF1,hM1,rfl,rfl⟩
 obtain⟨u1,rfl,rfl,rfl⟩:=hz1
 have hrf1:rowF ([]++[uAr u1 c.bytes]):=rowF.app (by first|assumption|exact rowF.nil) hF1
 refine lf 1 ty.F123_1 Z<|lst (zB 2003 ty.co56 ty.inf56 Z) Z<|nA<|loX (.agg [vI _ _,vV _]) ty.kd123 Z<|lst (zB 2002 ty.co123 ty.inf123 Z) Z ?_
 refine lTt (([]++[uAr u1 c.bytes])) [2] [2001,2002,2003] ?_
 refine nG<|aR ?_
 skip
 refine end_nret (F1:=([]++[uAr u1 c.bytes])) (.agg [int c.at_,.p (.v u1)]) ([]) ?_ (by simp) rfl rfl trivial tlp
 exact⟨u1,rfl,rfl,rfl⟩
def cellsR(cs:List Cell):AV→List (Nat×AO)→List AO→Prop:=fun y l1 F1=>∃vs:List Value,vs.length=cs.length∧y=.own 1∧l1=[(1,.arr 115 1 (rowsCV vs))]∧F1=famB vs (byC cs)
def writesR(ws:List Write):AV→List (Nat×AO)→List AO→Prop:=fun y l1 F1=>∃vs:List Value,vs.length=ws.length∧y=.own 1∧l1=[(1,.arr 123 2 (rowsWV vs ws))]∧F1=famB vs (byW ws)
theorem toCellS_n(cs:List Cell)(hm:cs.length≤1048576)(hb:∀c∈cs,c.bytes.length≤1048576):GN Try.prog 56 [.p (.lst 149 1 (rowsC cs))] [] ([]) (cellsR cs):=by
 refine GN.intro (rs:=[.tmp 2]) Try.func56 rfl Try.ntmps56 (Nat.le_of_ble_eq_true rfl) ⟨rfl,trivial⟩ rfl ?_
 intro L O w0
 refine sL<|laV Z<|nA<|lmL Z<|lnI ty.sl22 Z ?_
 refine AL.slot 6 (int (cs.length:Int)) (congrArg (fun n:Nat=>int (n:Int)) (rowsC_len _)) ?_
 refine lst (St.make 1 (m:=cs.length) rfl rfl (by decide) ty.el31 ty.ze115 rfl rfl rfl rfl rfl (Nat.le_trans (Nat.mul_le_mul_right _ ty.by115) (by omega)) (by unfold maxLen;omega)) Z<|laO Z<|nG<|aS<|sL<|laI Z<|nG<|aB ?_
 refine AW.loopT (D:=Nat×List Value) [(0,vL _ _ _),(2,vV _),(3,.own _)] [] (fun a=>[(4,int (a.1:Int))]) (fun a=>[(1,.arr 115 1 (rowsCV a.2++List.replicate (cs.length-a.1) [PV.v (.slice none 0 0)]))]) (fun a=>famB a.2 (byC (cs.take a.1))) (fun a=>a.1≤cs.length∧a.2.length=a.1) (fun a=>cs.length-a.1) ((0,[])) (⟨Nat.zero_le _,rfl⟩) ⟨rfl,trivial⟩ ⟨rfl,trivial⟩ ⟨rfl,rfl,rfl,trivial⟩ trivial (by rw[List.take_zero];exact tlp) ?_
 intro ⟨k,vs⟩ hI
 obtain⟨hkl,hvl⟩:=hI
 replace hkl:k≤cs.length:=hkl
 replace hvl:vs.length=k:=hvl
 have hfr:rowF (famB vs (byC (cs.take k))):=famB_row
 have hfl:(famB vs (byC (cs.take k))).length=k:=by rw[famB_len (by rw[List.length_map,List.length_take];omega),List.length_map,List.length_take];omega
 refine aS<|sL<|lmI Z<|lmL Z<|lnI ty.sl22 Z ?_
 refine AL.slot 10 (int (cs.length:Int)) (congrArg (fun n:Nat=>int (n:Int)) (rowsC_len _)) ?_
 refine lbB Z<|nG ?_
 refine AW.cond rfl ?_ ?_
 ·intro h1
  refine aK<|gT<|aS<|aB ?_
  have hk:k<cs.length:=by have h:=h1;simp only[decide_eq_true_eq]at h;omega
  refine aL<|lmO Z<|lmI Z<|lmL Z<|lmI Z<|li k ty.el22 Z (rowsC_at hk)<|lrX (.agg [vL _ _ _]) ty.kd149 Z ?_
  refine AL.stx (StX.callN (F:=famB vs (byC (cs.take k))) [] [] [] (famB vs (byC (cs.take k))).length Try.func105 (toCell_n cs[k] (hb _ (List.getElem_mem hk))) tlp List.drop_length List.take_length (Nat.le_refl _) ((by rw[hfl];omega)) (fun _ _ _ _=>trivial) rfl rfl) rfl ?_
  rintro _ _ ⟨xz1,oz1,Fz1,hz1,hF1,hM1,rfl,rfl⟩
  obtain⟨u1,rfl,rfl,rfl⟩:=hz1
  have hrf1:rowF (famB vs (byC (cs.take k))++[uAr u1 cs[k].bytes]):=rowF.app (by first|assumption|exact rowF.nil) hF1
  refine lTt ((famB vs (byC (cs.take k))++[uAr u1 cs[k].bytes])) [0,2,3,4,14,15,20] [1] ?_
  refine lq (rj k ty.el31 rfl (by show k<(rowsCV vs++List.replicate (cs.length-k) [PV.v (.slice none 0 0)]).length;rw[List.length_append,rowsCV_len,List.length_replicate];omega))<|lst (zQ 1 [.v u1] ty.co115 ty.inf115 rfl ((show (rowsCV vs++List.replicate (cs.length-k) [PV.v (.slice none 0 0)])[k]? = _ by rw[List.getElem?_append_right (by rw[rowsCV_len];omega),rowsCV_len,hvl,Nat.sub_self,List.getElem?_replicate,if_pos (by omega)]))) Z<|lN<|gB<|gT<|aL<|lmI Z<|lgI Z<|laI Z<|nG ?_
  refine⟨(k+1,vs++[u1]),⟨hk,by rw[List.length_append,hvl];rfl⟩,by show cs.length-(k+1)<cs.length-k;omega,⟨(iq rfl),trivial⟩,⟨(Eq.trans (b:=AO.arr 115 1 ((rowsCV vs++List.replicate (cs.length-k) [PV.v (.slice none 0 0)]).set k [.v u1])) rfl (congrArg (AO.arr 115 1) (by rw[nil_rows hvl hk,rowsCV_app]))),trivial⟩,⟨rfl,rfl,rfl,trivial⟩,trivial,(by rw[famC_succ hk hvl];exact tlp)⟩
 ·intro h1
  refine aE<|eT<|eT<|eB<|gT<|aS ?_
  have hke:k=cs.length:=by have h:=h1;simp only[decide_eq_false_iff_not]at h;omega
  subst hke
  rw[List.take_length]at hfr hfl ⊢
  refine AW.obj 1 (.arr 115 1 (rowsCV vs)) (congrArg (AO.arr 115 1) (by rw[show ((cs.length,vs):Nat×List Value).1=cs.length from rfl,Nat.sub_self];simp)) ?_
  refine aL<|lmO Z<|laO Z<|nG<|aR ?_
  skip
  refine end_nret (F1:=(famB vs (byC cs))) (.own 1) ([(1,.arr 115 1 (rowsCV vs))]) ?_ (by rw[hfl];omega) rfl rfl ⟨rfl,trivial⟩ tlp
  exact⟨vs,hvl,rfl,rfl,rfl⟩
theorem toWriteS_n(ws:List Write)(hm:ws.length≤1048576)(hb:∀c∈ws,c.bytes.length≤1048576):GN Try.prog 57 [.p (.lst 151 2 (rowsW ws))] [] ([]) (writesR ws):=by
 refine GN.intro (rs:=[.tmp 2]) Try.func57 rfl Try.ntmps57 (Nat.le_of_ble_eq_true rfl) ⟨rfl,trivial⟩ rfl ?_
 intro L O w0
 refine sL<|laV Z<|nA<|lmL Z<|lnI ty.sl23 Z ?_
 refine AL.slot 6 (int (ws.length:Int)) (congrArg (fun n:Nat=>int (n:Int)) (rowsW_len _)) ?_
 refine lst (St.make 1 (m:=ws.length) rfl rfl (by decide) ty.el32 ty.ze123 rfl rfl rfl rfl rfl (Nat.le_trans (Nat.mul_le_mul_right _ ty.by123) (by omega)) (by unfold maxLen;omega)) Z<|laO Z<|nG<|aS<|sL<|laI Z<|nG<|aB ?_
 refine AW.loopT (D:=Nat×List Value) [(0,vL _ _ _),(2,vV _),(3,.own _)] [] (fun a=>[(4,int (a.1:Int))]) (fun a=>[(1,.arr 123 2 (rowsWV a.2 (ws.take a.1)++List.replicate (ws.length-a.1) [PV.v (.int .i64 0),PV.v (.slice none 0 0)]))]) (fun a=>[]++famB a.2 (byW (ws.take a.1))) (fun a=>a.1≤ws.length∧a.2.length=a.1) (fun a=>ws.length-a.1) ((0,[])) (⟨Nat.zero_le _,rfl⟩) ⟨rfl,trivial⟩ ⟨rfl,trivial⟩ ⟨rfl,rfl,rfl,trivial⟩ trivial (by rw[List.take_zero];exact tlp) ?_
 intro ⟨k,vs⟩ hI
 obtain⟨hkl,hvl⟩:=hI
 replace hkl:k≤ws.length:=hkl
 replace hvl:vs.length=k:=hvl
 have hfr:rowF ([]++famB vs (byW (ws.take k))):=rowF.app rowF.nil famB_row
 have hwl:=wv_take_len hvl hkl
 have hfl:([]++famB vs (byW (ws.take k))).length=k:=by rw[List.nil_append,famB_len (by rw[List.length_map,List.length_take];omega),List.length_map,List.length_take];omega
 refine aS<|sL<|lmI Z<|lmL Z<|lnI ty.sl23 Z ?_
 refine AL.slot 10 (int (ws.length:Int)) (congrArg (fun n:Nat=>int (n:Int)) (rowsW_len _)) ?_
 refine lbB Z<|nG ?_
 refine AW.cond rfl ?_ ?_
 ·intro h1
  refine aK<|gT<|aS<|aB ?_
  have hk:k<ws.length:=by have h:=h1;simp only[decide_eq_true_eq]at h;omega
  refine aL<|lmO Z<|lmI Z<|lmL Z<|lmI Z<|li k ty.el23 Z (rowsW_at hk)<|lrX (.agg [vI _ _,vL _ _ _]) ty.kd151 Z ?_
  refine AL.stx (StX.callN (F:=([]++famB vs (byW (ws.take k)))) [] [] [] (([]++famB vs (byW (ws.take k)))).length Try.func106 (toWrite_n ws[k] (hb _ (List.getElem_mem hk))) tlp List.drop_length List.take_length (Nat.le_refl _) ((by rw[hfl];omega)) (fun _ _ _ _=>trivial) rfl rfl) rfl ?_
  rintro _ _ ⟨xz1,oz1,Fz1,hz1,hF1,hM1,rfl,rfl⟩
  obtain⟨u1,rfl,rfl,rfl⟩:=hz1
  have hrf1:rowF (([]++famB vs (byW (ws.take k)))++[uAr u1 ws[k].bytes]):=rowF.app (by first|assumption|exact rowF.nil) hF1
  refine lTt ((([]++famB vs (byW (ws.take k)))++[uAr u1 ws[k].bytes])) [0,2,3,4,14,15,20] [1] ?_
  refine lq (rj k ty.el32 rfl (by show k<(rowsWV vs (ws.take k)++List.replicate (ws.length-k) [PV.v (.int .i64 0),PV.v (.slice none 0 0)]).length;rw[List.length_append,hwl,List.length_replicate];omega))<|lst (zQ 1 [.v (.int .i64 ws[k].at_),.v u1] ty.co123 ty.inf123 rfl ((show (rowsWV vs (ws.take k)++List.replicate (ws.length-k) [PV.v (.int .i64 0),PV.v (.slice none 0 0)])[k]? = _ by rw[List.getElem?_append_right (by omega),hwl,Nat.sub_self,List.getElem?_replicate,if_pos (by omega)]))) Z<|lN<|gB<|gT<|aL<|lmI Z<|lgI Z<|laI Z<|nG ?_
  refine⟨(k+1,vs++[u1]),⟨hk,by rw[List.length_append,hvl];rfl⟩,by show ws.length-(k+1)<ws.length-k;omega,⟨(iq rfl),trivial⟩,⟨(Eq.trans (b:=AO.arr 123 2 ((rowsWV vs (ws.take k)++List.replicate (ws.length-k) [PV.v (.int .i64 0),PV.v (.slice none 0 0)]).set k [.v (.int .i64 ws[k].at_),.v u1])) rfl (congrArg (AO.arr 123 2) (by rw[nil_rowsW hwl hk,rowsWV_succ hk hvl]))),trivial⟩,⟨rfl,rfl,rfl,trivial⟩,trivial,(by rw[famW_succ (A:=[]) hk hvl];exact tlp)⟩
 ·intro h1
  refine aE<|eT<|eT<|eB<|gT<|aS ?_
  have hke:k=ws.length:=by have h:=h1;simp only[decide_eq_false_iff_not]at h;omega
  subst hke
  rw[List.take_length,List.nil_append]at hfr hfl
  rw[List.take_length,List.nil_append]
  refine AW.obj 1 (.arr 123 2 (rowsWV vs ws)) (congrArg (AO.arr 123 2) (by rw[show ((ws.length,vs):Nat×List Value).1=ws.length from rfl,Nat.sub_self];simp)) ?_
  refine aL<|lmO Z<|laO Z<|nG<|aR ?_
  skip
  refine end_nret (F1:=(famB vs (byW ws))) (.own 1) ([(1,.arr 123 2 (rowsWV vs ws))]) ?_ (by rw[hfl];omega) rfl rfl ⟨rfl,trivial⟩ tlp
  exact⟨vs,hvl,rfl,rfl,rfl⟩
theorem toDisk_n(d:Disk)(hz:DkZ d):GN Try.prog 19 [ldiskV d] [] ([]) (diskRel d):=by
 refine GN.intro (rs:=[.cell 2 34 (some 2)]) Try.func19 rfl Try.ntmps19 (Nat.le_of_ble_eq_true rfl) ⟨rfl,rfl,ty.kd34,trivial⟩ rfl ?_
 intro L O w0
 refine sL<|lst (zX 2001 Z) Z<|lst (zA 2002 ty.ze34 Z) Z<|nA<|lst (zA 2003 ty.ze34 Z) Z<|nA<|lf 0 ty.F25_0 Z<|loL ty.kd22 Z ?_
 refine AL.stx (StX.callN (F:=[]) [(1,1)] [1] [] ([]).length Try.func56 (toCellS_n d.cells hz.lc hz.bc) tlp List.drop_length List.take_length (Nat.le_refl _) ((by simp)) (fun _ _ _ _=>trivial) rfl rfl) rfl ?_
 rintro _ _ ⟨xz1,oz1,Fz1,hz1,hF1,hM1,rfl,rfl⟩
 obtain⟨vs,hvl,rfl,rfl,rfl⟩:=hz1
 have hrf1:rowF ([]++famB vs (byC d.cells)):=rowF.app (by first|assumption|exact rowF.nil) hF1
 refine lf 0 ty.F34_0 Z<|lst (zB 2003 ty.co31 ty.inf31 Z) Z<|nG<|aS ?_
 rw[List.nil_append]
 have hfr0:rowF (famB vs (byC d.cells)):=famB_row
 have hlc:=hz.lc
 have hlw:=hz.lw
 have hfl:(famB vs (byC d.cells)).length=d.cells.length:=by rw[famB_len (by simpa using hvl),List.length_map]
 refine aL<|lf 1 ty.F25_1 Z<|loL ty.kd23 Z ?_
 refine AL.stx (StX.callN (F:=(famB vs (byC d.cells))) [(1,2)] [2] [] ((famB vs (byC d.cells))).length Try.func57 (toWriteS_n d.dirty hz.lw hz.bw) tlp List.drop_length List.take_length (Nat.le_refl _) ((by rw[hfl];omega)) (fun _ _ _ _=>trivial) rfl rfl) rfl ?_
 rintro _ _ ⟨xz2,oz2,Fz2,hz2,hF2,hM2,rfl,rfl⟩
 obtain⟨us,hul,rfl,rfl,rfl⟩:=hz2
 have hrf2:rowF ((famB vs (byC d.cells))++famB us (byW d.dirty)):=rowF.app (by first|assumption|exact rowF.nil) hF2
 refine lf 1 ty.F34_1 Z<|lst (zB 2003 ty.co32 ty.inf32 Z) Z<|nA<|loX (.agg [.own _,.own _]) ty.kd34 Z<|lst (zB 2002 ty.co34 ty.inf34 Z) Z ?_
 refine lTt (((famB vs (byC d.cells))++famB us (byW d.dirty))) [2] [1,2,2001,2002,2003] ?_
 refine nG<|aR ?_
 have hrfD:rowF (famD vs us d):=famD_row
 refine end_nret (F1:=(famD vs us d)) (oDisk) (obD vs us d) ?_ (by rw[famD_len hvl hul];omega) rfl rfl ⟨rfl,rfl,trivial⟩ tlp
 exact⟨vs,us,hvl,hul,rfl,rfl,rfl⟩
theorem szByteS_e(b:List Int)(v:Int)(v0:0≤v)(v1:v≤1048576)(hb:b.length≤9223372036854775807):GC Try.prog 136 [byV b,int v] [] (int (szB b.length v)) []:=by
 refine gi 4 Try.func136 rfl Try.ntmps136 rfl ?_
 intro L O w0
 refine sL<|laI Z<|nA<|lmI Z<|lmL Z<|lnI ty.sl56 Z ?_
 refine lhI rfl ⟨rfl,fits_i64 (by rw[length_rowsOf];unfold i64;omega)⟩<|laI Z<|nG<|aS<|sL<|lmI Z<|lbB Z<|nG ?_
 refine AW.cond rfl ?_ ?_
 ·intro h1
  refine sL<|laI Z<|nG<|aR<|rT ?_
  unfold szB
  refine end_ret ?_ trivial
  have h:=h1
  rw[length_rowsOf]at *
  simp only[decide_eq_true_eq,decide_eq_false_iff_not]at h
  first|rw[if_pos h]|rw[if_neg h]
  try rfl
 ·intro h1
  refine aK<|gA<|lmI Z<|laI Z<|nG<|aR ?_
  unfold szB
  refine end_ret ?_ trivial
  have h:=h1
  rw[length_rowsOf]at *
  simp only[decide_eq_true_eq,decide_eq_false_iff_not]at h
  first|rw[if_pos h]|rw[if_neg h]
  try rfl
theorem szCell_e(c:Cell)(v:Int)(v0:0≤v)(v1:v≤1048576)(hb:c.bytes.length≤9223372036854775807):GC Try.prog 102 [.agg [byV c.bytes],int v] [] (int (szB c.bytes.length v)) []:=by
 refine gi 4 Try.func102 rfl Try.ntmps102 rfl ?_
 intro L O w0
 refine sL<|lst (zX 2002 Z) Z<|laI Z<|nA<|lf 0 ty.F149_0 Z<|loL ty.kd56 Z<|lmI Z<|lst (zL Try.func136 (szByteS_e c.bytes v v0 v1 hb) Z) Z<|laI Z<|nG<|aS<|sL<|lmI Z<|lbB Z<|nG ?_
 refine AW.cond rfl ?_ ?_
 ·intro h1
  refine sL<|laI Z<|nG<|aR<|rT ?_
  have h:=h1
  refine end_ret ?_ trivial
  unfold szB at h ⊢
  first|(split at h<;>simp only[decide_eq_true_eq,decide_eq_false_iff_not]at h<;>first|omega|(rename_i q;first|rw[if_pos q]|rw[if_neg q];try rfl))
  try rfl
 ·intro h1
  refine aK<|gA<|lmI Z<|laI Z<|nG<|aR ?_
  have h:=h1
  refine end_ret ?_ trivial
  unfold szB at h ⊢
  first|(split at h<;>simp only[decide_eq_true_eq,decide_eq_false_iff_not]at h<;>first|omega|(rename_i q;first|rw[if_pos q]|rw[if_neg q];try rfl))
  try rfl
theorem szWrite_e(c:Write)(v:Int)(v0:0≤v)(v1:v≤1048576)(hb:c.bytes.length≤9223372036854775807):GC Try.prog 103 [.agg [int c.at_,byV c.bytes],int v] [] (int (szB c.bytes.length v)) []:=by
 refine gi 4 Try.func103 rfl Try.ntmps103 rfl ?_
 intro L O w0
 refine sL<|lst (zX 2002 Z) Z<|laI Z<|nA<|lf 1 ty.F151_1 Z<|loL ty.kd56 Z<|lmI Z<|lst (zL Try.func136 (szByteS_e c.bytes v v0 v1 hb) Z) Z<|laI Z<|nG<|aS<|sL<|lmI Z<|lbB Z<|nG ?_
 refine AW.cond rfl ?_ ?_
 ·intro h1
  refine sL<|laI Z<|nG<|aR<|rT ?_
  have h:=h1
  refine end_ret ?_ trivial
  unfold szB at h ⊢
  first|(split at h<;>simp only[decide_eq_true_eq,decide_eq_false_iff_not]at h<;>first|omega|(rename_i q;first|rw[if_pos q]|rw[if_neg q];try rfl))
  try rfl
 ·intro h1
  refine aK<|gA<|lmI Z<|laI Z<|nG<|aR ?_
  have h:=h1
  refine end_ret ?_ trivial
  unfold szB at h ⊢
  first|(split at h<;>simp only[decide_eq_true_eq,decide_eq_false_iff_not]at h<;>first|omega|(rename_i q;first|rw[if_pos q]|rw[if_neg q];try rfl))
  try rfl
theorem szCellS_e(cs:List Cell)(l:Int)(l1:-1≤l)(l2:l≤1048576)(hm:cs.length≤9223372036854775807)(hb:∀c∈cs,c.bytes.length≤9223372036854775807):GC Try.prog 53 [.p (.lst 149 1 (rowsC cs)),int l] [] (int (szCs cs l)) []:=by
 refine gi 4 Try.func53 rfl Try.ntmps53 rfl ?_
 intro L O w0
 refine sL<|laI Z<|nA<|lmI Z<|lmL Z<|lnI ty.sl22 Z ?_
 refine AL.slot 8 (int (cs.length:Int)) (congrArg (fun n:Nat=>int (n:Int)) (rowsC_len _)) ?_
 refine lgI Z<|laI Z<|nG<|aS<|sL<|lmI Z<|lbB Z<|nG ?_
 refine AW.cond rfl ?_ ?_
 ·intro h1
  refine sL<|laI Z<|nG<|aR<|rT ?_
  have hl0:l-(cs.length:Int)<0:=by have h:=h1;simpa using h
  refine end_ret ?_ trivial
  unfold szCs
  rw[if_pos hl0]
  try rfl
 ·intro h1
  refine aK<|gT<|aS<|aS ?_
  have hl0:¬l-(cs.length:Int)<0:=by have h:=h1;simpa using h
  refine aL<|laI Z<|nG<|aB ?_
  refine aW [0,4] [] (D:=Nat×Int) (fun a=>[(5,int (a.1:Int)),(1,int a.2)]) (fun a=>[]) (fun a=>a.1≤cs.length∧0≤a.2∧a.2≤1048576∧szG mCe (cs.drop a.1) a.2=szG mCe cs (l-(cs.length:Int))) (fun a=>cs.length-a.1) ((0,l-(cs.length:Int))) (⟨Nat.zero_le _,by show 0≤l-(cs.length:Int);omega,by show l-(cs.length:Int)≤1048576;omega,rfl⟩) ⟨rfl,rfl,trivial⟩ trivial ?_
  intro ⟨k,v⟩ hI
  obtain⟨hkl,hv0,hv1,hgo⟩:=hI
  replace hkl:k≤cs.length:=hkl
  replace hv0:0≤v:=hv0
  replace hv1:v≤1048576:=hv1
  replace hgo:szG mCe (cs.drop k) v=szG mCe cs (l-(cs.length:Int)):=hgo
  refine aS<|sL<|lmI Z<|lmL Z<|lnI ty.sl22 Z ?_
  refine AL.slot 14 (int (cs.length:Int)) (congrArg (fun n:Nat=>int (n:Int)) (rowsC_len _)) ?_
  refine lbB Z<|nG ?_
  refine AW.cond rfl ?_ ?_
  ·intro h2
   refine aK<|gT<|aS<|aB<|aS ?_
   have hk:k<cs.length:=by have h:=h2;simp only[decide_eq_true_eq]at h;omega
   have hbk:=hb _ (List.getElem_mem hk)
   refine aL<|lmL Z<|lmI Z<|li k ty.el22 Z (rowsC_at hk)<|lrX (.agg [vL _ _ _]) ty.kd149 Z<|lmI Z<|lst (zL Try.func102 (szCell_e cs[k] v hv0 hv1 hbk) Z) Z<|lT [0,1,4,5,23] [] ?_
   refine laI Z<|nA<|lmI Z<|lbB Z<|nG ?_
   refine AW.cond rfl ?_ ?_
   ·intro h3
    refine sL<|laI Z<|nG<|aR<|rB<|rT<|rT<|rB<|rT ?_
    have hq:v-(cs[k].bytes.length:Int)<0:=by have h:=h3;unfold szB at h;split at h<;>simp only[decide_eq_true_eq]at h<;>omega
    refine end_ret ?_ trivial
    unfold szCs
    rw[if_neg hl0,←hgo,szG_drop hk,if_pos hq]
    try rfl
   ·intro h3
    refine aK<|gB<|gT ?_
    have hq:0≤v-(cs[k].bytes.length:Int):=by have h:=h3;unfold szB at h;split at h<;>simp only[decide_eq_false_iff_not]at h<;>omega
    have hsz:szB cs[k].bytes.length v=v-(cs[k].bytes.length:Int):=if_neg (by omega)
    refine aL<|lmI Z<|lgI Z<|laI Z<|nG ?_
    refine⟨(k+1,v-(cs[k].bytes.length:Int)),⟨hk,hq,by omega,by rw[←hgo,szG_drop hk,if_neg (show ¬v-mCe cs[k]<0 from by show ¬v-(cs[k].bytes.length:Int)<0;omega)]⟩,by show cs.length-(k+1)<cs.length-k;omega,⟨(iq rfl),(Eq.trans (b:=int _) rfl (congrArg int hsz)),trivial⟩,trivial,rfl,rfl⟩
  ·intro h2
   refine aE<|eT<|eT<|eB<|gA<|lmI Z<|laI Z<|nG<|aR ?_
   have hke:k=cs.length:=by have h:=h2;simp only[decide_eq_false_iff_not]at h;omega
   refine end_ret ?_ trivial
   unfold szCs
   rw[if_neg hl0,←hgo,hke,List.drop_length]
   try rfl
theorem szWriteS_e(ws:List Write)(l:Int)(l1:-1≤l)(l2:l≤1048576)(hm:ws.length≤9223372036854775807)(hb:∀c∈ws,c.bytes.length≤9223372036854775807):GC Try.prog 54 [.p (.lst 151 2 (rowsW ws)),int l] [] (int (szWs ws l)) []:=by
 refine gi 4 Try.func54 rfl Try.ntmps54 rfl ?_
 intro L O w0
 refine sL<|laI Z<|nA<|lmI Z<|lmL Z<|lnI ty.sl23 Z ?_
 refine AL.slot 8 (int (ws.length:Int)) (congrArg (fun n:Nat=>int (n:Int)) (rowsW_len _)) ?_
 refine lgI Z<|laI Z<|nG<|aS<|sL<|lmI Z<|lbB Z<|nG ?_
 refine AW.cond rfl ?_ ?_
 ·intro h1
  refine sL<|laI Z<|nG<|aR<|rT ?_
  have hl0:l-(ws.length:Int)<0:=by have h:=h1;simpa using h
  refine end_ret ?_ trivial
  unfold szWs
  rw[if_pos hl0]
  try rfl
 ·intro h1
  refine aK<|gT<|aS<|aS ?_
  have hl0:¬l-(ws.length:Int)<0:=by have h:=h1;simpa using h
  refine aL<|laI Z<|nG<|aB ?_
  refine aW [0,4] [] (D:=Nat×Int) (fun a=>[(5,int (a.1:Int)),(1,int a.2)]) (fun a=>[]) (fun a=>a.1≤ws.length∧0≤a.2∧a.2≤1048576∧szG mBy (ws.drop a.1) a.2=szG mBy ws (l-(ws.length:Int))) (fun a=>ws.length-a.1) ((0,l-(ws.length:Int))) (⟨Nat.zero_le _,by show 0≤l-(ws.length:Int);omega,by show l-(ws.length:Int)≤1048576;omega,rfl⟩) ⟨rfl,rfl,trivial⟩ trivial ?_
  intro ⟨k,v⟩ hI
  obtain⟨hkl,hv0,hv1,hgo⟩:=hI
  replace hkl:k≤ws.length:=hkl
  replace hv0:0≤v:=hv0
  replace hv1:v≤1048576:=hv1
  replace hgo:szG mBy (ws.drop k) v=szG mBy ws (l-(ws.length:Int)):=hgo
  refine aS<|sL<|lmI Z<|lmL Z<|lnI ty.sl23 Z ?_
  refine AL.slot 14 (int (ws.length:Int)) (congrArg (fun n:Nat=>int (n:Int)) (rowsW_len _)) ?_
  refine lbB Z<|nG ?_
  refine AW.cond rfl ?_ ?_
  ·intro h2
   refine aK<|gT<|aS<|aB<|aS ?_
   have hk:k<ws.length:=by have h:=h2;simp only[decide_eq_true_eq]at h;omega
   have hbk:=hb _ (List.getElem_mem hk)
   refine aL<|lmL Z<|lmI Z<|li k ty.el23 Z (rowsW_at hk)<|lrX (.agg [vI _ _,vL _ _ _]) ty.kd151 Z<|lmI Z<|lst (zL Try.func103 (szWrite_e ws[k] v hv0 hv1 hbk) Z) Z<|lT [0,1,4,5,23] [] ?_
   refine laI Z<|nA<|lmI Z<|lbB Z<|nG ?_
   refine AW.cond rfl ?_ ?_
   ·intro h3
    refine sL<|laI Z<|nG<|aR<|rB<|rT<|rT<|rB<|rT ?_
    have hq:v-(ws[k].bytes.length:Int)<0:=by have h:=h3;unfold szB at h;split at h<;>simp only[decide_eq_true_eq]at h<;>omega
    refine end_ret ?_ trivial
    unfold szWs
    rw[if_neg hl0,←hgo,szG_drop hk,if_pos hq]
    try rfl
   ·intro h3
    refine aK<|gB<|gT ?_
    have hq:0≤v-(ws[k].bytes.length:Int):=by have h:=h3;unfold szB at h;split at h<;>simp only[decide_eq_false_iff_not]at h<;>omega
    have hsz:szB ws[k].bytes.length v=v-(ws[k].bytes.length:Int):=if_neg (by omega)
    refine aL<|lmI Z<|lgI Z<|laI Z<|nG ?_
    refine⟨(k+1,v-(ws[k].bytes.length:Int)),⟨hk,hq,by omega,by rw[←hgo,szG_drop hk,if_neg (show ¬v-mBy ws[k]<0 from by show ¬v-(ws[k].bytes.length:Int)<0;omega)]⟩,by show ws.length-(k+1)<ws.length-k;omega,⟨(iq rfl),(Eq.trans (b:=int _) rfl (congrArg int hsz)),trivial⟩,trivial,rfl,rfl⟩
  ·intro h2
   refine aE<|eT<|eT<|eB<|gA<|lmI Z<|laI Z<|nG<|aR ?_
   have hke:k=ws.length:=by have h:=h2;simp only[decide_eq_false_iff_not]at h;omega
   refine end_ret ?_ trivial
   unfold szWs
   rw[if_neg hl0,←hgo,hke,List.drop_length]
   try rfl
theorem szDisk_e(d:Disk)(l:Int)(l1:-1≤l)(l2:l≤1048576)(hmc:d.cells.length≤9223372036854775807)(hbc:∀c∈d.cells,c.bytes.length≤9223372036854775807)(hmw:d.dirty.length≤9223372036854775807)(hbw:∀c∈d.dirty,c.bytes.length≤9223372036854775807):GC Try.prog 17 [ldiskV d,int l] [] (int (szD d l)) []:=by
 refine gi 4 Try.func17 rfl Try.ntmps17 rfl ?_
 intro L O w0
 refine sL<|lst (zX 2002 Z) Z<|laI Z<|nA<|lf 0 ty.F25_0 Z<|loL ty.kd22 Z<|lmI Z<|lst (zL Try.func53 (szCellS_e d.cells l l1 l2 hmc hbc) Z) Z<|laI Z<|nG<|aS<|sL<|lmI Z<|lbB Z<|nG ?_
 refine AW.cond rfl ?_ ?_
 ·intro h1
  refine sL<|laI Z<|nG<|aR<|rT ?_
  have h1:=h1
  simp only[decide_eq_true_eq]at h1
  refine end_ret ?_ trivial
  unfold szD
  rw[if_pos h1]
  try rfl
 ·intro h1
  refine aK<|gT<|aS ?_
  have hl0:¬szCs d.cells l<0:=by have h:=h1;simpa using h
  refine aL<|lf 1 ty.F25_1 Z<|loL ty.kd23 Z<|lmI Z<|lst (zL Try.func54 (szWriteS_e d.dirty (szCs d.cells l) (szCs_lo _ _) (by have:=szCs_y (cs:=d.cells) (l:=l) (by omega);omega) hmw hbw) rfl) Z<|lT [1,4,14] [2002] ?_
  refine laI Z<|nG<|aS<|sL<|lmI Z<|lbB Z<|nG ?_
  refine AW.cond rfl ?_ ?_
  ·intro h2
   refine sL<|laI Z<|nG<|aR<|rT ?_
   have h1:=h2
   simp only[decide_eq_true_eq]at h1
   have h3:=szWs_lo d.dirty (szCs d.cells l)
   refine end_ret ?_ trivial
   unfold szD
   rw[if_neg hl0,show szWs d.dirty (szCs d.cells l)=-1 by omega]
   try rfl
  ·intro h2
   refine aK<|gA<|lmI Z<|laI Z<|nG<|aR ?_
   skip
   refine end_ret ?_ trivial
   unfold szD
   rw[if_neg hl0]
   try rfl
theorem szD_lo(d:Disk)(l:Int):-1≤szD d l:=by
 unfold szD
 split
 ·omega
 ·exact szWs_lo _ _
theorem szLog_e(d:Log)(l:Int)(l1:-1≤l)(l2:l≤1048576)(hmc:d.disk.cells.length≤9223372036854775807)(hbc:∀c∈d.disk.cells,c.bytes.length≤9223372036854775807)(hmw:d.disk.dirty.length≤9223372036854775807)(hbw:∀c∈d.disk.dirty,c.bytes.length≤9223372036854775807):GC Try.prog 9 [llogV d,int l] [] (int (szD d.disk l)) []:=by
 refine gi 4 Try.func9 rfl Try.ntmps9 rfl ?_
 intro L O w0
 refine sL<|lst (zX 2002 Z) Z<|laI Z<|nA<|lf 0 ty.F27_0 Z<|loX (.agg [vL _ _ _,vL _ _ _]) ty.kd25 Z<|lmI Z<|lst (zL Try.func17 (szDisk_e d.disk l l1 l2 hmc hbc hmw hbw) Z) Z<|laI Z<|nG<|aS<|sL<|lmI Z<|lbB Z<|nG ?_
 refine AW.cond rfl ?_ ?_
 ·intro h1
  refine sL<|laI Z<|nG<|aR<|rT ?_
  have h1:=h1
  simp only[decide_eq_true_eq]at h1
  have h2:=szD_lo d.disk l
  refine end_ret ?_ trivial
  rw[show szD d.disk l=-1 by omega]
  try rfl
 ·intro h1
  refine aK<|gA<|lmI Z<|laI Z<|nG<|aR ?_
  skip
  refine end_ret ?_ trivial
  rfl
theorem eqByteS_e(b:List Int)(hm:b.length≤1000000000):GC Try.prog 138 [byV b,byV b] [] (boo true) []:=by
 refine gi 4 Try.func138 rfl Try.ntmps138 rfl ?_
 intro L O w0
 refine sL<|laZ Z<|nG<|aS<|sL<|lmL Z<|lnI ty.sl56 Z<|lmL Z<|lnI ty.sl56 Z<|lbB Z<|lsB 10 false rfl (by simp)<|nG<|aN Z<|aK<|gT<|aS<|sL<|laI Z<|nG<|aB ?_
 refine aW [0,1,4] [] (D:=Nat) (fun k=>[(5,int (k:Int))]) (fun k=>[]) (fun k=>k≤b.length) (fun k=>b.length-k) (0) (Nat.zero_le _) ⟨rfl,trivial⟩ trivial ?_
 intro k hI
 refine aS<|sL<|lmI Z<|lmL Z<|lnI ty.sl56 Z<|lbB Z<|nG ?_
 refine AW.cond rfl ?_ ?_
 ·intro h1
  refine aK<|gT<|aS<|aB<|aS<|aF []<|pq 0 (qmL Z)<|pq 1 (qmX (vI _ _) Z) ?_
  have hk:k<b.length:=by have h:=h1;simp only[length_rowsOf,decide_eq_true_eq]at h;omega
  refine sq 2 (ri k ty.el56 rfl (row_map hk))<|sq 3 (rrI ty.kd5 rfl)<|pq 4 (qmL rfl)<|vq 5 (rmI rfl)<|vq 6 (ri k ty.el56 rfl (row_map hk))<|vq 7 (rrI ty.kd5 rfl)<|vq 8 (rbB rfl)<|fsB 25 false rfl (by simp)<|fD<|gT<|aN Z<|aK<|gB<|gT<|aL<|lmI Z<|lgI Z<|laI Z<|nG ?_
  refine⟨k+1,hk,by omega,⟨(iq rfl),trivial⟩,trivial,rfl,rfl⟩
 ·intro h1
  refine aE<|eT<|eT<|eB<|gA<|laT Z<|nG<|aR ?_
  refine end_ret ?_ trivial
  rfl
theorem eqCell_e(c:Cell)(hm:c.bytes.length≤1000000000):GC Try.prog 108 [.agg [byV c.bytes],.agg [byV c.bytes]] [] (boo true) []:=by
 refine gi 4 Try.func108 rfl Try.ntmps108 rfl ?_
 intro L O w0
 refine sL<|lst (zX 2002 rfl) Z<|lst (zX 2003 rfl) Z<|laZ Z<|nG<|aS<|sL<|lf 0 ty.F115_0 Z<|loL ty.kd56 Z<|lf 0 ty.F115_0 Z<|loL ty.kd56 Z<|lst (zL Try.func138 (eqByteS_e _ (by omega)) rfl) Z<|luZ Z<|lsB 10 false rfl (by simp)<|nG<|aN Z<|aK<|gA<|laT Z<|nG<|aR ?_
 refine end_ret ?_ trivial
 rfl
theorem eqWrite_e(c:Write)(hm:c.bytes.length≤1000000000):GC Try.prog 109 [.agg [int c.at_,byV c.bytes],.agg [int c.at_,byV c.bytes]] [] (boo true) []:=by
 refine gi 4 Try.func109 rfl Try.ntmps109 rfl ?_
 intro L O w0
 refine sL<|lst (zX 2002 rfl) Z<|lst (zX 2003 rfl) Z<|laZ Z<|nG<|aS<|sL<|lf 0 ty.F123_0 Z<|loI ty.kd3 Z<|lf 0 ty.F123_0 Z<|loI ty.kd3 Z<|lbB Z<|lsB 9 false rfl (by simp)<|nG<|aN Z<|aK<|gT<|aS<|sL<|lf 1 ty.F123_1 Z<|loL ty.kd56 Z<|lf 1 ty.F123_1 Z<|loL ty.kd56 Z<|lst (zL Try.func138 (eqByteS_e _ (by omega)) rfl) Z<|luZ rfl ?_
 refine lsB 15 false rfl (by simp)<|nG<|aN Z<|aK<|gA<|laT Z<|nG<|aR ?_
 refine end_ret ?_ trivial
 rfl
theorem eqCellS_e(cs:List Cell)(hm:cs.length≤1000000000)(hb:∀c∈cs,c.bytes.length≤1000000000):GC Try.prog 60 [.p (.lst 115 1 (rowsC cs)),.p (.lst 115 1 (rowsC cs))] [] (boo true) []:=by
 refine gi 4 Try.func60 rfl Try.ntmps60 rfl ?_
 intro L O w0
 refine sL<|laZ Z<|nG<|aS<|sL<|lmL Z<|lnI ty.sl31 Z ?_
 refine AL.slot 7 (int (cs.length:Int)) (congrArg (fun n:Nat=>int (n:Int)) (rowsC_len _)) ?_
 refine lmL Z<|lnI ty.sl31 Z ?_
 refine AL.slot 9 (int (cs.length:Int)) (congrArg (fun n:Nat=>int (n:Int)) (rowsC_len _)) ?_
 refine lbB Z<|lsB 10 false rfl (by simp)<|nG<|aN Z<|aK<|gT<|aS<|sL<|laI Z<|nG<|aB ?_
 refine aW [0,1,4] [] (D:=Nat) (fun k=>[(5,int (k:Int))]) (fun k=>[]) (fun k=>k≤cs.length) (fun k=>cs.length-k) (0) (Nat.zero_le _) ⟨rfl,trivial⟩ trivial ?_
 intro k hI
 refine aS<|sL<|lmI Z<|lmL Z<|lnI ty.sl31 Z ?_
 refine AL.slot 13 (int (cs.length:Int)) (congrArg (fun n:Nat=>int (n:Int)) (rowsC_len _)) ?_
 refine lbB Z<|nG ?_
 refine AW.cond rfl ?_ ?_
 ·intro h1
  refine aK<|gT<|aS<|aB<|aS ?_
  have hk:k<cs.length:=by have h:=h1;simp only[decide_eq_true_eq]at h;omega
  refine aF []<|pq 0 (qmL Z)<|pq 1 (qmX (vI _ _) Z)<|sq 2 (ri k ty.el31 Z (rowsC_at hk))<|sq 3 (rrX (.agg [vL _ _ _]) ty.kd115 Z)<|pq 4 (qmL Z)<|vq 5 (rmI Z)<|vq 6 (ri k ty.el31 Z (rowsC_at hk))<|vq 7 (rrX (.agg [vL _ _ _]) ty.kd115 Z)<|vst 8 Z (zL Try.func108 (eqCell_e cs[k] (hb _ (List.getElem_mem hk))) Z) (.inr Z)<|fT [0,1,4,5,25] [] ?_
  refine vq 9 (ruZ rfl)<|fsB 26 false rfl (by simp)<|fD<|gT<|aN Z<|aK<|gB<|gT<|aL<|lmI Z<|lgI Z<|laI Z<|nG ?_
  refine⟨k+1,hk,by omega,⟨(iq rfl),trivial⟩,trivial,rfl,rfl⟩
 ·intro h1
  refine aE<|eT<|eT<|eB<|gA<|laT Z<|nG<|aR ?_
  refine end_ret ?_ trivial
  rfl
theorem eqWriteS_e(cs:List Write)(hm:cs.length≤1000000000)(hb:∀c∈cs,c.bytes.length≤1000000000):GC Try.prog 61 [.p (.lst 123 2 (rowsW cs)),.p (.lst 123 2 (rowsW cs))] [] (boo true) []:=by
 refine gi 4 Try.func61 rfl Try.ntmps61 rfl ?_
 intro L O w0
 refine sL<|laZ Z<|nG<|aS<|sL<|lmL Z<|lnI ty.sl32 Z ?_
 refine AL.slot 7 (int (cs.length:Int)) (congrArg (fun n:Nat=>int (n:Int)) (rowsW_len _)) ?_
 refine lmL Z<|lnI ty.sl32 Z ?_
 refine AL.slot 9 (int (cs.length:Int)) (congrArg (fun n:Nat=>int (n:Int)) (rowsW_len _)) ?_
 refine lbB Z<|lsB 10 false rfl (by simp)<|nG<|aN Z<|aK<|gT<|aS<|sL<|laI Z<|nG<|aB ?_
 refine aW [0,1,4] [] (D:=Nat) (fun k=>[(5,int (k:Int))]) (fun k=>[]) (fun k=>k≤cs.length) (fun k=>cs.length-k) (0) (Nat.zero_le _) ⟨rfl,trivial⟩ trivial ?_
 intro k hI
 refine aS<|sL<|lmI Z<|lmL Z<|lnI ty.sl32 Z ?_
 refine AL.slot 13 (int (cs.length:Int)) (congrArg (fun n:Nat=>int (n:Int)) (rowsW_len _)) ?_
 refine lbB Z<|nG ?_
 refine AW.cond rfl ?_ ?_
 ·intro h1
  refine aK<|gT<|aS<|aB<|aS ?_
  have hk:k<cs.length:=by have h:=h1;simp only[decide_eq_true_eq]at h;omega
  refine aF []<|pq 0 (qmL Z)<|pq 1 (qmX (vI _ _) Z)<|sq 2 (ri k ty.el32 Z (rowsW_at hk))<|sq 3 (rrX (.agg [vI _ _,vL _ _ _]) ty.kd123 Z)<|pq 4 (qmL Z)<|vq 5 (rmI Z)<|vq 6 (ri k ty.el32 Z (rowsW_at hk))<|vq 7 (rrX (.agg [vI _ _,vL _ _ _]) ty.kd123 Z)<|vst 8 Z (zL Try.func109 (eqWrite_e cs[k] (hb _ (List.getElem_mem hk))) Z) (.inr Z)<|fT [0,1,4,5,25] [] ?_
  refine vq 9 (ruZ rfl)<|fsB 26 false rfl (by simp)<|fD<|gT<|aN Z<|aK<|gB<|gT<|aL<|lmI Z<|lgI Z<|laI Z<|nG ?_
  refine⟨k+1,hk,by omega,⟨(iq rfl),trivial⟩,trivial,rfl,rfl⟩
 ·intro h1
  refine aE<|eT<|eT<|eB<|gA<|laT Z<|nG<|aR ?_
  refine end_ret ?_ trivial
  rfl
structure DkE(d:Disk):Prop where
 lc:d.cells.length≤1000000000
 lw:d.dirty.length≤1000000000
 bc:∀c∈d.cells,c.bytes.length≤1000000000
 bw:∀w∈d.dirty,w.bytes.length≤1000000000
theorem DkZ.e{d:Disk}(h:DkZ d):DkE d:=⟨Nat.le_trans h.lc (by decide),Nat.le_trans h.lw (by decide),fun c hc=>Nat.le_trans (h.bc c hc) (by decide),fun c hc=>Nat.le_trans (h.bw c hc) (by decide)⟩
theorem eqDisk_e(d:Disk)(he:DkE d):GC Try.prog 22 [diskV d,diskV d] [] (boo true) []:=by
 refine gi 4 Try.func22 rfl Try.ntmps22 rfl ?_
 intro L O w0
 refine sL<|lst (zX 2002 rfl) Z<|lst (zX 2003 rfl) Z<|laZ Z<|nG<|aS<|sL<|lf 0 ty.F34_0 Z<|loL ty.kd31 Z<|lf 0 ty.F34_0 Z<|loL ty.kd31 Z<|lst (zL Try.func60 (eqCellS_e d.cells he.lc he.bc) rfl) Z<|luZ Z<|lsB 10 false rfl (by simp)<|nG<|aN Z<|aK<|gT<|aS<|sL<|lf 1 ty.F34_1 Z<|loL ty.kd32 Z<|lf 1 ty.F34_1 Z<|loL ty.kd32 Z<|lst (zL Try.func61 (eqWriteS_e d.dirty he.lw he.bw) rfl) rfl ?_
 refine lT [4,15] [2002,2003] ?_
 refine luZ Z<|lsB 16 false rfl (by simp)<|nG<|aN Z<|aK<|gA<|laT Z<|nG<|aR ?_
 refine end_ret ?_ trivial
 rfl
theorem eqLog_e(d:Log)(he:DkE d.disk):GC Try.prog 14 [logV d,logV d] [] (boo true) []:=by
 refine gi 4 Try.func14 rfl Try.ntmps14 rfl ?_
 intro L O w0
 refine sL<|lst (zX 2002 rfl) Z<|lst (zX 2003 rfl) Z<|laZ Z<|nG<|aS<|sL<|lf 0 ty.F36_0 Z<|loX (.agg [vL _ _ _,vL _ _ _]) ty.kd34 Z<|lf 0 ty.F36_0 Z<|loX (.agg [vL _ _ _,vL _ _ _]) ty.kd34 Z<|lst (zL Try.func22 (eqDisk_e d.disk he) rfl) Z<|luZ Z<|lsB 10 false rfl (by simp)<|nG<|aN Z<|aK<|gT<|aS<|sL<|lf 2 ty.F36_1 Z<|loI ty.kd3 Z<|lf 2 ty.F36_1 Z<|loI ty.kd3 Z<|lbB rfl ?_
 refine lsB 15 false rfl (by simp)<|nG<|aN Z<|aK<|gT<|aS<|sL<|lf 3 ty.F36_2 Z<|loI ty.kd3 Z<|lf 3 ty.F36_2 Z<|loI ty.kd3 Z<|lbB Z<|lsB 20 false rfl (by simp)<|nG<|aN Z<|aK<|gA<|laT Z<|nG<|aR ?_
 refine end_ret ?_ trivial
 rfl
theorem famC_at{vs:List Value}{cs:List Cell}{j:Nat}{v:Value}(h:vs.length=cs.length)(hj:j<cs.length)(hv:vs[j]? = some v):(famB vs (byC cs))[j]? = some (.arr ⟨5,some v⟩ 1 (rowsOf encU cs[j].bytes)):=by
 have e:=(List.getElem?_eq_some_iff.1 hv).2
 rw[famB_at (by simpa using h) (by simpa using hj)]
 simp[byC,e]
theorem famW_at{vs:List Value}{cs:List Write}{j:Nat}{v:Value}(h:vs.length=cs.length)(hj:j<cs.length)(hv:vs[j]? = some v):(famB vs (byW cs))[j]? = some (.arr ⟨5,some v⟩ 1 (rowsOf encU cs[j].bytes)):=by
 have e:=(List.getElem?_eq_some_iff.1 hv).2
 rw[famB_at (by simpa using h) (by simpa using hj)]
 simp[byW,e]
theorem heldC_row{cs:List Cell}{k:Int}{j:Nat}(hj:j<cs.length):(rowsC (mkG mCe gCe cs k))[j]? = some [lstB (mkdB (k+cntG mCe (cs.take j)) cs[j].bytes.length)]:=by
 rw[rowsC_at (by rw[mkG_len];exact hj),mkG_get hj]
theorem heldW_row{cs:List Write}{k:Int}{j:Nat}(hj:j<cs.length):(rowsW (mkG mWr gWr cs k))[j]? = some [.v (.int .i64 (k+cntG mWr (cs.take j))),lstB (mkdB (k+cntG mWr (cs.take j)+1) cs[j].bytes.length)]:=by
 rw[rowsW_at (by rw[mkG_len];exact hj),mkG_get hj]
theorem markByteS_e(u:Value)(b:List Int)(k:Int)(hm:b.length≤100000000)(hk:0≤k∧k≤1000000000000):GC Try.prog 110 [.own 0,int k] [(0,.arr ⟨5,some u⟩ 1 (rowsOf encU b))] (int (k+(b.length:Int))) [(0,.arr ⟨5,some u⟩ 1 (rowsOf encU (mkdB k b.length)))]:=by
 refine gi 4 Try.func110 rfl Try.ntmps110 rfl ?_
 intro L O w0
 refine sL<|laI Z<|nG<|aS<|sL<|laI Z<|nG<|aB ?_
 refine aW [0,4] [] (D:=Nat) (fun j=>[(5,int (j:Int)),(1,int (k+1*(j:Int)))]) (fun j=>[(0,.arr ⟨5,some u⟩ 1 (rowsOf encU (mkdB k j++b.drop j)))]) (fun j=>j≤b.length) (fun j=>b.length-j) (0) (Nat.zero_le _) ⟨rfl,(congrArg int (by omega)),trivial⟩ ⟨rfl,trivial⟩ ?_
 intro j hI
 refine aS<|sL<|lmI Z<|lmO Z<|lnI ty.sl56 Z<|lbB Z<|nG ?_
 refine AW.cond rfl ?_ ?_
 ·intro h1
  refine aK<|gT<|aS<|aB<|aS ?_
  have hj:j<b.length:=by have h:=h1;simp[length_rowsOf,mkLs_len]at h;omega
  refine aL<|lmO Z<|lmI Z<|lmI Z<|lq (rd (x:=vI _ _) (rd_conv Z ty.ik3 ty.ik5 Z) Z) ?_
  refine AL.slot 15 (yv ((k+1*(j:Int))%256)) (Eq.trans (b:=yv _) rfl (congrArg yv (wrap_u8 _))) ?_
  refine lq (rj j ty.el56 rfl (by simp[length_rowsOf,mkLs_len];omega))<|lst (zQ 0 [.v (.int .u8 ((k+1*(j:Int))%256))] ty.co5 ty.inf5 rfl (rows_some (marked_get mkLs_len hj))) Z<|nG<|aL<|lmI Z<|lgI Z<|laI Z<|lN<|gB<|gT<|aL<|lmI Z<|lgI Z<|laI Z<|nG ?_
  refine⟨j+1,hj,by omega,⟨(iq rfl),(iq rfl),trivial⟩,⟨(Eq.trans (b:=AO.arr ⟨5,some u⟩ 1 ((rowsOf encU (mkdB k j++b.drop j)).set j ((encU ((k+1*(j:Int))%256)).map PV.v))) rfl (congrArg (AO.arr ⟨5,some u⟩ 1) (rows_set.trans (congrArg (rowsOf encU) (marked_set mkLs_len mkLs_succ hj))))),trivial⟩,rfl,rfl⟩
 ·intro h1
  refine aE<|eT<|eT<|eB<|gA<|lmI Z<|laI Z<|nG<|aR ?_
  have hje:j=b.length:=by have h:=h1;simp[length_rowsOf,mkLs_len]at h;omega
  refine end_ret ?_ ⟨(congrArg (fun q=>AO.arr ⟨5,some u⟩ 1 (rowsOf encU q)) (by rw[←hje,hje,List.drop_length,List.append_nil])),trivial⟩
  rw[←hje]
  exact congrArg (fun n=>some (int n)) (by omega)
theorem heldByteS_e(m:Nat)(k:Int)(hm:m≤100000000)(hk:0≤k∧k≤1000000000000):GC Try.prog 135 [byV (mkdB k m),int k] [] (int (k+(m:Int))) []:=by
 refine gi 4 Try.func135 rfl Try.ntmps135 rfl ?_
 intro L O w0
 refine sL<|laI Z<|nG<|aS<|sL<|laI Z<|nG<|aB ?_
 refine aW [0,4] [] (D:=Nat) (fun j=>[(5,int (j:Int)),(1,int (k+1*(j:Int)))]) (fun j=>[]) (fun j=>j≤m) (fun j=>m-j) (0) (Nat.zero_le _) ⟨rfl,(congrArg int (by omega)),trivial⟩ trivial ?_
 intro j hI
 refine aS<|sL<|lmI Z<|lmL Z<|lnI ty.sl56 Z<|lbB Z<|nG ?_
 refine AW.cond rfl ?_ ?_
 ·intro h1
  refine aK<|gT<|aS<|aB<|aS<|aS ?_
  have hj:j<m:=by have h:=h1;simp[length_rowsOf,mkLs_len]at h;omega
  refine aL<|lmL Z<|lmI Z<|li j ty.el56 Z (rows_some (mkLs_get hj))<|lrI ty.kd5 Z<|lmI Z<|lq (rd (x:=vI _ _) (rd_conv Z ty.ik3 ty.ik5 Z) Z) ?_
  refine AL.slot 17 (yv ((k+1*(j:Int))%256)) (Eq.trans (b:=yv _) rfl (congrArg yv (wrap_u8 _))) ?_
  refine lbB Z<|lsB 18 false rfl (by simp)<|nG<|aN Z<|aK<|gT<|aL<|lmI Z<|lgI Z<|laI Z<|lN<|gB<|gT<|aL<|lmI Z<|lgI Z<|laI Z<|nG ?_
  refine⟨j+1,hj,by omega,⟨(iq rfl),(iq rfl),trivial⟩,trivial,rfl,rfl⟩
 ·intro h1
  refine aE<|eT<|eT<|eB<|gA<|lmI Z<|laI Z<|nG<|aR ?_
  have hje:j=m:=by have h:=h1;simp[length_rowsOf,mkLs_len]at h;omega
  refine end_ret ?_ trivial
  rw[←hje]
  exact congrArg (fun n=>some (int n)) (by omega)
theorem heldCellS_e(cs:List Cell)(k:Int)(hm:cs.length≤100000000)(hc:cntG mCe cs≤100000000)(hk:0≤k∧k≤100000000000):GC Try.prog 100 [.p (.lst 115 1 (rowsC (mkG mCe gCe cs k))),int k] [] (int (k+cntG mCe cs)) []:=by
 refine gi 4 Try.func100 rfl Try.ntmps100 rfl ?_
 intro L O w0
 refine sL<|laI Z<|nG<|aS<|sL<|laI Z<|nG<|aB ?_
 refine aW [0,4] [] (D:=Nat) (fun j=>[(5,int (j:Int)),(1,int (k+cntG mCe (cs.take j)))]) (fun j=>[]) (fun j=>j≤cs.length) (fun j=>cs.length-j) (0) (Nat.zero_le _) ⟨rfl,(congrArg int (by rw[List.take_zero];show k=k+0;omega)),trivial⟩ trivial ?_
 intro j hI
 refine aS<|sL<|lmI Z<|lmL Z<|lnI ty.sl31 Z ?_
 refine AL.slot 8 (int (cs.length:Int)) (congrArg (fun n:Nat=>int (n:Int)) (by rw[rowsC_len,mkG_len])) ?_
 refine lbB Z<|nG ?_
 refine AW.cond rfl ?_ ?_
 ·intro h1
  refine aK<|gT<|aS<|aB<|aS ?_
  have hj:j<cs.length:=by have h:=h1;simp only[decide_eq_true_eq]at h;omega
  have hpt:=cntG_take (n:=mCe) hj
  have hp0:=cntG_nn mCe_nn (cs.take j)
  have hp1:=cntG_le mCe_nn (l:=cs) (j:=j+1)
  have hbq:(cs[j].bytes.length:Int)≤cntG mCe cs:=cntG_mem mCe_nn (List.getElem_mem hj)
  have hbl:(cs[j].bytes.length:Int)≤100000000:=by omega
  have hpt2:cntG mCe (cs.take (j+1))=cntG mCe (cs.take j)+((cs[j].bytes.length:Int)):=hpt
  refine aL<|lmL Z<|lmI Z<|li j ty.el31 rfl (heldC_row hj)<|lq (rd (x:=.rp _) (zfr ty.F115_0 rfl) rfl)<|lrL ty.kd56 Z<|lmI Z<|lst (zL Try.func135 (heldByteS_e cs[j].bytes.length (k+cntG mCe (cs.take j)) (by omega) (by omega)) rfl) Z<|laI Z<|nA<|lmI Z<|lbB Z<|lsB 20 false rfl (by simp;omega)<|nG<|aN Z<|aK<|gB<|gT<|aL<|lmI Z<|lgI Z<|laI Z<|nG ?_
  refine⟨j+1,hj,by omega,⟨(iq rfl),(Eq.trans (b:=int _) rfl (congrArg int (by rw[hpt2];omega))),trivial⟩,trivial,rfl,rfl⟩
 ·intro h1
  refine aE<|eT<|eT<|eB<|gA<|lmI Z<|laI Z<|nG<|aR ?_
  have hje:j=cs.length:=by have h:=h1;simp only[decide_eq_false_iff_not]at h;omega
  refine end_ret ?_ trivial
  rw[hje,List.take_length]
  try rfl
theorem heldWriteS_e(cs:List Write)(k:Int)(hm:cs.length≤100000000)(hc:cntG mWr cs≤100000000)(hk:0≤k∧k≤100000000000):GC Try.prog 101 [.p (.lst 123 2 (rowsW (mkG mWr gWr cs k))),int k] [] (int (k+cntG mWr cs)) []:=by
 refine gi 4 Try.func101 rfl Try.ntmps101 rfl ?_
 intro L O w0
 refine sL<|laI Z<|nG<|aS<|sL<|laI Z<|nG<|aB ?_
 refine aW [0,4] [] (D:=Nat) (fun j=>[(5,int (j:Int)),(1,int (k+cntG mWr (cs.take j)))]) (fun j=>[]) (fun j=>j≤cs.length) (fun j=>cs.length-j) (0) (Nat.zero_le _) ⟨rfl,(congrArg int (by rw[List.take_zero];show k=k+0;omega)),trivial⟩ trivial ?_
 intro j hI
 refine aS<|sL<|lmI Z<|lmL Z<|lnI ty.sl32 Z ?_
 refine AL.slot 8 (int (cs.length:Int)) (congrArg (fun n:Nat=>int (n:Int)) (by rw[rowsW_len,mkG_len])) ?_
 refine lbB Z<|nG ?_
 refine AW.cond rfl ?_ ?_
 ·intro h1
  refine aK<|gT<|aS<|aB<|aS<|aS ?_
  have hj:j<cs.length:=by have h:=h1;simp only[decide_eq_true_eq]at h;omega
  have hpt:=cntG_take (n:=mWr) hj
  have hp0:=cntG_nn mWr_nn (cs.take j)
  have hp1:=cntG_le mWr_nn (l:=cs) (j:=j+1)
  have hbq:1+(cs[j].bytes.length:Int)≤cntG mWr cs:=cntG_mem mWr_nn (List.getElem_mem hj)
  have hbl:(cs[j].bytes.length:Int)≤100000000:=by omega
  have hpt2:cntG mWr (cs.take (j+1))=cntG mWr (cs.take j)+(1+(cs[j].bytes.length:Int)):=hpt
  refine aL<|lmL Z<|lmI Z<|li j ty.el32 rfl (heldW_row hj)<|lq (rd (x:=.rp _) (zfr ty.F123_0 rfl) rfl)<|lrI ty.kd3 Z<|lmI Z<|lbB Z<|lsB 18 false rfl (by simp)<|nG<|aN Z<|aK<|gA<|lmI Z<|lgI Z<|laI Z<|nA<|lmL Z<|lmI Z<|li j ty.el32 rfl (heldW_row hj)<|lq (rd (x:=.rp _) (zfr ty.F123_1 rfl) rfl)<|lrL ty.kd56 Z<|lmI Z<|lst (zL Try.func135 (heldByteS_e cs[j].bytes.length (k+cntG mWr (cs.take j)+1) (by omega) (by omega)) rfl) rfl ?_
  refine lT [0,1,4,5,27] [] ?_
  refine laI Z<|nA<|lmI Z<|lbB Z<|lsB 29 false rfl (by simp;omega)<|nG<|aN Z<|aK<|gB<|gT<|aL<|lmI Z<|lgI Z<|laI Z<|nG ?_
  refine⟨j+1,hj,by omega,⟨(iq rfl),(Eq.trans (b:=int _) rfl (congrArg int (by rw[hpt2];omega))),trivial⟩,trivial,rfl,rfl⟩
 ·intro h1
  refine aE<|eT<|eT<|eB<|gA<|lmI Z<|laI Z<|nG<|aR ?_
  have hje:j=cs.length:=by have h:=h1;simp only[decide_eq_false_iff_not]at h;omega
  refine end_ret ?_ trivial
  rw[hje,List.take_length]
  try rfl
structure DkM(d:Disk):Prop where
 lc:d.cells.length≤100000000
 lw:d.dirty.length≤100000000
 cc:cntG mCe d.cells≤100000000
 cw:cntG mWr d.dirty≤100000000
theorem DkZ.m{d:Disk}(h:DkZ d):DkM d:=⟨Nat.le_trans h.lc (by decide),Nat.le_trans h.lw (by decide),Int.le_trans h.cc (by decide),Int.le_trans h.cw (by decide)⟩
theorem dcnt_bd{d:Disk}(h:DkM d):0≤dcnt d∧dcnt d≤200000000:=by
 have:=cntG_nn mCe_nn d.cells
 have:=cntG_nn mWr_nn d.dirty
 have:=h.cc
 have:=h.cw
 unfold dcnt
 omega
theorem heldDisk_e(d:Disk)(k:Int)(h:DkM d)(hk:0≤k∧k≤10000000000):GC Try.prog 52 [diskV (mkDk d k),int k] [] (int (k+dcnt d)) []:=by
 refine gi 4 Try.func52 rfl Try.ntmps52 rfl ?_
 intro L O w0
 refine sL<|lst (zX 2002 Z) Z<|laI Z<|nG<|aS ?_
 have hc0:=cntG_nn mCe_nn d.cells
 have hc1:=h.cc
 have hw0:=cntG_nn mWr_nn d.dirty
 have hw1:=h.cw
 refine aL<|lf 0 ty.F34_0 Z<|loL ty.kd31 Z<|lmI Z<|lst (zL Try.func100 (heldCellS_e d.cells k h.lc h.cc (by omega)) rfl) Z<|laI Z<|nG<|aS<|sL<|lmI Z<|lbB Z<|lsB 10 false rfl (by simp;omega)<|nG<|aN Z<|aK<|gA<|lf 1 ty.F34_1 Z<|loL ty.kd32 Z<|lmI Z<|lst (zL Try.func101 (heldWriteS_e d.dirty (k+cntG mCe d.cells) h.lw h.cw (by omega)) rfl) Z<|laI Z<|nG<|aS<|aS ?_
 refine aL<|lmI Z<|lbB Z<|lsB 16 false rfl (by simp;omega)<|nG<|aN Z<|aK<|gA<|lmI Z<|laI Z<|nG<|aR ?_
 skip
 refine end_ret ?_ trivial
 exact congrArg (fun n=>some (int n)) (by unfold dcnt;omega)
theorem heldLog_e(l:Log)(k:Int)(h:DkM l.disk)(hk:0≤k∧k≤10000000000):GC Try.prog 16 [logV ⟨mkDk l.disk k,l.next,l.epoch⟩,int k] [] (int (k+dcnt l.disk)) []:=by
 refine gi 4 Try.func16 rfl Try.ntmps16 rfl ?_
 intro L O w0
 refine sL<|lst (zX 2002 Z) Z<|laI Z<|nG<|aS ?_
 have hb:=dcnt_bd h
 refine aL<|lf 0 ty.F36_0 Z<|loX (.agg [vL _ _ _,vL _ _ _]) ty.kd34 Z<|lmI Z<|lst (zL Try.func52 (heldDisk_e l.disk k h hk) rfl) Z<|laI Z<|nG<|aS<|sL<|lmI Z<|lbB Z<|lsB 10 false rfl (by simp;omega)<|nG<|aN Z<|aK<|gA<|lmI Z<|laI Z<|nG<|aR ?_
 refine end_ret ?_ trivial
 rfl
theorem markCellS_e(u:Value)(vs:List Value)(cs:List Cell)(R:List AO)(k:Int)(hv:vs.length=cs.length)(hR:rowF R)(hRl:R.length≤5000000)(hm:cs.length≤1048576)(hc:cntG mCe cs≤100000000)(hk:0≤k∧k≤100000000000):GN Try.prog 62 [.own 0,int k] [(0,.arr ⟨115,some u⟩ 1 (rowsCV vs))] (famB vs (byC cs)++R) (fun y l1 F1=>y=int (k+cntG mCe cs)∧l1=[(0,.arr ⟨115,some u⟩ 1 (rowsCV vs))]∧F1=famB vs (byC (mkG mCe gCe cs k))++R):=by
 have hrf0:rowF (famB vs (byC cs)++R):=rowF.app famB_row hR
 refine GN.intro (rs:=[.tmp 4]) Try.func62 rfl Try.ntmps62 (Nat.le_of_ble_eq_true rfl) ⟨rfl,trivial⟩ rfl ?_
 intro L O w0
 refine sL<|laI Z<|nG<|aS<|sL<|laI Z<|nG<|aB ?_
 refine AW.loopT (D:=Nat) [(0,.own _),(4,vI _ _)] [(0,.arr _ _ _)] (fun j=>[(5,int (j:Int)),(1,int (k+cntG mCe (cs.take j)))]) (fun j=>[]) (fun j=>famB vs (byC (mkJ mCe gCe cs k j))++R) (fun j=>j≤cs.length) (fun j=>cs.length-j) (0) (Nat.zero_le _) ⟨rfl,(congrArg int (by rw[List.take_zero];show k=k+0;omega)),trivial⟩ trivial ⟨rfl,rfl,trivial⟩ ⟨rfl,trivial⟩ (by rw[mkJ_zero];exact tlp) ?_
 intro j hI
 have hrf:rowF (famB vs (byC (mkJ mCe gCe cs k j))++R):=rowF.app famB_row hR
 refine aS<|sL<|lmI Z<|lmO Z<|lnI ty.sl31 Z ?_
 refine AL.slot 8 (int (cs.length:Int)) (congrArg (fun n:Nat=>int (n:Int)) (show (rowsCV vs).length=cs.length by rw[rowsCV_len,hv])) ?_
 refine lbB Z<|nG ?_
 refine AW.cond rfl ?_ ?_
 ·intro h1
  refine aK<|gT<|aS<|aB ?_
  have hj:j<cs.length:=by have h:=h1;simp only[decide_eq_true_eq]at h;omega
  have hpt:=cntG_take (n:=mCe) hj
  have hp0:=cntG_nn mCe_nn (cs.take j)
  have hp1:=cntG_le mCe_nn (l:=cs) (j:=j+1)
  have hbq:(cs[j].bytes.length:Int)≤cntG mCe cs:=cntG_mem mCe_nn (List.getElem_mem hj)
  have hbl:(cs[j].bytes.length:Int)≤100000000:=by omega
  have hpt2:cntG mCe (cs.take (j+1))=cntG mCe (cs.take j)+((cs[j].bytes.length:Int)):=hpt
  have hvj:vs[j]? = some (vs[j]'(by omega)):=List.getElem?_eq_getElem _
  have hrow:=rowsCV_at (vs:=vs) (i:=j) (by omega)
  have hfam:=famC_at (vs:=vs) (cs:=(mkJ mCe gCe cs k j)) (j:=j) (v:=vs[j]'(by omega)) (by rw[mkJ_len];exact hv) (by rw[mkJ_len];exact hj) hvj
  rw[mkJ_at hj]at hfam
  generalize hVJ:vs[j]'(by omega)=vj at hrow hfam hvj
  have hfl:(famB vs (byC (mkJ mCe gCe cs k j))).length=cs.length:=by rw[famB_len (by rw[List.length_map,mkJ_len];exact hv),List.length_map,mkJ_len]
  have hfam2:(famB vs (byC (mkJ mCe gCe cs k j))++R)[j]? = some (.arr ⟨5,some vj⟩ 1 (rowsOf encU cs[j].bytes)):=by rw[List.getElem?_append_left (by omega)];exact hfam
  refine aL<|lmO Z<|lmI Z<|lq (rj j ty.el31 rfl (by rw[rowsCV_len];omega))<|lf 0 ty.F115_0 Z<|lq (rd (x:=vV _) (rd_load_arr rfl ty.kd56 rfl rfl rfl (hrow) rfl) rfl) ?_
  refine AL.borrow 77 j 16 rfl rfl hfam2 tlp ?_
  have hrf2:rowF ((famB vs (byC (mkJ mCe gCe cs k j))++R).set j .gone):=rowF.set (rowF.app famB_row hR) rfl
  refine lmI rfl ?_
  refine lst (zC [(0,77)] [] [0] Try.func110 (markByteS_e vj cs[j].bytes (k+cntG mCe (cs.take j)) (by omega) (by omega)) (⟨stays.arr (by simp[rowsOf,mkLs_len]),trivial⟩) rfl rfl) Z<|laI Z<|lN<|gB<|gT ?_
  refine aTt (((famB vs (byC (mkJ mCe gCe cs k j))++R).set j .gone)) [0,1,4,5] [0,77] ?_
  refine AW.putBack 77 j rfl rfl hrf2 (by rw[List.getElem?_set_self (by rw[List.length_append];omega)]) ?_
  rw[List.set_set]
  have hrf3:rowF ((famB vs (byC (mkJ mCe gCe cs k j))++R).set j (.arr ⟨5,some vj⟩ 1 (rowsOf encU (mkdB (k+cntG mCe (cs.take j)) cs[j].bytes.length)))):=rowF.set (rowF.app famB_row hR) rfl
  refine aL<|lmI Z<|lgI Z<|laI Z<|nG ?_
  refine⟨j+1,hj,by omega,⟨(iq rfl),(Eq.trans (b:=int _) rfl (congrArg int (by rw[hpt2];omega))),trivial⟩,trivial,⟨rfl,rfl,trivial⟩,⟨rfl,trivial⟩,(by rw[mkJ_succ hj,famC_put hvj,←List.set_append_left _ _ (by omega)];exact tlp)⟩
 ·intro h1
  refine aE<|eT<|eT<|eB<|gA<|lmI Z<|laI Z<|nG<|aR ?_
  have hje:j=cs.length:=by have h:=h1;simp only[decide_eq_false_iff_not]at h;omega
  subst hje
  rw[mkJ_all]at hrf ⊢
  rw[List.take_length]
  refine end_nret (F1:=(famB vs (byC (mkG mCe gCe cs k))++R)) (int (k+cntG mCe cs)) ([(0,.arr ⟨115,some u⟩ 1 (rowsCV vs))]) ?_ (by rw[List.length_append,famB_len (by rw[List.length_map,mkG_len];exact hv),List.length_map,mkG_len];omega) rfl rfl ⟨rfl,trivial⟩ tlp
  exact⟨rfl,rfl,rfl⟩
theorem markWriteS_e(u:Value)(vs:List Value)(cs:List Write)(R:List AO)(k:Int)(hv:vs.length=cs.length)(hR:rowF R)(hRl:R.length≤5000000)(hm:cs.length≤1048576)(hc:cntG mWr cs≤100000000)(hk:0≤k∧k≤100000000000):GN Try.prog 63 [.own 0,int k] [(0,.arr ⟨123,some u⟩ 2 (rowsWV vs cs))] (famB vs (byW cs)++R) (fun y l1 F1=>y=int (k+cntG mWr cs)∧l1=[(0,.arr ⟨123,some u⟩ 2 (rowsWV vs (mkG mWr gWr cs k)))]∧F1=famB vs (byW (mkG mWr gWr cs k))++R):=by
 have hrf0:rowF (famB vs (byW cs)++R):=rowF.app famB_row hR
 refine GN.intro (rs:=[.tmp 4]) Try.func63 rfl Try.ntmps63 (Nat.le_of_ble_eq_true rfl) ⟨rfl,trivial⟩ rfl ?_
 intro L O w0
 refine sL<|laI Z<|nG<|aS<|sL<|laI Z<|nG<|aB ?_
 refine AW.loopT (D:=Nat) [(0,.own _),(4,vI _ _)] [] (fun j=>[(5,int (j:Int)),(1,int (k+cntG mWr (cs.take j)))]) (fun j=>[(0,.arr ⟨123,some u⟩ 2 (rowsWV vs (mkJ mWr gWr cs k j)))]) (fun j=>famB vs (byW (mkJ mWr gWr cs k j))++R) (fun j=>j≤cs.length) (fun j=>cs.length-j) (0) (Nat.zero_le _) ⟨rfl,(congrArg int (by rw[List.take_zero];show k=k+0;omega)),trivial⟩ ⟨(by rw[mkJ_zero];rfl),trivial⟩ ⟨rfl,rfl,trivial⟩ trivial (by rw[mkJ_zero];exact tlp) ?_
 intro j hI
 have hrf:rowF (famB vs (byW (mkJ mWr gWr cs k j))++R):=rowF.app famB_row hR
 refine aS<|sL<|lmI Z<|lmO Z<|lnI ty.sl32 Z ?_
 refine AL.slot 8 (int (cs.length:Int)) (congrArg (fun n:Nat=>int (n:Int)) (show (rowsWV vs (mkJ mWr gWr cs k j)).length=cs.length by rw[rowsWV_len (by rw[mkJ_len];exact hv),mkJ_len])) ?_
 refine lbB Z<|nG ?_
 refine AW.cond rfl ?_ ?_
 ·intro h1
  refine aK<|gT<|aS<|aB<|aS ?_
  have hj:j<cs.length:=by have h:=h1;simp only[decide_eq_true_eq]at h;omega
  have hpt:=cntG_take (n:=mWr) hj
  have hp0:=cntG_nn mWr_nn (cs.take j)
  have hp1:=cntG_le mWr_nn (l:=cs) (j:=j+1)
  have hbq:1+(cs[j].bytes.length:Int)≤cntG mWr cs:=cntG_mem mWr_nn (List.getElem_mem hj)
  have hbl:(cs[j].bytes.length:Int)≤100000000:=by omega
  have hpt2:cntG mWr (cs.take (j+1))=cntG mWr (cs.take j)+(1+(cs[j].bytes.length:Int)):=hpt
  have hvj:vs[j]? = some (vs[j]'(by omega)):=List.getElem?_eq_getElem _
  have hrow:=rowsWV_at (vs:=vs) (ws:=mkJ mWr gWr cs k j) (i:=j) (by rw[mkJ_len];exact hv) (by rw[mkJ_len];exact hj)
  have hfam:=famW_at (vs:=vs) (cs:=(mkJ mWr gWr cs k j)) (j:=j) (v:=vs[j]'(by omega)) (by rw[mkJ_len];exact hv) (by rw[mkJ_len];exact hj) hvj
  rw[mkJ_at hj]at hrow hfam
  generalize hVJ:vs[j]'(by omega)=vj at hrow hfam hvj
  have hfl:(famB vs (byW (mkJ mWr gWr cs k j))).length=cs.length:=by rw[famB_len (by rw[List.length_map,mkJ_len];exact hv),List.length_map,mkJ_len]
  have hfam2:(famB vs (byW (mkJ mWr gWr cs k j))++R)[j]? = some (.arr ⟨5,some vj⟩ 1 (rowsOf encU cs[j].bytes)):=by rw[List.getElem?_append_left (by omega)];exact hfam
  refine aL<|lmO Z<|lmI Z<|lmI Z<|lq (rj j ty.el32 rfl (by rw[rowsWV_len (by rw[mkJ_len];exact hv),mkJ_len];exact hj))<|lf 0 ty.F123_0 Z<|lst (zQ 0 [.v (.int .i64 (k+cntG mWr (cs.take j)))] ty.co3 ty.inf3 rfl (hrow)) Z<|nA<|lmI Z<|lgI Z<|laI Z<|nG<|aL<|lmO Z<|lmI Z<|lq (rj j ty.el32 rfl (by rw[List.length_set];rw[rowsWV_len (by rw[mkJ_len];exact hv),mkJ_len];exact hj))<|lf 1 ty.F123_1 Z<|lq (rd (x:=vV _) (rd_load_arr rfl ty.kd56 rfl rfl rfl (List.getElem?_set_self (by rw[rowsWV_len (by rw[mkJ_len];exact hv),mkJ_len];exact hj)) rfl) rfl) ?_
  refine AL.borrow 77 j 23 rfl rfl hfam2 tlp ?_
  have hrf2:rowF ((famB vs (byW (mkJ mWr gWr cs k j))++R).set j .gone):=rowF.set (rowF.app famB_row hR) rfl
  refine lmI rfl ?_
  refine lst (zC [(0,77)] [] [0] Try.func110 (markByteS_e vj cs[j].bytes (k+cntG mWr (cs.take j)+1) (by omega) (by omega)) (⟨stays.arr (by simp[rowsOf,mkLs_len]),trivial⟩) rfl rfl) rfl ?_
  refine lTt (((famB vs (byW (mkJ mWr gWr cs k j))++R).set j .gone)) [0,1,4,5,25] [0,77] ?_
  refine laI Z<|lN<|gB<|gT ?_
  refine aTt (((famB vs (byW (mkJ mWr gWr cs k j))++R).set j .gone)) [0,1,4,5] [0,77] ?_
  refine AW.putBack 77 j rfl rfl hrf2 (by rw[List.getElem?_set_self (by rw[List.length_append];omega)]) ?_
  rw[List.set_set]
  have hrf3:rowF ((famB vs (byW (mkJ mWr gWr cs k j))++R).set j (.arr ⟨5,some vj⟩ 1 (rowsOf encU (mkdB (k+cntG mWr (cs.take j)+1) cs[j].bytes.length)))):=rowF.set (rowF.app famB_row hR) rfl
  refine aL<|lmI Z<|lgI Z<|laI Z<|nG ?_
  refine⟨j+1,hj,by omega,⟨(iq rfl),(Eq.trans (b:=int _) rfl (congrArg int (by rw[hpt2];omega))),trivial⟩,⟨(Eq.trans (b:=AO.arr ⟨123,some u⟩ 2 ((rowsWV vs (mkJ mWr gWr cs k j)).set j [.v (.int .i64 (k+cntG mWr (cs.take j))),.v vj])) rfl (congrArg (AO.arr ⟨123,some u⟩ 2) (by rw[mkJ_succ hj,rowsWV_set hvj]))),trivial⟩,⟨rfl,rfl,trivial⟩,trivial,(by rw[mkJ_succ hj,famW_put hvj,←List.set_append_left _ _ (by omega)];exact tlp)⟩
 ·intro h1
  refine aE<|eT<|eT<|eB<|gA<|lmI Z<|laI Z<|nG<|aR ?_
  have hje:j=cs.length:=by have h:=h1;simp only[decide_eq_false_iff_not]at h;omega
  subst hje
  rw[mkJ_all]at hrf ⊢
  rw[List.take_length]
  refine end_nret (F1:=(famB vs (byW (mkG mWr gWr cs k))++R)) (int (k+cntG mWr cs)) ([(0,.arr ⟨123,some u⟩ 2 (rowsWV vs (mkG mWr gWr cs k)))]) ?_ (by rw[List.length_append,famB_len (by rw[List.length_map,mkG_len];exact hv),List.length_map,mkG_len];omega) rfl rfl ⟨rfl,trivial⟩ tlp
  exact⟨rfl,rfl,rfl⟩
abbrev obP(u1 u2:Value)(vs us:List Value)(d:Disk):List (Nat×AO):=[(1,.arr ⟨115,some u1⟩ 1 (rowsCV vs)),(2,.arr ⟨123,some u2⟩ 2 (rowsWV us d.dirty))]
theorem famD_assoc{vs us:List Value}{d:Disk}{R:List AO}:famD vs us d++R=famB vs (byC d.cells)++(famB us (byW d.dirty)++R):=List.append_assoc ..
theorem markDisk_e(u1 u2:Value)(vs us:List Value)(d:Disk)(R:List AO)(k:Int)(hv:vs.length=d.cells.length)(hu:us.length=d.dirty.length)(hR:rowF R)(hRl:R.length≤3000000)(hz:DkZ d)(hk:0≤k∧k≤10000000000):GN Try.prog 23 [.agg [.own 1,.own 2],int k] (obP u1 u2 vs us d) (famD vs us d++R) (fun y l1 F1=>y=int (k+dcnt d)∧l1=obP u1 u2 vs us (mkDk d k)∧F1=famD vs us (mkDk d k)++R):=by
 have hrf0:rowF (famD vs us d++R):=rowF.app famD_row hR
 refine GN.intro (rs:=[.tmp 4]) Try.func23 rfl Try.ntmps23 (Nat.le_of_ble_eq_true rfl) ⟨rfl,trivial⟩ rfl ?_
 intro L O w0
 refine sL<|lst (zX 2002 Z) Z<|laI Z<|nG<|aS ?_
 rw[famD_assoc]
 have hr1:rowF (famB vs (byC d.cells)++(famB us (byW d.dirty)++R)):=rowF.app famB_row (rowF.app famB_row hR)
 have hu2:(famB us (byW d.dirty)).length=d.dirty.length:=by rw[famB_len (by simpa using hu),List.length_map]
 have hv2:(famB vs (byC d.cells)).length=d.cells.length:=by rw[famB_len (by simpa using hv),List.length_map]
 have hc0:=cntG_nn mCe_nn d.cells
 have hc1:=hz.cc
 have hw0:=cntG_nn mWr_nn d.dirty
 have hw1:=hz.cw
 have hlc:=hz.lc
 have hlw:=hz.lw
 refine aL<|lf 0 ty.F34_0 Z<|loO ty.kd31 Z<|lmI Z ?_
 refine AL.stx (StX.callN (F:=(famB vs (byC d.cells)++(famB us (byW d.dirty)++R))) [(0,1)] [] [0] 0 Try.func62 (markCellS_e u1 vs d.cells (famB us (byW d.dirty)++R) k hv (rowF.app famB_row hR) (by rw[List.length_append,hu2];omega) hz.lc (by omega) (by omega)) tlp List.drop_zero List.take_zero (Nat.zero_le _) ((by rw[List.length_append,List.length_append,hu2,hv2];omega)) ((fun y l F ⟨_,e2,_⟩=>by subst e2;exact⟨stays.arr rfl,trivial⟩)) rfl rfl) rfl ?_
 rintro _ _ ⟨xz1,oz1,Fz1,hz1,hF1,hM1,rfl,rfl⟩
 obtain⟨rfl,rfl,rfl⟩:=hz1
 have hrf1:rowF ([]++(famB vs (byC (mkG mCe gCe d.cells k))++(famB us (byW d.dirty)++R))):=rowF.app (by first|assumption|exact rowF.nil) hF1
 refine laI Z<|nG<|aS ?_
 rw[List.nil_append]
 have hrA:rowF (famB vs (byC (mkG mCe gCe d.cells k))):=famB_row
 have hr2:rowF (famB vs (byC (mkG mCe gCe d.cells k))++(famB us (byW d.dirty)++R)):=rowF.app famB_row (rowF.app famB_row hR)
 have hv3:(famB vs (byC (mkG mCe gCe d.cells k))).length=d.cells.length:=by rw[famB_len (by rw[List.length_map,mkG_len];exact hv),List.length_map,mkG_len]
 refine aL<|lf 1 ty.F34_1 Z<|loO ty.kd32 Z<|lmI Z ?_
 refine AL.stx (StX.callN (F:=(famB vs (byC (mkG mCe gCe d.cells k))++(famB us (byW d.dirty)++R))) [(0,2)] [] [0] (famB vs (byC (mkG mCe gCe d.cells k))).length Try.func63 (markWriteS_e u2 us d.dirty R (k+cntG mCe d.cells) hu hR (by omega) hz.lw (by omega) (by omega)) tlp List.drop_left List.take_left (by simp) ((by rw[List.length_append,List.length_append,hu2,hv3];omega)) ((fun y l F ⟨_,e2,_⟩=>by subst e2;exact⟨stays.arr (by rw[rowsWV_len (by rw[mkG_len];exact hu),mkG_len,rowsWV_len hu]),trivial⟩)) rfl rfl) rfl ?_
 rintro _ _ ⟨xz2,oz2,Fz2,hz2,hF2,hM2,rfl,rfl⟩
 obtain⟨rfl,rfl,rfl⟩:=hz2
 have hrf2:rowF (famB vs (byC (mkG mCe gCe d.cells k))++(famB us (byW (mkG mWr gWr d.dirty (k+cntG mCe d.cells)))++R)):=rowF.app (by first|assumption|exact rowF.nil) hF2
 refine laI Z<|nA<|lmI Z<|laI Z<|nG<|aR ?_
 have hrE:rowF (famD vs us (mkDk d k)++R):=rowF.app famD_row hR
 rw[show famB vs (byC (mkG mCe gCe d.cells k))++(famB us (byW (mkG mWr gWr d.dirty (k+cntG mCe d.cells)))++R)=famD vs us (mkDk d k)++R from(famD_assoc (vs:=vs) (us:=us) (d:=mkDk d k) (R:=R)).symm]
 refine end_nret (F1:=(famD vs us (mkDk d k)++R)) (int ((k+cntG mCe d.cells)+cntG mWr d.dirty)) (obP u1 u2 vs us (mkDk d k)) ?_ (by rw[List.length_append,famD_len (d:=(mkDk d k)) (by show vs.length=(mkG mCe gCe d.cells k).length;rw[mkG_len];exact hv) (by show us.length=(mkG mWr gWr d.dirty _).length;rw[mkG_len];exact hu)];show (mkG mCe gCe d.cells k).length+(mkG mWr gWr d.dirty _).length+R.length≤_;rw[mkG_len,mkG_len];omega) rfl rfl ⟨rfl,rfl,trivial⟩ tlp
 exact⟨congrArg int (by unfold dcnt;omega),rfl,rfl⟩
theorem markLog_e(u1 u2:Value)(vs us:List Value)(d:Disk)(R:List AO)(k:Int)(hv:vs.length=d.cells.length)(hu:us.length=d.dirty.length)(hR:rowF R)(hRl:R.length≤3000000)(hz:DkZ d)(hk:0≤k∧k≤10000000000)(a b:Int):GN Try.prog 15 [.agg [.own 1,.own 2,int a,int b],int k] (obP u1 u2 vs us d) (famD vs us d++R) (fun y l1 F1=>y=int (k+dcnt d)∧l1=obP u1 u2 vs us (mkDk d k)∧F1=famD vs us (mkDk d k)++R):=by
 have hrf0:rowF (famD vs us d++R):=rowF.app famD_row hR
 refine GN.intro (rs:=[.tmp 4]) Try.func15 rfl Try.ntmps15 (Nat.le_of_ble_eq_true rfl) ⟨rfl,trivial⟩ rfl ?_
 intro L O w0
 refine sL<|lst (zX 2002 Z) Z<|laI Z<|nG<|aS ?_
 have hDl:=famD_len hv hu
 have hlc:=hz.lc
 have hlw:=hz.lw
 refine aL<|lf 0 ty.F36_0 Z<|loX (.agg [.own _,.own _]) ty.kd34 Z<|lmI Z ?_
 refine AL.stx (StX.callN (F:=famD vs us d++R) [(1,1),(2,2)] [] [1,2] 0 Try.func23 (markDisk_e u1 u2 vs us d R k hv hu hR hRl hz hk) tlp List.drop_zero List.take_zero (Nat.zero_le _) ((by rw[List.length_append,hDl];omega)) ((fun y l F ⟨_,e2,_⟩=>by subst e2;exact⟨stays.arr rfl,stays.arr (by show (rowsWV us (mkG mWr gWr d.dirty _)).length=_;rw[rowsWV_len (by rw[mkG_len];exact hu),mkG_len,rowsWV_len hu]),trivial⟩)) rfl rfl) rfl ?_
 rintro _ _ ⟨xz1,oz1,Fz1,hz1,hF1,hM1,rfl,rfl⟩
 obtain⟨rfl,rfl,rfl⟩:=hz1
 have hrf1:rowF ([]++(famD vs us (mkDk d k)++R)):=rowF.app (by first|assumption|exact rowF.nil) hF1
 refine laI Z<|nG<|aS ?_
 rw[List.nil_append]
 have hrE:rowF (famD vs us (mkDk d k)++R):=rowF.app famD_row hR
 refine aL<|lmI Z<|laI Z<|nG<|aR ?_
 skip
 refine end_nret (F1:=(famD vs us (mkDk d k)++R)) (int (k+dcnt d)) (obP u1 u2 vs us (mkDk d k)) ?_ (by rw[List.length_append,famD_len (d:=(mkDk d k)) (by show vs.length=(mkG mCe gCe d.cells k).length;rw[mkG_len];exact hv) (by show us.length=(mkG mWr gWr d.dirty _).length;rw[mkG_len];exact hu)];show (mkG mCe gCe d.cells k).length+(mkG mWr gWr d.dirty _).length+R.length≤_;rw[mkG_len,mkG_len];omega) rfl rfl ⟨rfl,rfl,trivial⟩ tlp
 exact⟨rfl,rfl,rfl⟩
theorem toLog_n(d:Log)(hz:DkZ d.disk):GN Try.prog 11 [llogV d] [] ([]) (lgRel d):=by
 refine GN.intro (rs:=[.cell 2 36 (some 4)]) Try.func11 rfl Try.ntmps11 (Nat.le_of_ble_eq_true rfl) ⟨rfl,rfl,ty.kd36,trivial⟩ rfl ?_
 intro L O w0
 refine sL<|lst (zX 2001 Z) Z<|lst (zA 2002 ty.ze36 Z) Z<|nA<|lst (zA 2003 ty.ze36 Z) Z<|nA<|lf 0 ty.F27_0 Z<|loX (.agg [vL _ _ _,vL _ _ _]) ty.kd25 Z ?_
 refine AL.stx (StX.callN (F:=[]) [(1,1),(2,2)] [1,2] [] ([]).length Try.func19 (toDisk_n d.disk hz) tlp List.drop_length List.take_length (Nat.le_refl _) ((by simp)) (fun _ _ _ _=>trivial) rfl rfl) rfl ?_
 rintro _ _ ⟨xz1,oz1,Fz1,hz1,hF1,hM1,rfl,rfl⟩
 obtain⟨vs,us,hvl,hul,rfl,rfl,rfl⟩:=hz1
 have hrf1:rowF ([]++famD vs us d.disk):=rowF.app (by first|assumption|exact rowF.nil) hF1
 refine lf 0 ty.F36_0 Z<|lst (zB 2003 ty.co34 ty.inf34 Z) Z<|nA<|lf 2 ty.F27_1 Z<|loI ty.kd3 Z<|lf 2 ty.F36_1 Z<|lst (zB 2003 ty.co3 ty.inf3 Z) Z<|nA<|lf 3 ty.F27_2 Z<|loI ty.kd3 Z<|lf 3 ty.F36_2 Z<|lst (zB 2003 ty.co3 ty.inf3 Z) Z ?_
 refine lTt (([]++famD vs us d.disk)) [2,3] [1,2,2001,2002,2003] ?_
 refine nA<|loX (.agg [.own _,.own _,vI _ _,vI _ _]) ty.kd36 Z<|lst (zB 2002 ty.co36 ty.inf36 Z) Z<|nG<|aR ?_
 rw[List.nil_append]
 have hrfD:rowF (famD vs us d.disk):=famD_row
 refine end_nret (F1:=(famD vs us d.disk)) (.agg [.own 1,.own 2,int d.next,int d.epoch]) (obD vs us d.disk) ?_ (by rw[famD_len hvl hul];have:=hz.lc;have:=hz.lw;omega) rfl rfl ⟨rfl,rfl,trivial⟩ tlp
 exact⟨vs,us,hvl,hul,rfl,rfl,rfl⟩
end Go.Proofs.Yteblcdnhnckkaaa

