/- Texts of the proof of FnFnOpen, joined: EO8, EO9, EA5, EA6, ES1, EP1, Cur1. -/
import Derived.Test.YteblcdnhnckkaaaJFnOpen7
import Derived.Test.YteblcdnhnckkaaaJFnOpen5
import Derived.Test.YteblcdnhnckkaaaJFnOpen3
import Derived.Test.YteblcdnhnckkaaaJFnOpen4
import Derived.Test.YteblcdnhnckkaaaKNum
namespace Go.Proofs.Yteblcdnhnckkaaa
open Go.RowKit
set_option maxHeartbeats 16000000
set_option maxRecDepth 100000
set_option linter.unusedSimpArgs false
set_option linter.unusedVariables false
abbrev uAr(v:Value)(b:List Int):AO:=.arr ⟨5,some v⟩ 1 (rowsOf encU b)
theorem famC_succ{vs:List Value}{u:Value}{cs:List Cell}{k:Nat}(hk:k<cs.length)(hv:vs.length=k):famB (vs++[u]) (byC (cs.take (k+1)))=famB vs (byC (cs.take k))++[uAr u cs[k].bytes]:=by
 rw[List.take_succ_eq_append_getElem hk,byC,List.map_append]
 exact famB_app (by rw[List.length_map,List.length_take];omega)
theorem famW_succ{A:List AO}{vs:List Value}{u:Value}{cs:List Write}{k:Nat}(hk:k<cs.length)(hv:vs.length=k):A++famB (vs++[u]) (byW (cs.take (k+1)))=A++famB vs (byW (cs.take k))++[uAr u cs[k].bytes]:=by
 rw[List.take_succ_eq_append_getElem hk,byW,List.map_append,List.append_assoc]
 exact congrArg (A++·) (famB_app (by rw[List.length_map,List.length_take];omega))
theorem rowsWV_succ{vs:List Value}{u:Value}{cs:List Write}{k:Nat}(hk:k<cs.length)(hv:vs.length=k):rowsWV vs (cs.take k)++[[.v (.int .i64 cs[k].at_),.v u]]=rowsWV (vs++[u]) (cs.take (k+1)):=by
 rw[List.take_succ_eq_append_getElem hk,rowsWV_app (by rw[List.length_take];omega)]
theorem rowsW_succ{cs:List Write}{k:Nat}(hk:k<cs.length):rowsW (cs.take k)++[[.v (.int .i64 cs[k].at_),lstB cs[k].bytes]]=rowsW (cs.take (k+1)):=by
 rw[List.take_succ_eq_append_getElem hk];unfold rowsW;rw[List.map_append];rfl
theorem wv_take_len{vs:List Value}{ws:List Write}{k:Nat}(hv:vs.length=k)(hk:k≤ws.length):(rowsWV vs (ws.take k)).length=k:=by rw[rowsWV_len (by rw[List.length_take];omega),List.length_take];omega
abbrev obC(vs:List Value)(d:Disk):List (Nat×AO):=[(1,.arr 115 1 (rowsCV vs)),(2,.arr 123 2 (rowsW d.dirty))]
def cellRel(d:Disk):AV→List (Nat×AO)→List AO→Prop:=fun y l1 F1=>∃vs:List Value,vs.length=d.cells.length∧y=oDisk∧l1=obC vs d∧F1=famB vs (byC d.cells)
structure DkS(d:Disk):Prop where
 lc:d.cells.length≤2000000
 lw:d.dirty.length≤2000000
 bc:∀c∈d.cells,c.bytes.length≤2000000
 bw:∀w∈d.dirty,w.bytes.length≤2000000
theorem dok_s{d:Disk}(h:diskOk d=true):DkS d:=⟨by have:=(dok_iff h).1;omega,by have:=(dok_iff h).1;omega,fun c hc=>by
 obtain⟨j,hj,rfl⟩:=List.getElem_of_mem hc
 have:=dok_c h hj;omega,fun c hc=>by
 obtain⟨j,hj,rfl⟩:=List.getElem_of_mem hc
 have:=dok_w h hj;omega⟩
theorem copyDisk_n(d:Disk)(hs:DkS d):GN Try.prog 78 [diskV d] [] ([]) (diskRel d):=by
 refine GN.intro (rs:=[.cell 2 34 (some 2)]) Try.func78 rfl Try.ntmps78 (Nat.le_of_ble_eq_true rfl) ⟨rfl,rfl,ty.kd34,trivial⟩ rfl ?_
 intro L O w0
 refine sL<|lst (zX 2001 Z) Z<|lst (zA 2002 ty.ze34 Z) Z<|nA<|lst (zA 2003 ty.ze34 Z) Z<|nG<|aS<|aS ?_
 refine AW.adoptB 1 2003 0 115 1 rfl (by decide) rfl ?_
 refine AW.adoptB 2 2003 1 123 2 rfl (by decide) rfl ?_
 refine aL<|lf 0 ty.F34_0 Z<|loL ty.kd31 Z<|lnI ty.sl31 Z ?_
 refine AL.slot 10 (int (d.cells.length:Int)) (congrArg (fun n:Nat=>int (n:Int)) (rowsC_len _)) ?_
 refine lmI Z<|nG<|aB ?_
 refine AW.loopT (D:=Nat×List Value) [(1,.ptr 2001 _ 0),(2,.ptr 2002 _ 0),(3,.ptr 2003 _ 0),(9,vL _ _ _),(10,vI _ _)] [(2,.arr _ _ _),(2001,.box _ _ [vL _ _ _,vL _ _ _]),(2002,.box _ _ [vV _,vV _]),(2003,.box _ _ [.own _,.own _])] (fun a=>[(11,int (a.1:Int))]) (fun a=>[(1,.arr 115 1 (rowsCV a.2))]) (fun a=>famB a.2 (byC (d.cells.take a.1))) (fun a=>a.1≤d.cells.length∧a.2.length=a.1) (fun a=>d.cells.length-a.1) ((0,[])) (⟨Nat.zero_le _,rfl⟩) ⟨rfl,trivial⟩ ⟨rfl,trivial⟩ ⟨rfl,rfl,rfl,rfl,rfl,trivial⟩ ⟨rfl,rfl,rfl,rfl,trivial⟩ (by rw[List.take_zero];exact tlp) ?_
 intro ⟨k,vs⟩ hI
 obtain⟨hkl,hvl⟩:=hI
 replace hkl:k≤d.cells.length:=hkl
 replace hvl:vs.length=k:=hvl
 have hfr:rowF (famB vs (byC (d.cells.take k))):=famB_row
 have hfl:(famB vs (byC (d.cells.take k))).length=k:=by rw[famB_len (by rw[List.length_map,List.length_take];omega),List.length_map,List.length_take];omega
 refine sL<|lbB Z<|nG<|aS ?_
 refine AW.cond rfl ?_ ?_
 ·intro h1
  refine aK<|gT<|aS<|aB<|aS ?_
  have hk:k<d.cells.length:=by have h:=h1;simp only[decide_eq_true_eq]at h;omega
  have hlc:=hs.lc
  refine aL<|li k ty.el31 Z (rowsC_at hk)<|lrX (.agg [vL _ _ _]) ty.kd115 Z<|lst (zA 2005 ty.ze115 Z) Z<|lst (zB 2005 ty.co115 ty.inf115 Z) Z<|nG<|aF [7,9]<|pq 0 (qf 0 ty.F34_0 Z)<|sq 1 (roO ty.kd31 Z)<|vq 2 (rf 0 ty.F115_0 Z)<|vq 3 (roL ty.kd56 Z) ?_
  refine AF.stx (i:=4) rfl (by kernel_rfl) (StX.callN (F:=famB vs (byC (d.cells.take k))) [] [] [] (famB vs (byC (d.cells.take k))).length Try.func99 (copyBytes_n d.cells[k].bytes (hs.bc _ (List.getElem_mem hk))) tlp List.drop_length List.take_length (Nat.le_refl _) (by first|(rw[List.length_append,hfl,hfl2];omega)|(rw[hfl];omega)|(rw[List.nil_append,famD_len hvl hul];omega)) (fun _ _ _ _=>trivial) rfl rfl) (.inr rfl) rfl ?_
  rintro _ _ ⟨xz2,oz2,Fz2,hz2,hF2,hM2,rfl,rfl⟩
  obtain⟨u1,rfl,rfl,rfl⟩:=hz2
  have hrf2:rowF (famB vs (byC (d.cells.take k))++[uAr u1 d.cells[k].bytes]):=rowF.app (by first|assumption|exact rowF.nil) hF2
  refine fTt ((famB vs (byC (d.cells.take k))++[uAr u1 d.cells[k].bytes])) [1,2,3,9,10,11,16,19] [1,2,2001,2002,2003,2005] ?_
  refine vq 5 (rd (x:=.agg [vV _]) (rd_build rfl ty.sa115 rfl rfl rfl) rfl)<|vst 6 rfl (zS 2021 [[.v u1]] ty.el31 ty.ze115 rfl (by intro r hr;simp at hr;subst hr;rfl)) (.inr rfl)<|vst 7 rfl (zP 1 ty.el31 ty.ze115 ty.by115 rfl (Src.own rfl rfl) (by first|(simp[rowsCV_len,rowsW_len];done)|(simp[rowsCV_len,rowsW_len];omega))) (.inl rfl)<|vq 8 (rf 0 ty.F34_0 rfl)<|vst 9 rfl (zB 2003 ty.co31 ty.inf31 rfl) (.inl rfl)<|fD<|gB<|gT<|aL<|lgI Z<|lmI Z<|nG ?_
  refine⟨(k+1,vs++[u1]),⟨hk,by rw[List.length_append,hvl];rfl⟩,by show d.cells.length-(k+1)<d.cells.length-k;omega,⟨(iq rfl),trivial⟩,⟨(congrArg (AO.arr 115 1) rowsCV_app.symm),trivial⟩,⟨rfl,rfl,rfl,rfl,rfl,trivial⟩,⟨rfl,rfl,rfl,rfl,trivial⟩,(by rw[famC_succ hk hvl];exact tlp)⟩
 ·intro h1
  refine aE<|eT<|eT<|eB<|gT<|aS<|aS ?_
  have hke:k=d.cells.length:=by have h:=h1;simp only[decide_eq_false_iff_not]at h;omega
  subst hke
  rw[List.take_length]at hfr hfl ⊢
  refine aL<|lf 1 ty.F34_1 Z<|loL ty.kd32 Z<|lnI ty.sl32 Z ?_
  refine AL.slot 27 (int (d.dirty.length:Int)) (congrArg (fun n:Nat=>int (n:Int)) (rowsW_len _)) ?_
  refine lmI Z<|nG<|aB ?_
  refine AW.loopT (D:=Nat×List Value) [(2,.ptr 2002 _ 0),(3,.ptr 2003 _ 0),(26,vL _ _ _),(27,vI _ _)] [(1,.arr _ _ _),(2001,.box _ _ [vL _ _ _,vL _ _ _]),(2002,.box _ _ [vV _,vV _]),(2003,.box _ _ [.own _,.own _])] (fun a=>[(28,int (a.1:Int))]) (fun a=>[(2,.arr 123 2 (rowsWV a.2 (d.dirty.take a.1)))]) (fun a=>famB vs (byC d.cells)++famB a.2 (byW (d.dirty.take a.1))) (fun a=>a.1≤d.dirty.length∧a.2.length=a.1) (fun a=>d.dirty.length-a.1) ((0,[])) (⟨Nat.zero_le _,rfl⟩) ⟨rfl,trivial⟩ ⟨rfl,trivial⟩ ⟨rfl,rfl,rfl,rfl,trivial⟩ ⟨rfl,rfl,rfl,rfl,trivial⟩ (by rw[List.take_zero,show famB [] (byW [])=[]from rfl,List.append_nil];exact tlp) ?_
  intro ⟨j,us⟩ hI
  obtain⟨hjl,hul⟩:=hI
  replace hjl:j≤d.dirty.length:=hjl
  replace hul:us.length=j:=hul
  have hfr2:rowF (famB vs (byC d.cells)++famB us (byW (d.dirty.take j))):=hfr.app famB_row
  have hfl2:(famB us (byW (d.dirty.take j))).length=j:=by rw[famB_len (by rw[List.length_map,List.length_take];omega),List.length_map,List.length_take];omega
  have hwl:=wv_take_len hul hjl
  refine sL<|lbB Z<|nG<|aS ?_
  refine AW.cond rfl ?_ ?_
  ·intro h2
   refine aK<|gT<|aS<|aB<|aS ?_
   have hj:j<d.dirty.length:=by have h:=h2;simp only[decide_eq_true_eq]at h;omega
   have hlw:=hs.lw
   have hlc:=hs.lc
   refine aL<|li j ty.el32 Z (rowsW_at hj)<|lrX (.agg [vI _ _,vL _ _ _]) ty.kd123 Z<|lst (zA 2007 ty.ze123 Z) Z ?_
   refine lTt ((famB vs (byC d.cells)++famB us (byW (d.dirty.take j)))) [2,3,7,26,27,28,31] [1,2,2001,2002,2003,2007] ?_
   refine lst (zB 2007 ty.co123 ty.inf123 Z) Z<|nG<|aF [9,11]<|pq 0 (qf 1 ty.F34_1 Z)<|sq 1 (roO ty.kd32 Z)<|pq 2 (qf 0 ty.F123_0 Z)<|sq 3 (roI ty.kd3 Z)<|vq 4 (rf 1 ty.F123_1 Z)<|vq 5 (roL ty.kd56 Z) ?_
   refine AF.stx (i:=6) rfl (by kernel_rfl) (StX.callN (F:=(famB vs (byC d.cells)++famB us (byW (d.dirty.take j)))) [] [] [] ((famB vs (byC d.cells)++famB us (byW (d.dirty.take j)))).length Try.func99 (copyBytes_n d.dirty[j].bytes (hs.bw _ (List.getElem_mem hj))) tlp List.drop_length List.take_length (Nat.le_refl _) (by first|(rw[List.length_append,hfl,hfl2];omega)|(rw[hfl];omega)|(rw[List.nil_append,famD_len hvl hul];omega)) (fun _ _ _ _=>trivial) rfl rfl) (.inr rfl) rfl ?_
   rintro _ _ ⟨xz4,oz4,Fz4,hz4,hF4,hM4,rfl,rfl⟩
   obtain⟨u2,rfl,rfl,rfl⟩:=hz4
   have hrf4:rowF ((famB vs (byC d.cells)++famB us (byW (d.dirty.take j)))++[uAr u2 d.dirty[j].bytes]):=rowF.app (by first|assumption|exact rowF.nil) hF4
   refine vq 7 (rd (x:=.agg [vI _ _,vV _]) (rd_build rfl ty.sa123 rfl rfl rfl) rfl)<|vst 8 rfl (zS 2040 [[.v (.int .i64 d.dirty[j].at_),.v u2]] ty.el32 ty.ze123 rfl (by intro r hr;simp at hr;subst hr;rfl)) (.inr rfl)<|vst 9 rfl (zP 2 ty.el32 ty.ze123 ty.by123 rfl (Src.own rfl rfl) (by first|(simp[rowsCV_len,rowsW_len];done)|(simp[rowsCV_len,rowsW_len];omega))) (.inl rfl)<|vq 10 (rf 1 ty.F34_1 rfl)<|vst 11 rfl (zB 2003 ty.co32 ty.inf32 rfl) (.inl rfl)<|fD<|gB<|gT<|aL<|lgI Z<|lmI Z<|nG ?_
   refine⟨(j+1,us++[u2]),⟨hj,by rw[List.length_append,hul];rfl⟩,by show d.dirty.length-(j+1)<d.dirty.length-j;omega,⟨(iq rfl),trivial⟩,⟨(congrArg (AO.arr 123 2) (rowsWV_succ hj hul)),trivial⟩,⟨rfl,rfl,rfl,rfl,trivial⟩,⟨rfl,rfl,rfl,rfl,trivial⟩,(by rw[famW_succ hj hul];exact tlp)⟩
  ·intro h2
   refine aE<|eT<|eT<|eB<|gT<|aS ?_
   have hje:j=d.dirty.length:=by have h:=h2;simp only[decide_eq_false_iff_not]at h;omega
   subst hje
   rw[List.take_length]at hfr2 hfl2 ⊢
   have hfrD:rowF (famD vs us d):=famD_row
   refine aL<|loX (.agg [.own _,.own _]) ty.kd34 Z<|lst (zB 2002 ty.co34 ty.inf34 Z) Z ?_
   refine lTt ((famD vs us d)) [2] [1,2,2001,2002,2003] ?_
   refine nG<|aR ?_
   skip
   refine end_nret (F1:=(famD vs us d)) (oDisk) (obD vs us d) ?_ (by have:=hs.lc;have:=hs.lw;unfold famD;rw[List.length_append];omega) rfl rfl ⟨rfl,rfl,trivial⟩ tlp
   exact⟨vs,us,hvl,hul,rfl,rfl,rfl⟩
theorem copyDisk_c(d:Disk)(hs:DkS d):GN Try.prog 78 [diskV d] [] ([]) (cellRel d):=by
 refine GN.intro (rs:=[.cell 2 34 (some 2)]) Try.func78 rfl Try.ntmps78 (Nat.le_of_ble_eq_true rfl) ⟨rfl,rfl,ty.kd34,trivial⟩ rfl ?_
 intro L O w0
 refine sL<|lst (zX 2001 Z) Z<|lst (zA 2002 ty.ze34 Z) Z<|nA<|lst (zA 2003 ty.ze34 Z) Z<|nG<|aS<|aS ?_
 refine AW.adoptB 1 2003 0 115 1 rfl (by decide) rfl ?_
 refine AW.adoptB 2 2003 1 123 2 rfl (by decide) rfl ?_
 refine aL<|lf 0 ty.F34_0 Z<|loL ty.kd31 Z<|lnI ty.sl31 Z ?_
 refine AL.slot 10 (int (d.cells.length:Int)) (congrArg (fun n:Nat=>int (n:Int)) (rowsC_len _)) ?_
 refine lmI Z<|nG<|aB ?_
 refine AW.loopT (D:=Nat×List Value) [(1,.ptr 2001 _ 0),(2,.ptr 2002 _ 0),(3,.ptr 2003 _ 0),(9,vL _ _ _),(10,vI _ _)] [(2,.arr _ _ _),(2001,.box _ _ [vL _ _ _,vL _ _ _]),(2002,.box _ _ [vV _,vV _]),(2003,.box _ _ [.own _,.own _])] (fun a=>[(11,int (a.1:Int))]) (fun a=>[(1,.arr 115 1 (rowsCV a.2))]) (fun a=>famB a.2 (byC (d.cells.take a.1))) (fun a=>a.1≤d.cells.length∧a.2.length=a.1) (fun a=>d.cells.length-a.1) ((0,[])) (⟨Nat.zero_le _,rfl⟩) ⟨rfl,trivial⟩ ⟨rfl,trivial⟩ ⟨rfl,rfl,rfl,rfl,rfl,trivial⟩ ⟨rfl,rfl,rfl,rfl,trivial⟩ (by rw[List.take_zero];exact tlp) ?_
 intro ⟨k,vs⟩ hI
 obtain⟨hkl,hvl⟩:=hI
 replace hkl:k≤d.cells.length:=hkl
 replace hvl:vs.length=k:=hvl
 have hfr:rowF (famB vs (byC (d.cells.take k))):=famB_row
 have hfl:(famB vs (byC (d.cells.take k))).length=k:=by rw[famB_len (by rw[List.length_map,List.length_take];omega),List.length_map,List.length_take];omega
 refine sL<|lbB Z<|nG<|aS ?_
 refine AW.cond rfl ?_ ?_
 ·intro h1
  refine aK<|gT<|aS<|aB<|aS ?_
  have hk:k<d.cells.length:=by have h:=h1;simp only[decide_eq_true_eq]at h;omega
  have hlc:=hs.lc
  refine aL<|li k ty.el31 Z (rowsC_at hk)<|lrX (.agg [vL _ _ _]) ty.kd115 Z<|lst (zA 2005 ty.ze115 Z) Z<|lst (zB 2005 ty.co115 ty.inf115 Z) Z<|nG<|aF [7,9]<|pq 0 (qf 0 ty.F34_0 Z)<|sq 1 (roO ty.kd31 Z)<|vq 2 (rf 0 ty.F115_0 Z)<|vq 3 (roL ty.kd56 Z) ?_
  refine AF.stx (i:=4) rfl (by kernel_rfl) (StX.callN (F:=famB vs (byC (d.cells.take k))) [] [] [] (famB vs (byC (d.cells.take k))).length Try.func99 (copyBytes_n d.cells[k].bytes (hs.bc _ (List.getElem_mem hk))) tlp List.drop_length List.take_length (Nat.le_refl _) (by first|(rw[List.length_append,hfl,hfl2];omega)|(rw[hfl];omega)|(rw[List.nil_append,famD_len hvl hul];omega)) (fun _ _ _ _=>trivial) rfl rfl) (.inr rfl) rfl ?_
  rintro _ _ ⟨xz2,oz2,Fz2,hz2,hF2,hM2,rfl,rfl⟩
  obtain⟨u1,rfl,rfl,rfl⟩:=hz2
  have hrf2:rowF (famB vs (byC (d.cells.take k))++[uAr u1 d.cells[k].bytes]):=rowF.app (by first|assumption|exact rowF.nil) hF2
  refine fTt ((famB vs (byC (d.cells.take k))++[uAr u1 d.cells[k].bytes])) [1,2,3,9,10,11,16,19] [1,2,2001,2002,2003,2005] ?_
  refine vq 5 (rd (x:=.agg [vV _]) (rd_build rfl ty.sa115 rfl rfl rfl) rfl)<|vst 6 rfl (zS 2021 [[.v u1]] ty.el31 ty.ze115 rfl (by intro r hr;simp at hr;subst hr;rfl)) (.inr rfl)<|vst 7 rfl (zP 1 ty.el31 ty.ze115 ty.by115 rfl (Src.own rfl rfl) (by first|(simp[rowsCV_len,rowsW_len];done)|(simp[rowsCV_len,rowsW_len];omega))) (.inl rfl)<|vq 8 (rf 0 ty.F34_0 rfl)<|vst 9 rfl (zB 2003 ty.co31 ty.inf31 rfl) (.inl rfl)<|fD<|gB<|gT<|aL<|lgI Z<|lmI Z<|nG ?_
  refine⟨(k+1,vs++[u1]),⟨hk,by rw[List.length_append,hvl];rfl⟩,by show d.cells.length-(k+1)<d.cells.length-k;omega,⟨(iq rfl),trivial⟩,⟨(congrArg (AO.arr 115 1) rowsCV_app.symm),trivial⟩,⟨rfl,rfl,rfl,rfl,rfl,trivial⟩,⟨rfl,rfl,rfl,rfl,trivial⟩,(by rw[famC_succ hk hvl];exact tlp)⟩
 ·intro h1
  refine aE<|eT<|eT<|eB<|gT<|aS<|aS ?_
  have hke:k=d.cells.length:=by have h:=h1;simp only[decide_eq_false_iff_not]at h;omega
  subst hke
  rw[List.take_length]at hfr hfl ⊢
  refine aL<|lf 1 ty.F34_1 Z<|loL ty.kd32 Z<|lnI ty.sl32 Z ?_
  refine AL.slot 27 (int (d.dirty.length:Int)) (congrArg (fun n:Nat=>int (n:Int)) (rowsW_len _)) ?_
  refine lmI Z<|nG<|aB ?_
  refine AW.loopT (D:=Nat) [(2,.ptr 2002 _ 0),(3,.ptr 2003 _ 0),(26,vL _ _ _),(27,vI _ _)] [(1,.arr _ _ _),(2001,.box _ _ [vL _ _ _,vL _ _ _]),(2002,.box _ _ [vV _,vV _]),(2003,.box _ _ [.own _,.own _])] (fun a=>[(28,int (a:Int))]) (fun a=>[(2,.arr 123 2 (rowsW (d.dirty.take a)))]) (fun a=>famB vs (byC d.cells)) (fun a=>a≤d.dirty.length) (fun a=>d.dirty.length-a) (0) (Nat.zero_le _) ⟨rfl,trivial⟩ ⟨rfl,trivial⟩ ⟨rfl,rfl,rfl,rfl,trivial⟩ ⟨rfl,rfl,rfl,rfl,trivial⟩ tlp ?_
  intro j hI
  have hjl:j≤d.dirty.length:=hI
  refine sL<|lbB Z<|nG<|aS ?_
  refine AW.cond rfl ?_ ?_
  ·intro h2
   refine aK<|gT<|aS<|aB<|aS ?_
   have hj:j<d.dirty.length:=by have h:=h2;simp only[decide_eq_true_eq]at h;omega
   have hlw:=hs.lw
   have hlc:=hs.lc
   refine aL<|li j ty.el32 Z (rowsW_at hj)<|lrX (.agg [vI _ _,vL _ _ _]) ty.kd123 Z<|lst (zA 2007 ty.ze123 Z) Z ?_
   refine lTt (famB vs (byC d.cells)) [2,3,7,26,27,28,31] [1,2,2001,2002,2003,2007] ?_
   refine lst (zB 2007 ty.co123 ty.inf123 rfl) Z<|nG<|aF [9,11]<|pq 0 (qf 1 ty.F34_1 rfl)<|sq 1 (roO ty.kd32 rfl)<|pq 2 (qf 0 ty.F123_0 rfl)<|sq 3 (roI ty.kd3 rfl)<|vq 4 (rf 1 ty.F123_1 rfl)<|vq 5 (roL ty.kd56 rfl)<|vst 6 rfl (zC [] [] [] Try.func99 (copyBytes_f d.dirty[j].bytes (hs.bw _ (List.getElem_mem hj))) (trivial) rfl rfl) (.inr rfl)<|vq 7 (rd (x:=.agg [vI _ _,vL _ _ _]) (rd_build rfl ty.sa123 rfl rfl rfl) rfl)<|vst 8 rfl (zS 2040 [[.v (.int .i64 d.dirty[j].at_),lstB d.dirty[j].bytes]] ty.el32 ty.ze123 rfl (by intro r hr;simp at hr;subst hr;rfl)) (.inr rfl)<|vst 9 rfl (zP 2 ty.el32 ty.ze123 ty.by123 rfl (Src.own rfl rfl) (by first|(simp[rowsCV_len,rowsW_len];done)|(simp[rowsCV_len,rowsW_len];omega))) (.inl rfl)<|vq 10 (rf 1 ty.F34_1 rfl)<|vst 11 rfl (zB 2003 ty.co32 ty.inf32 rfl) (.inl rfl)<|fD<|gB<|gT<|aL<|lgI Z<|lmI Z<|nG ?_
   refine⟨(j+1),hj,by show d.dirty.length-(j+1)<d.dirty.length-j;omega,⟨(iq rfl),trivial⟩,⟨(congrArg (AO.arr 123 2) (rowsW_succ hj)),trivial⟩,⟨rfl,rfl,rfl,rfl,trivial⟩,⟨rfl,rfl,rfl,rfl,trivial⟩,tlp⟩
  ·intro h2
   refine aE<|eT<|eT<|eB<|gT<|aS ?_
   have hje:j=d.dirty.length:=by have h:=h2;simp only[decide_eq_false_iff_not]at h;omega
   subst hje
   rw[List.take_length]
   refine aL<|loX (.agg [.own _,.own _]) ty.kd34 Z<|lst (zB 2002 ty.co34 ty.inf34 Z) Z ?_
   refine lTt (famB vs (byC d.cells)) [2] [1,2,2001,2002,2003] ?_
   refine nG<|aR ?_
   skip
   refine end_nret (F1:=famB vs (byC d.cells)) (oDisk) (obC vs d) ?_ (by have:=hs.lc;have:=hs.lw;omega) rfl rfl ⟨rfl,rfl,trivial⟩ tlp
   exact⟨vs,hvl,rfl,rfl,rfl⟩
theorem rdDisk{H:Nat→AO}{F:List AO}{a b:Nat}{pa pb:Option Value}{vs us:List Value}{d:Disk}{s:Nat}(hT:Tl H F)(ha:H a=.arr ⟨115,pa⟩ 1 (rowsCV vs))(hb:H b=.arr ⟨123,pb⟩ 2 (rowsWV us d.dirty))(hv:vs.length=d.cells.length)(hu:us.length=d.dirty.length)(hF:∀i,i<(famD vs us d).length→F[s+i]? = (famD vs us d)[i]?):Reads H (.agg [.own a,.own b]) (diskV d):=by
 have l1:(famB vs (byC d.cells)).length=d.cells.length:=by rw[famB_len (by simpa using hv),List.length_map]
 have l2:(famB us (byW d.dirty)).length=d.dirty.length:=by rw[famB_len (by simpa using hu),List.length_map]
 have k1:∀i,i<d.cells.length→F[s+i]? = (famB vs (byC d.cells))[i]?:=fun i hi=>by
  rw[hF i (by unfold famD;rw[List.length_append];omega)];unfold famD;rw[List.getElem?_append_left (by omega)]
 have k2:∀i,i<d.dirty.length→F[s+d.cells.length+i]? = (famB us (byW d.dirty))[i]?:=fun i hi=>by
  rw[Nat.add_assoc,hF (d.cells.length+i) (by unfold famD;rw[List.length_append];omega)];unfold famD;rw[List.getElem?_append_right (by omega)];congr 1;omega
 intro L ρ w c hob hx
 exact Reads.agg (.cons (Reads.own ha (deepCV hT hv k1)) (.cons (Reads.own hb (deepWV hT hu k2)) .nil)) hob hx
theorem famD_len{vs us:List Value}{d:Disk}(hv:vs.length=d.cells.length)(hu:us.length=d.dirty.length):(famD vs us d).length=d.cells.length+d.dirty.length:=by
 unfold famD
 rw[List.length_append,famB_len (by simpa using hv),famB_len (by simpa using hu),List.length_map,List.length_map]
theorem famD_w{vs us:List Value}{u:Value}{d:Disk}{i:Nat}{b:List Int}(hu:us.length=d.dirty.length):famD vs us d++[uAr u b]=famD vs (us++[u]) (diskW d i b):=by
 unfold famD diskW
 rw[List.append_assoc]
 exact congrArg (famB vs (byC d.cells)++·) (by unfold byW;rw[List.map_append];exact(famB_app (by simpa using hu)).symm)
theorem rowsW_w{us:List Value}{u:Value}{d:Disk}{i:Nat}{b:List Int}(hu:us.length=d.dirty.length):rowsWV us d.dirty++[[.v (.int .i64 (i:Int)),.v u]]=rowsWV (us++[u]) (diskW d i b).dirty:=(rowsWV_app (w:=⟨i,b⟩) hu).symm
theorem dok_diskW{d:Disk}{i:Nat}{b:List Int}(hd:diskOk d=true)(hi:i<d.cells.length)(hw:d.dirty.length<600)(hb:b.length=128):diskOk (diskW d i b)=true:=by
 obtain⟨h1,h2,h3⟩:=dok_iff hd
 refine dok_y (by unfold diskW;simp;omega) h2 ?_
 show (d.dirty++[(⟨(i:Int),b⟩:Write)]).all (wrOk d.cells.length)=true
 rw[List.all_append,h3]
 unfold wrOk inB
 simp[hb]
 omega
def wrRel(d:Disk):AV→List (Nat×AO)→List AO→Prop:=fun y l1 F1=>∃vs us:List Value,vs.length=d.cells.length∧us.length=d.dirty.length∧y=.tup [oDisk,boo true]∧l1=obD vs us d∧F1=famD vs us d
theorem diskWrite_n(d:Disk)(i:Nat)(b:List Int)(hd:diskOk d=true)(hi:i<d.cells.length)(hw:d.dirty.length<600)(hb:b.length=128):GN Try.prog 51 [diskV d,int (i:Int),byV b] [] ([]) (wrRel (diskW d i b)):=by
 refine GN.intro (rs:=[.cell 6 34 (some 2),.tmp 7]) Try.func51 rfl Try.ntmps51 (Nat.le_of_ble_eq_true rfl) ⟨rfl,rfl,ty.kd34,rfl,trivial⟩ rfl ?_
 intro L O w0
 refine sL<|lst (zX 2003 Z) Z<|lst (zA 2006 ty.ze34 Z) Z<|laZ Z<|nG<|aS<|aS ?_
 have hsz:=(dok_iff hd).1
 refine aL<|loX (.agg [vL _ _ _,vL _ _ _]) ty.kd34 Z<|lst (zC [] [] [] Try.func46 (diskOk_e d) (trivial) Z Z) Z<|lsB 10 true Z (hd)<|luZ Z<|nG<|aN Z<|aK<|gA<|loX (.agg [vL _ _ _,vL _ _ _]) ty.kd34 Z ?_
 refine AL.stx (StX.callN (F:=[]) [(1,1),(2,2)] [1,2] [] ([]).length Try.func78 (copyDisk_n d (dok_s hd)) tlp List.drop_length List.take_length (Nat.le_refl _) (by first|(simp;done)|(simp[famB_len, *];omega)) (fun _ _ _ _=>trivial) rfl rfl) rfl ?_
 rintro _ _ ⟨xz1,oz1,Fz1,hz1,hF1,hM1,rfl,rfl⟩
 obtain⟨vs,us,hvl,hul,rfl,rfl,rfl⟩:=hz1
 have hrf1:rowF ([]++famD vs us d):=rowF.app (by first|assumption|exact rowF.nil) hF1
 refine lst (zA 2008 ty.ze34 Z) Z<|lst (zB 2008 ty.co34 ty.inf34 Z) Z<|nG<|aS<|aF [7,9]<|pq 0 (qf 1 ty.F34_1 Z)<|sq 1 (roO ty.kd32 Z)<|pq 2 (qmX (vI _ _) Z)<|vq 3 (rmL Z) ?_
 refine AF.stx (i:=4) rfl (by kernel_rfl) (StX.callN (F:=([]++famD vs us d)) [] [] [] (([]++famD vs us d)).length Try.func99 (copyBytes_n b (by omega)) tlp List.drop_length List.take_length (Nat.le_refl _) (by first|(rw[List.length_append,hfl,hfl2];omega)|(rw[hfl];omega)|(rw[List.nil_append,famD_len hvl hul];omega)) (fun _ _ _ _=>trivial) rfl rfl) (.inr rfl) rfl ?_
 rintro _ _ ⟨xz3,oz3,Fz3,hz3,hF3,hM3,rfl,rfl⟩
 obtain⟨u3,rfl,rfl,rfl⟩:=hz3
 have hrf3:rowF (([]++famD vs us d)++[uAr u3 b]):=rowF.app (by first|assumption|exact rowF.nil) hF3
 refine fTt ((([]++famD vs us d)++[uAr u3 b])) [6,7,8,16,17,19] [1,2,2003,2006,2008] ?_
 refine vq 5 (rd (x:=.agg [vI _ _,vV _]) (rd_build rfl ty.sa123 rfl rfl rfl) rfl)<|vst 6 rfl (zS 2021 [[.v (.int .i64 (i:Int)),.v u3]] ty.el32 ty.ze123 rfl (by intro r hr;simp at hr;subst hr;rfl)) (.inr rfl)<|vst 7 rfl (zP 2 ty.el32 ty.ze123 ty.by123 rfl (Src.own rfl rfl) (by first|(simp[rowsWV_len hul];done)|(simp[rowsWV_len hul];omega))) (.inl rfl)<|vq 8 (rf 1 ty.F34_1 rfl)<|vst 9 rfl (zB 2008 ty.co32 ty.inf32 rfl) (.inl rfl)<|fD<|gT<|aS<|aS ?_
 rw[List.nil_append,famD_w (i:=i) (b:=b) hul]
 have hrfw:rowF (famD vs (us++[u3]) (diskW d i b)):=famD_row
 refine AW.obj 2 (.arr 123 2 (rowsWV (us++[u3]) (diskW d i b).dirty)) (congrArg (AO.arr 123 2) (rowsW_w hul)) ?_
 refine aL<|loX (.agg [.own _,.own _]) ty.kd34 Z<|lst (zLN Try.func46 (diskOk_e (diskW d i b)) rfl (.cons (rdDisk (vs:=vs) (us:=us++[u3]) (d:=(diskW d i b)) (s:=0) tlp rfl rfl hvl (by rw[List.length_append,hul];unfold diskW;rw[List.length_append];rfl) (fun j _=>by rw[Nat.zero_add])) .nil)) Z<|lsB 25 true rfl (dok_diskW hd hi hw hb)<|luZ Z<|nG<|aN Z<|aK<|gA<|loX (.agg [.own _,.own _]) ty.kd34 Z<|lst (zB 2006 ty.co34 ty.inf34 rfl) Z<|laT Z<|nG<|aR ?_
 skip
 refine end_nret (F1:=(famD vs (us++[u3]) (diskW d i b))) (.tup [oDisk,boo true]) (obD vs (us++[u3]) (diskW d i b)) ?_ (by unfold famD diskW;rw[List.length_append,famB_len (by simpa using hvl),famB_len (by simpa using hul)];simp;omega) rfl rfl ⟨rfl,rfl,trivial⟩ tlp
 exact⟨vs,us++[u3],hvl,by rw[List.length_append,hul];unfold diskW;rw[List.length_append];rfl,rfl,rfl,rfl⟩
theorem wrRel_f{f:FuncId}{args:List AV}{d:Disk}(h:GN Try.prog f args [] [] (wrRel d)):GC Try.prog f args [] (.tup [diskV d,boo true]) []:=
 (GX.frozen (Z:=fun y=>y=.tup [diskV d,boo true]) (show GX Try.prog f args [] _ from h) fun x ob ⟨l1,F1,hs,hF,hM,e,⟨vs,us,hv,hu,e1,e2,e3⟩⟩=>by
   subst e e1 e2 e3
   refine⟨.tup [diskV d,boo true],?_,rfl⟩
   have hT:Tl (ofO (obD vs us d++famL 1000000 (famD vs us d))) (famD vs us d):=by rw[ofO_fam rfl];exact Tl.tl hF
   have l1:(famB vs (byC d.cells)).length=d.cells.length:=by rw[famB_len (by simpa using hv),List.length_map]
   exact Still.tup (H:=ofO (obD vs us d++famL 1000000 (famD vs us d))) (.cons (Still.agg (.cons (Still.own (id:=1) (e:=⟨115,none⟩) (sz:=1) (rows:=rowsCV vs) rfl (deepCV hT hv (s:=0) fun i hi=>by unfold famD;rw[Nat.zero_add,List.getElem?_append_left (by omega)]))
    (.cons (Still.own (id:=2) (e:=⟨123,none⟩) (sz:=2) (rows:=rowsWV us d.dirty) rfl (deepWV hT hu (s:=d.cells.length) fun i hi=>by unfold famD;rw[List.getElem?_append_right (by omega)];congr 1;omega)) .nil))) (.cons (Still.p _) .nil))).mono fun y o ⟨e1,e2⟩=>⟨e2,e1⟩
theorem diskWrite_f(d:Disk)(i:Nat)(b:List Int)(hd:diskOk d=true)(hi:i<d.cells.length)(hw:d.dirty.length<600)(hb:b.length=128):GC Try.prog 51 [diskV d,int (i:Int),byV b] [] (.tup [diskV (diskW d i b),boo true]) []:=wrRel_f (diskWrite_n d i b hd hi hw hb)
def synK(d:Disk)(k:Nat):List Cell:=(d.dirty.take k).foldl syncStep d.cells
theorem synK_succ{d:Disk}{k:Nat}(hk:k<d.dirty.length):synK d (k+1)=syncStep (synK d k) d.dirty[k]:=by
 unfold synK
 rw[List.take_succ_eq_append_getElem hk,List.foldl_append];rfl
theorem syncs_len:∀(l:List Write) (cs:List Cell),(l.foldl syncStep cs).length=cs.length
 |[],_=>rfl
 |w::l,cs=>by rw[List.foldl_cons,syncs_len l];exact List.length_set ..
theorem synK_len(d:Disk)(k:Nat):(synK d k).length=d.cells.length:=syncs_len _ _
theorem diskS_y{d:Disk}(h:diskOk d=true):diskS d=⟨synK d d.dirty.length,[]⟩:=by unfold diskS synK;rw[if_pos h,List.take_length]
theorem famB_set{vs:List Value}{bs:List (List Int)}{i:Nat}{u:Value}{b:List Int}(h:vs.length=bs.length):famB (vs.set i u) (bs.set i b)=(famB vs bs).set i (uAr u b):=by
 unfold famB
 refine List.ext_getElem? fun j=>?_
 rw[List.getElem?_zipWith,List.getElem?_set,List.getElem?_set,List.getElem?_set,List.length_zipWith,←h,Nat.min_self,List.getElem?_zipWith]
 by_cases q:i=j
 ·subst q
  simp only[if_true]
  by_cases z:i<vs.length
  ·rw[if_pos z,if_pos z,if_pos z]
  ·rw[if_neg z,if_neg z,if_neg z]
 ·rw[if_neg q,if_neg q,if_neg q]
theorem famC_set{vs:List Value}{cs:List Cell}{w:Write}{u:Value}(h:vs.length=cs.length):(famB vs (byC cs)).set w.at_.toNat (uAr u w.bytes)=famB (vs.set w.at_.toNat u) (byC (syncStep cs w)):=by
 unfold syncStep byC
 rw[List.map_set]
 exact(famB_set (by simpa using h)).symm
theorem rowsCV_set{vs:List Value}{i:Nat}{u:Value}:(rowsCV vs).set i [.v u]=rowsCV (vs.set i u):=by unfold rowsCV;rw[List.map_set]
theorem dok_at{d:Disk}(h:diskOk d=true){j:Nat}(hj:j<d.dirty.length):0≤d.dirty[j].at_∧d.dirty[j].at_.toNat<d.cells.length:=by
 have:=List.all_eq_true.1 (dok_iff h).2.2 _ (List.getElem_mem hj)
 unfold wrOk inB at this
 simp only[Bool.and_eq_true,decide_eq_true_eq]at this
 omega
theorem famD_0{vs:List Value}{cs:List Cell}:famB vs (byC cs)=famD vs [] ⟨cs,[]⟩:=(List.append_nil _).symm
theorem diskSync_n(d:Disk)(hd:diskOk d=true):GN Try.prog 65 [diskV d] [] ([]) (diskRel (diskS d)):=by
 refine GN.intro (rs:=[.cell 2 34 (some 2)]) Try.func65 rfl Try.ntmps65 (Nat.le_of_ble_eq_true rfl) ⟨rfl,rfl,ty.kd34,trivial⟩ rfl ?_
 intro L O w0
 refine sL<|lst (zX 2001 Z) Z<|lst (zA 2002 ty.ze34 Z) Z<|nG<|aS<|aS ?_
 have hsz:=(dok_iff hd).1
 refine aL<|loX (.agg [vL _ _ _,vL _ _ _]) ty.kd34 Z<|lst (zC [] [] [] Try.func46 (diskOk_e d) (trivial) Z Z) Z<|lsB 7 true Z (hd)<|luZ Z<|nG<|aN Z<|aK<|gA<|loX (.agg [vL _ _ _,vL _ _ _]) ty.kd34 Z ?_
 refine AL.stx (StX.callN (F:=[]) [(1,1),(2,2)] [1,2] [] ([]).length Try.func78 (copyDisk_c d (dok_s hd)) tlp List.drop_length List.take_length (Nat.le_refl _) (by first|(simp;done)|(simp[famB_len, *];omega)) (fun _ _ _ _=>trivial) rfl rfl) rfl ?_
 rintro _ _ ⟨xz1,oz1,Fz1,hz1,hF1,hM1,rfl,rfl⟩
 obtain⟨vs,hvl,rfl,rfl,rfl⟩:=hz1
 have hrf1:rowF ([]++famB vs (byC d.cells)):=rowF.app (by first|assumption|exact rowF.nil) hF1
 refine lst (zA 2003 ty.ze34 Z) Z<|lst (zB 2003 ty.co34 ty.inf34 Z) Z<|nG<|aS<|aS ?_
 rw[List.nil_append]
 have hfr0:rowF (famB vs (byC d.cells)):=famB_row
 refine aL<|lf 1 ty.F34_1 Z<|loO ty.kd32 Z<|lnI ty.sl32 Z ?_
 refine AL.slot 14 (int (d.dirty.length:Int)) (congrArg (fun n:Nat=>int (n:Int)) (rowsW_len _)) ?_
 refine lmI Z<|nG<|aB ?_
 refine AW.loopT (D:=Nat×List Value) [(2,.ptr 2002 _ 0),(3,.ptr 2003 _ 0),(13,.own _),(14,vI _ _)] [(2,.arr _ _ _),(2001,.box _ _ [vL _ _ _,vL _ _ _]),(2002,.box _ _ [vV _,vV _]),(2003,.box _ _ [.own _,.own _])] (fun a=>[(15,int (a.1:Int))]) (fun a=>[(1,.arr 115 1 (rowsCV a.2))]) (fun a=>famB a.2 (byC (synK d a.1))) (fun a=>a.1≤d.dirty.length∧a.2.length=d.cells.length) (fun a=>d.dirty.length-a.1) ((0,vs)) (⟨Nat.zero_le _,hvl⟩) ⟨rfl,trivial⟩ ⟨rfl,trivial⟩ ⟨rfl,rfl,rfl,rfl,trivial⟩ ⟨rfl,rfl,rfl,rfl,trivial⟩ (by rw[show synK d 0=d.cells from rfl];exact tlp) ?_
 intro ⟨k,vs⟩ hI
 clear hvl
 obtain⟨hkl,hvl⟩:=hI
 replace hkl:k≤d.dirty.length:=hkl
 replace hvl:vs.length=d.cells.length:=hvl
 have hfr:rowF (famB vs (byC (synK d k))):=famB_row
 have hfl:(famB vs (byC (synK d k))).length=d.cells.length:=by rw[famB_len (by rw[List.length_map,synK_len];exact hvl),List.length_map,synK_len]
 refine sL<|lbB Z<|nG<|aS ?_
 refine AW.cond rfl ?_ ?_
 ·intro h1
  refine aK<|gT<|aS<|aB<|aS ?_
  have hk:k<d.dirty.length:=by have h:=h1;simp only[decide_eq_true_eq]at h;omega
  have hat:=dok_at hd hk
  refine aL<|lq (rj k ty.el32 rfl (by rw[rowsW_len];exact hk))<|lq (rd (x:=.agg [vI _ _,vL _ _ _]) (rd_load_arr rfl ty.kd123 rfl rfl rfl (rowsW_at hk) rfl) rfl)<|lst (zA 2005 ty.ze123 rfl) rfl ?_
  refine lTt (famB vs (byC (synK d k))) [2,3,5,13,14,15,18] [1,2,2001,2002,2003,2005] ?_
  refine lst (zB 2005 ty.co123 ty.inf123 Z) Z<|nG<|aF [9]<|pq 0 (qf 0 ty.F34_0 Z)<|sq 1 (roO ty.kd31 Z)<|pq 2 (qf 0 ty.F123_0 Z)<|sq 3 (roI ty.kd3 Z)<|vq 4 (rf 1 ty.F123_1 Z)<|vq 5 (roL ty.kd56 Z) ?_
  refine AF.stx (i:=6) rfl (by kernel_rfl) (StX.callN (F:=famB vs (byC (synK d k))) [] [] [] (famB vs (byC (synK d k))).length Try.func99 (copyBytes_n d.dirty[k].bytes (by rw[dok_w hd hk];decide)) tlp List.drop_length List.take_length (Nat.le_refl _) (by first|(rw[List.length_append,hfl,hfl2];omega)|(rw[hfl];omega)|(rw[List.nil_append,famD_len hvl hul];omega)) (fun _ _ _ _=>trivial) rfl rfl) (.inr rfl) rfl ?_
  rintro _ _ ⟨xz3,oz3,Fz3,hz3,hF3,hM3,rfl,rfl⟩
  obtain⟨u1,rfl,rfl,rfl⟩:=hz3
  have hrf3:rowF (famB vs (byC (synK d k))++[uAr u1 d.dirty[k].bytes]):=rowF.app (by first|assumption|exact rowF.nil) hF3
  refine vq 7 (rd (x:=.ptr 1 _ 0) (rd_iaddr_own (i:=d.dirty[k].at_.toNat) rfl ty.el31 rfl rfl rfl ?hn1 (by rw[rowsCV_len,hvl];exact hat.2)) rfl) ?_
  case hn1=>exact(Int.toNat_of_nonneg hat.1).symm
  refine vq 8 (rf 0 ty.F115_0 rfl)<|vst 9 rfl (zQ 1 [.v u1] ty.co56 ty.inf56 rfl (rowsCV_at (by rw[hvl];exact hat.2))) (.inl rfl)<|fD<|gB<|gT ?_
  refine aTt ((famB vs (byC (synK d k))++[uAr u1 d.dirty[k].bytes])) [2,3,13,14,15] [1,2,2001,2002,2003,2005] ?_
  refine AW.moveIn d.dirty[k].at_.toNat rfl hrf3 (by rw[hfl];exact hat.2) ?_
  have hrs:rowF ((famB vs (byC (synK d k))).set d.dirty[k].at_.toNat (uAr u1 d.dirty[k].bytes)):=by rw[famC_set (by rw[synK_len];exact hvl)];exact famB_row
  refine aL<|lgI Z<|lmI Z<|nG ?_
  refine⟨(k+1,vs.set d.dirty[k].at_.toNat u1),⟨hk,by rw[List.length_set];exact hvl⟩,by show d.dirty.length-(k+1)<d.dirty.length-k;omega,⟨(iq rfl),trivial⟩,⟨(congrArg (AO.arr 115 1) rowsCV_set),trivial⟩,⟨rfl,rfl,rfl,rfl,trivial⟩,⟨rfl,rfl,rfl,rfl,trivial⟩,(by rw[synK_succ hk,←famC_set (by rw[synK_len];exact hvl)];exact tlp)⟩
 ·intro h1
  refine aE<|eT<|eT<|eB<|gT<|aS ?_
  have hke:k=d.dirty.length:=by have h:=h1;simp only[decide_eq_false_iff_not]at h;omega
  subst hke
  refine aL<|lf 1 ty.F34_1 Z<|lst (zB 2003 ty.co32 ty.inf32 Z) Z<|nG<|aS ?_
  refine aTt ((famB vs (byC (synK d d.dirty.length)))) [2,3] [1,2001,2002,2003] ?_
  refine AW.adoptB 2 2003 1 123 2 rfl (by decide) rfl ?_
  rw[famD_0]
  have hfrD:rowF (famD vs [] ⟨synK d d.dirty.length,[]⟩):=famD_row
  refine aL<|loX (.agg [.own _,.own _]) ty.kd34 Z<|lst (zB 2002 ty.co34 ty.inf34 Z) Z<|nG<|aR ?_
  rw[diskS_y hd]
  refine end_nret (F1:=(famD vs [] ⟨synK d d.dirty.length,[]⟩)) (oDisk) (obD vs [] ⟨synK d d.dirty.length,[]⟩) ?_ (by unfold famD;rw[List.length_append,hfl];simp[famB];omega) rfl rfl ⟨rfl,rfl,trivial⟩ tlp
  exact⟨vs,[],by rw[synK_len];exact hvl,rfl,rfl,rfl,rfl⟩

theorem lg1{d:Disk}(h:diskOk d=false∨d.dirty.length≠0):lgOpC d=1:=by
 unfold lgOpC
 rcases h with h|h
 ·rw[h];rfl
 ·rw[show (diskOk d&&decide (d.dirty.length=0))=false by simp[h]];rfl
theorem lg2{d:Disk}(h:diskOk d=true)(h0:d.dirty.length=0)(h2:(logR d).length=d.cells.length∨16000000≤logTop d):lgOpC d=2:=by
 unfold lgOpC
 rw[h,h0,if_pos (by simp),if_pos h2]
theorem lg0{d:Disk}(h:diskOk d=true)(h0:d.dirty.length=0)(h2:¬((logR d).length=d.cells.length∨16000000≤logTop d)):lgOpC d=0:=by
 unfold lgOpC
 rw[h,h0,if_pos (by simp),if_neg h2]
theorem lgL_n{d:Disk}(h:lgOpC d≠0):lgOpL d=⟨⟨[],[]⟩,0,0⟩:=if_neg h
theorem lgL_y{d:Disk}(h:lgOpC d=0):lgOpL d=⟨diskS (diskW d (logR d).length (secB ⟨(logR d).length,logTop d+1,[66]⟩)),(logR d).length+1,logTop d+1⟩:=if_pos h
theorem lgE_n{d:Disk}(h:lgOpC d≠0):lgOpE d=[]:=if_neg h
theorem lgE_y{d:Disk}(h:lgOpC d=0):lgOpE d=logE d:=if_pos h
theorem ad1{l:Log}{e:Event}(h:diskOk l.disk=false∨inB l.next 0 l.disk.cells.length=false∨inB l.epoch 1 16000000=false∨eventOk e=false):lgAddC l e=1:=by
 unfold lgAddC
 rw[if_neg]
 rcases h with h|h|h|h<;>simp[h]
theorem ad2{l:Log}{e:Event}(h1:diskOk l.disk=true)(h2:inB l.next 0 l.disk.cells.length=true)(h3:inB l.epoch 1 16000000=true)(h4:eventOk e=true)(h5:l.next=l.disk.cells.length∨600≤l.disk.dirty.length):lgAddC l e=2:=by
 unfold lgAddC
 rw[h1,h2,h3,h4,if_pos (by simp),if_pos h5]
theorem ad0{l:Log}{e:Event}(h1:diskOk l.disk=true)(h2:inB l.next 0 l.disk.cells.length=true)(h3:inB l.epoch 1 16000000=true)(h4:eventOk e=true)(h5:¬(l.next=l.disk.cells.length∨600≤l.disk.dirty.length)):lgAddC l e=0:=by
 unfold lgAddC
 rw[h1,h2,h3,h4,if_pos (by simp),if_neg h5]
theorem adL_n{l:Log}{e:Event}(h:lgAddC l e≠0):lgAddL l e=⟨⟨[],[]⟩,0,0⟩:=if_neg h
theorem adL_y{l:Log}{e:Event}(h:lgAddC l e=0):lgAddL l e=⟨diskW l.disk l.next.toNat (secB ⟨l.next,l.epoch,evB e⟩),l.next+1,l.epoch⟩:=if_pos h
theorem sy_n{l:Log}(h:diskOk l.disk=false):lgSyL l=⟨⟨[],[]⟩,0,0⟩:=if_neg (by simp[h])
theorem sy_y{l:Log}(h:diskOk l.disk=true):lgSyL l=⟨diskS l.disk,l.next,l.epoch⟩:=if_pos h
theorem secR_bd(b:List Int):0≤(secR b).epoch∧(secR b).epoch≤16000000:=by
 cases h:secF b with
 |true=>rw[secR_yes h];have:=(secOk_iff.1 (secF_iff.1 h).2.2.1).2.1;omega
 |false=>rw[secR_no h];exact⟨Int.le_refl _,by decide⟩
theorem top_bd:∀(l:List (List Int)) (t:Int),0≤t∧t≤16000000→0≤l.foldl (fun t b=>max t (secR b).epoch) t∧l.foldl (fun t b=>max t (secR b).epoch) t≤16000000
 |[],t,h=>h
 |b::l,t,h=>by rw[List.foldl_cons];exact top_bd l _ (by have:=secR_bd b;omega)
theorem logTop_bd(d:Disk):0≤logTop d∧logTop d≤16000000:=by
 unfold logTop
 split
 ·exact top_bd _ 0 (by decide)
 ·decide
theorem logR_le{d:Disk}(h:diskOk d=true):(logR d).length≤d.cells.length:=by
 rw[logR_y h]
 have:=run_len (bs:=views d) (acc:=[])
 rw[views_len]at this
 simpa using this
theorem bSec{d:Disk}(h:diskOk d=true)(h2:(logR d).length<d.cells.length)(h3:logTop d<16000000):secOk ⟨(logR d).length,logTop d+1,[66]⟩=true:=secOk_iff.2 (by
 have:=(dok_iff h).1
 have:=logTop_bd d
 simp
 omega)
theorem inB_iff{n a b:Int}:inB n a b=true↔a≤n∧n≤b:=by unfold inB;simp
theorem adSec{l:Log}{e:Event}(h1:diskOk l.disk=true)(h2:inB l.next 0 l.disk.cells.length=true)(h3:inB l.epoch 1 16000000=true)(h5:l.next≠l.disk.cells.length):secOk ⟨l.next,l.epoch,evB e⟩=true:=secOk_iff.2 (by
 have:=(dok_iff h1).1
 have:=inB_iff.1 h2
 have:=inB_iff.1 h3
 rw[evB_length]
 simp only
 omega)
abbrev obL(vs us:List Value)(d:Disk)(es:List Event):List (Nat×AO):=[(1,.arr 115 1 (rowsCV vs)),(2,.arr 123 2 (rowsWV us d.dirty)),(3,eAr es)]
def lgOpRel(d:Disk):AV→List (Nat×AO)→List AO→Prop:=fun y l1 F1=>∃vs us:List Value,vs.length=(lgOpL d).disk.cells.length∧us.length=(lgOpL d).disk.dirty.length∧y=.tup [.agg [.own 1,.own 2,int (lgOpL d).next,int (lgOpL d).epoch],.own 3,int (lgOpC d)]∧l1=obL vs us (lgOpL d).disk (lgOpE d)∧F1=famD vs us (lgOpL d).disk
theorem logOpen_n(d:Disk)(hb:DkB d):GN Try.prog 27 [diskV d] [] ([]) (lgOpRel d):=by
 refine GN.intro (rs:=[.cell 2 36 (some 4),.tmp 3,.tmp 4]) Try.func27 rfl Try.ntmps27 (Nat.le_of_ble_eq_true rfl) ⟨rfl,rfl,ty.kd36,rfl,rfl,trivial⟩ rfl ?_
 intro L O w0
 refine sL<|lst (zX 2001 Z) Z<|lst (zA 2002 ty.ze36 Z) Z<|laV Z<|laI Z<|nG<|aS<|sL<|loX (.agg [vL _ _ _,vL _ _ _]) ty.kd34 Z<|lst (zC [] [] [] Try.func46 (diskOk_e d) (trivial) Z Z) Z<|luB Z<|lmB Z ?_
 refine AL.bool (t:=15) rfl ?_ ?_
 ·intro h1
  refine lno Z<|lno Z<|lno Z<|lno Z<|lkT Z<|nG<|aY Z<|sL<|lq (rd (x:=.agg [vV _,vV _,vI _ _,vI _ _]) (rd_build Z ty.sa36 Z Z Z) Z)<|lst (zB 2002 ty.co36 ty.inf36 Z) Z<|laV Z<|laI Z<|nG ?_
  refine AW.adoptB 1 2002 0 115 1 rfl (by decide) rfl ?_
  refine AW.adoptB 2 2002 1 123 2 rfl (by decide) rfl ?_
  refine AW.adoptT 3 3 40 7 rfl ?_
  refine aR<|rT ?_
  have hc:lgOpC d=1:=lg1 (by first|exact .inl (by simpa using h1)|exact .inr (by have h:=h1;simp only[gt_iff_lt,decide_eq_true_eq]at h;omega))
  have hL:=lgL_n (d:=d) (by rw[hc];decide)
  have hE:=lgE_n (d:=d) (by rw[hc];decide)
  unfold lgOpRel
  rw[hc,hL,hE]
  refine end_nret (F1:=[]) (.tup [.agg [.own 1,.own 2,int 0,int 0],.own 3,int 1]) (obL [] [] ⟨[],[]⟩ []) ?_ (by decide) rfl rfl ⟨rfl,rfl,rfl,trivial⟩ tlp
  exact⟨[],[],rfl,rfl,rfl,rfl,rfl⟩
 ·intro h1
  refine lf 1 ty.F34_1 Z<|loL ty.kd32 Z<|lnI ty.sl32 Z ?_
  refine AL.slot 18 (int (d.dirty.length:Int)) (congrArg (fun n:Nat=>int (n:Int)) (rowsW_len _)) ?_
  refine lbB Z<|lkB Z<|nG ?_
  refine AW.cond rfl ?_ ?_
  ·intro h2
   refine sL<|lq (rd (x:=.agg [vV _,vV _,vI _ _,vI _ _]) (rd_build Z ty.sa36 Z Z Z) Z)<|lst (zB 2002 ty.co36 ty.inf36 Z) Z ?_
   refine lTt ([]) [1,2,3,4] [2001,2002] ?_
   refine laV Z<|laI Z<|nG ?_
   refine AW.adoptB 1 2002 0 115 1 rfl (by decide) rfl ?_
   refine AW.adoptB 2 2002 1 123 2 rfl (by decide) rfl ?_
   refine AW.adoptT 3 3 40 7 rfl ?_
   refine aR<|rT ?_
   have hc:lgOpC d=1:=lg1 (by first|exact .inl (by simpa using h2)|exact .inr (by have h:=h2;simp only[gt_iff_lt,decide_eq_true_eq]at h;omega)|exact .inl (by simpa using h1)|exact .inr (by have h:=h1;simp only[gt_iff_lt,decide_eq_true_eq]at h;omega))
   have hL:=lgL_n (d:=d) (by rw[hc];decide)
   have hE:=lgE_n (d:=d) (by rw[hc];decide)
   unfold lgOpRel
   rw[hc,hL,hE]
   refine end_nret (F1:=[]) (.tup [.agg [.own 1,.own 2,int 0,int 0],.own 3,int 1]) (obL [] [] ⟨[],[]⟩ []) ?_ (by decide) rfl rfl ⟨rfl,rfl,rfl,trivial⟩ tlp
   exact⟨[],[],rfl,rfl,rfl,rfl,rfl⟩
  ·intro h2
   refine aK<|gT<|aS ?_
   have hd:diskOk d=true:=by first|(have h:=h2;simpa using h;done)|(have h:=h1;simpa using h;done)
   have hw0:d.dirty.length=0:=by first|(have h:=h2;simp only[gt_iff_lt,decide_eq_false_iff_not]at h;omega;done)|(have h:=h1;simp only[gt_iff_lt,decide_eq_false_iff_not]at h;omega;done)
   have hle:=logR_le hd
   have hsz:=(dok_iff hd).1
   obtain⟨ht0,ht1⟩:=logTop_bd d
   refine aL<|loX (.agg [vL _ _ _,vL _ _ _]) ty.kd34 Z<|lst (zC [] [] [] Try.func29 (logRead_e d hb) (trivial) Z Z) Z<|lmX (.tup [vL _ _ _,vI _ _]) Z<|lxL Z<|lxI Z<|laL Z<|laI Z<|nA<|loX (.agg [vL _ _ _,vL _ _ _]) ty.kd34 Z<|lst (zC [] [] [] Try.func30 (logTop_e d hb) (trivial) Z Z) Z<|laI Z<|nG<|aS<|sL<|lmI Z<|lf 0 ty.F34_0 Z<|loL ty.kd31 Z<|lnI ty.sl31 Z ?_
   refine AL.slot 32 (int (d.cells.length:Int)) (congrArg (fun n:Nat=>int (n:Int)) (rowsC_len _)) ?_
   refine lbB Z<|lmB Z ?_
   refine AL.bool (t:=34) rfl ?_ ?_
   ·intro h3
    refine lno Z<|lno Z<|lkT Z<|nG<|aY Z<|sL<|lq (rd (x:=.agg [vV _,vV _,vI _ _,vI _ _]) (rd_build Z ty.sa36 Z Z Z) Z)<|lst (zB 2002 ty.co36 ty.inf36 Z) Z ?_
    refine lTt ([]) [1,2,3,4,6,7] [2001,2002] ?_
    refine laV Z<|laI Z<|nG ?_
    refine AW.adoptB 1 2002 0 115 1 rfl (by decide) rfl ?_
    refine AW.adoptB 2 2002 1 123 2 rfl (by decide) rfl ?_
    refine AW.adoptT 3 3 40 7 rfl ?_
    refine aR<|rT ?_
    have hc:lgOpC d=2:=lg2 hd hw0 (by first|exact .inl (by have h:=h3;simp only[decide_eq_true_eq]at h;omega)|exact .inr (by have h:=h3;simpa using h)|exact .inl (by have h:=h2;simp only[decide_eq_true_eq]at h;omega)|exact .inr (by have h:=h2;simpa using h)|exact .inl (by have h:=h1;simp only[decide_eq_true_eq]at h;omega)|exact .inr (by have h:=h1;simpa using h))
    have hL:=lgL_n (d:=d) (by rw[hc];decide)
    have hE:=lgE_n (d:=d) (by rw[hc];decide)
    unfold lgOpRel
    rw[hc,hL,hE]
    refine end_nret (F1:=[]) (.tup [.agg [.own 1,.own 2,int 0,int 0],.own 3,int 2]) (obL [] [] ⟨[],[]⟩ []) ?_ (by decide) rfl rfl ⟨rfl,rfl,rfl,trivial⟩ tlp
    exact⟨[],[],rfl,rfl,rfl,rfl,rfl⟩
   ·intro h3
    refine lmI Z<|lbB Z<|lkB Z<|nG ?_
    refine AW.cond rfl ?_ ?_
    ·intro h4
     refine sL<|lq (rd (x:=.agg [vV _,vV _,vI _ _,vI _ _]) (rd_build Z ty.sa36 Z Z Z) Z)<|lst (zB 2002 ty.co36 ty.inf36 Z) Z<|laV Z<|laI Z<|nG ?_
     refine AW.adoptB 1 2002 0 115 1 rfl (by decide) rfl ?_
     refine AW.adoptB 2 2002 1 123 2 rfl (by decide) rfl ?_
     refine AW.adoptT 3 3 40 7 rfl ?_
     refine aR<|rT ?_
     have hc:lgOpC d=2:=lg2 hd hw0 (by first|exact .inl (by have h:=h4;simp only[decide_eq_true_eq]at h;omega)|exact .inr (by have h:=h4;simpa using h)|exact .inl (by have h:=h3;simp only[decide_eq_true_eq]at h;omega)|exact .inr (by have h:=h3;simpa using h)|exact .inl (by have h:=h2;simp only[decide_eq_true_eq]at h;omega)|exact .inr (by have h:=h2;simpa using h)|exact .inl (by have h:=h1;simp only[decide_eq_true_eq]at h;omega)|exact .inr (by have h:=h1;simpa using h))
     have hL:=lgL_n (d:=d) (by rw[hc];decide)
     have hE:=lgE_n (d:=d) (by rw[hc];decide)
     unfold lgOpRel
     rw[hc,hL,hE]
     refine end_nret (F1:=[]) (.tup [.agg [.own 1,.own 2,int 0,int 0],.own 3,int 2]) (obL [] [] ⟨[],[]⟩ []) ?_ (by decide) rfl rfl ⟨rfl,rfl,rfl,trivial⟩ tlp
     exact⟨[],[],rfl,rfl,rfl,rfl,rfl⟩
    ·intro h4
     refine aK<|gT<|aS ?_
     have hn:¬((logR d).length=d.cells.length∨16000000≤logTop d):=by
      have h1:=h3
      have h2:=h4
      simp only[ge_iff_le,decide_eq_false_iff_not]at h1 h2
      omega
     have hlt:(logR d).length<d.cells.length:=by omega
     have hS:=bSec hd hlt (by omega)
     have hBl:(secB ⟨(logR d).length,logTop d+1,[66]⟩).length=128:=secB_length (Nat.le_of_ble_eq_true rfl)
     refine aL<|lmI Z<|lmI Z<|lgI Z<|lst (zS 2043 (rowsOf encU [66]) ty.el56 ty.ze5 Z) Z<|lq (rd (x:=.agg [vI _ _,vI _ _,.own _]) (rd_build Z ty.sa92 Z Z Z) Z) ?_
     refine AL.freeze 2043 rfl ?_
     refine lst (zC [] [] [] Try.func50 (sectorBytes_e (⟨(logR d).length,logTop d+1,[66]⟩:Sector)) (trivial) rfl rfl) rfl ?_
     refine AL.slot 45 (.tup [byV (secB (⟨(logR d).length,logTop d+1,[66]⟩:Sector)),boo true]) (Eq.trans (b:=AV.tup [byV (secX (⟨(logR d).length,logTop d+1,[66]⟩:Sector)),boo (secOk (⟨(logR d).length,logTop d+1,[66]⟩:Sector))]) rfl (by rw[secX_y hS,hS])) ?_
     refine lTt ([]) [1,2,3,4,6,7,45] [2001,2002] ?_
     refine lmX (.tup [vL _ _ _,vB _]) Z<|lxL Z<|lxB Z<|laL Z<|laB Z<|nA<|loX (.agg [vL _ _ _,vL _ _ _]) ty.kd34 Z<|lmI Z<|lmL Z ?_
     refine lst (zC [] [] [] Try.func51 (diskWrite_f d (logR d).length (secB (⟨(logR d).length,logTop d+1,[66]⟩:Sector)) hd hlt (by omega) hBl) (trivial) rfl rfl) Z<|lmX (.tup [.agg [vL _ _ _,vL _ _ _],vB _]) Z<|lxX (.agg [vL _ _ _,vL _ _ _]) Z<|lxB Z<|lst (zA 2010 ty.ze34 rfl) Z<|lst (zB 2010 ty.co34 ty.inf34 rfl) rfl ?_
     refine lTt ([]) [1,2,3,4,6,7,10,54] [2001,2002,2010] ?_
     refine laB Z<|nG<|aS<|aF [9]<|sq 0 (roX (.agg [vL _ _ _,vL _ _ _]) ty.kd34 rfl)<|pq 2 (qmX (vI _ _) rfl)<|sq 3 (rgI rfl (by unfold i64;omega))<|pq 4 (qmX (vI _ _) rfl)<|sq 5 (rgI rfl (by unfold i64;omega))<|sq 7 (roX (.agg [vL _ _ _,vL _ _ _]) ty.kd34 rfl) ?_
     refine AF.stx (i:=1) rfl (by kernel_rfl) (StX.callN (F:=[]) [(1,1),(2,2)] [1,2] [] ([]).length Try.func65 (diskSync_n (diskW d (logR d).length (secB ⟨(logR d).length,logTop d+1,[66]⟩)) (dok_diskW hd hlt (by omega) hBl)) tlp List.drop_length List.take_length (Nat.le_refl _) ((by simp)) (fun _ _ _ _=>trivial) rfl rfl) (.inr rfl) rfl ?_
     rintro _ _ ⟨xz2,oz2,Fz2,hz2,hF2,hM2,rfl,rfl⟩
     obtain⟨vs,us,hvl,hul,rfl,rfl,rfl⟩:=hz2
     have hrf2:rowF ([]++famD vs us (diskS (diskW d (logR d).length (secB ⟨(logR d).length,logTop d+1,[66]⟩)))):=rowF.app (by first|assumption|exact rowF.nil) hF2
     refine sq 6 (rd (x:=.agg [.own _,.own _,vI _ _,vI _ _]) (rd_build Z ty.sa36 Z Z Z) Z)<|vst 8 Z (zC [(1,3)] [3] [] Try.func20 (logEvents_o d hb) (trivial) Z Z) (.inr Z)<|vst 9 Z (zB 2002 ty.co36 ty.inf36 Z) (.inl Z)<|vq 10 (raO Z)<|vq 11 (raI Z)<|fD<|gT<|aR ?_
     have hc:lgOpC d=0:=lg0 hd hw0 hn
     have hL:=lgL_y hc
     have hE:=lgE_y hc
     have hrfD:rowF (famD vs us (diskS (diskW d (logR d).length (secB ⟨(logR d).length,logTop d+1,[66]⟩)))):=famD_row
     rw[List.nil_append]
     unfold lgOpRel
     rw[hc,hL,hE]
     refine end_nret (F1:=(famD vs us (diskS (diskW d (logR d).length (secB ⟨(logR d).length,logTop d+1,[66]⟩))))) (.tup [.agg [.own 1,.own 2,int (((logR d).length:Int)+1),int (logTop d+1)],.own 3,int 0]) (obL vs us (diskS (diskW d (logR d).length (secB ⟨(logR d).length,logTop d+1,[66]⟩))) (logE d)) ?_ (by rw[famD_len hvl hul,diskS_y (dok_diskW hd hlt (by omega) hBl),synK_len];show d.cells.length+0≤_;omega) rfl rfl ⟨rfl,rfl,rfl,trivial⟩ tlp
     exact⟨vs,us,hvl,hul,rfl,rfl,rfl⟩

def A50(n:Int):Prop:=-1125899906842624≤n∧n≤1125899906842624
structure BookSm(x:Book):Prop where
 tick:A50 x.tick
 next:A50 x.next
 wallet:A50 x.wallet
 chans:∀c∈x.chans,A50 c.loc∧A50 c.remote∧A50 c.score∧A50 c.base∧A50 c.ppm
 htlcs:∀h∈x.htlcs,A50 h.amtIn∧A50 h.amtOut∧0≤h.age∧h.age≤1125899906842624∧0≤h.amtOut
 circles:∀c∈x.circles,A50 c.amt∧A50 c.fee
 lc:x.chans.length≤20
 lh:x.htlcs.length≤60
 li:x.circles.length≤20
structure EvSm(e:Event):Prop where
 amt:A50 e.amt
 fee:A50 e.fee
theorem BookSm.hs{x:Book}(h:BookSm x):SmallH x.htlcs:=⟨h.lh,fun y hy=>⟨(h.htlcs y hy).2.2.2.2,(h.htlcs y hy).2.1.2⟩⟩

structure BookFi(x:Book):Prop where
 sm:BookSm x
 ids:x.chans.Pairwise fun a b=>a.id≠b.id
 hks:x.htlcs.Pairwise fun a b=>a.key≠b.key
 iks:x.circles.Pairwise fun a b=>a.key≠b.key
 hch:∀h∈x.htlcs,0≤chanAt x.chans h.inn∧0≤chanAt x.chans h.out∧h.inn≠h.out
 ich:∀h∈x.circles,0≤chanAt x.chans h.frm∧0≤chanAt x.chans h.to∧h.frm≠h.to

def encKey(n:Int):List Value:=[.int .i64 n]

abbrev obF(d:Disk):List (Nat×AO):=[(1,.arr 115 1 (rowsC d.cells)),(2,.arr 123 2 (rowsW d.dirty))]
abbrev obFL(d:Disk)(es:List Event):List (Nat×AO):=[(1,.arr 115 1 (rowsC d.cells)),(2,.arr 123 2 (rowsW d.dirty)),(3,eAr es)]
abbrev inV(l:List Int):AV:=.p (.lst 3 1 (rowsOf encKey l))
abbrev kAr(l:List Int):AO:=.arr 3 1 (rowsOf encKey l)
theorem rowsC_succ{cs:List Cell}{k:Nat}(hk:k<cs.length):rowsC (cs.take k)++[[lstB cs[k].bytes]]=rowsC (cs.take (k+1)):=by
 rw[List.take_succ_eq_append_getElem hk];unfold rowsC;rw[List.map_append];rfl
theorem rowsC_set{cs:List Cell}{i:Nat}{b:List Int}:(rowsC cs).set i [lstB b]=rowsC (cs.set i ⟨b⟩):=by unfold rowsC;rw[List.map_set]
theorem GC.disk{f:FuncId}{args:List AV}{d:Disk}(h:GC Try.prog f args [] oDisk (obF d)):GC Try.prog f args [] (diskV d) []:=
 (GX.frozen (Z:=fun y=>y=diskV d) h fun x ob ⟨h1,h2⟩=>by
   subst h1 h2
   exact⟨_,Still.agg (.cons (Still.row (e:=⟨115,none⟩) (sz:=1) (rows:=rowsC d.cells) rfl) (.cons (Still.row (e:=⟨123,none⟩) (sz:=2) (rows:=rowsW d.dirty) rfl) .nil)),rfl⟩).mono fun y o ⟨e1,e2⟩=>⟨e2,e1⟩
theorem GC.diskT{f:FuncId}{args:List AV}{d:Disk}{b:Bool}(h:GC Try.prog f args [] (.tup [oDisk,boo b]) (obF d)):GC Try.prog f args [] (.tup [diskV d,boo b]) []:=
 (GX.frozen (Z:=fun y=>y=.tup [diskV d,boo b]) h fun x ob ⟨h1,h2⟩=>by
   subst h1 h2
   exact⟨_,Still.tup (.cons (Still.agg (.cons (Still.row (e:=⟨115,none⟩) (sz:=1) (rows:=rowsC d.cells) rfl) (.cons (Still.row (e:=⟨123,none⟩) (sz:=2) (rows:=rowsW d.dirty) rfl) .nil))) (.cons (Still.p _) .nil)),rfl⟩).mono fun y o ⟨e1,e2⟩=>⟨e2,e1⟩
theorem sl03Copy_o(d:Disk)(hs:DkS d):GC Try.prog 93 [diskV d] [] (oDisk) (obF d):=by
 refine GC.intro (rs:=[.cell 2 34 (some 2)]) Try.func93 rfl Try.ntmps93 (Nat.le_of_ble_eq_true rfl) ⟨rfl,rfl,ty.kd34,trivial⟩ ?_
 intro L O w0
 refine sL<|lst (zX 2001 Z) Z<|lst (zA 2002 ty.ze34 Z) Z<|nA<|lq (rd (x:=.agg [vV _,vV _]) (rd_build Z ty.sa34 Z Z Z) Z)<|lst (zA 2003 ty.ze34 Z) Z<|lst (zB 2003 ty.co34 ty.inf34 Z) Z<|nG<|aS<|aS ?_
 refine AW.adoptB 1 2003 0 115 1 rfl (by decide) rfl ?_
 refine AW.adoptB 2 2003 1 123 2 rfl (by decide) rfl ?_
 refine aL<|lf 0 ty.F34_0 Z<|loL ty.kd31 Z<|lnI ty.sl31 Z ?_
 refine AL.slot 11 (int (d.cells.length:Int)) (congrArg (fun n:Nat=>int (n:Int)) (rowsC_len _)) ?_
 refine lmI Z<|nG<|aB ?_
 refine aW [1,2,3,10,11] [2,2001,2002,2003] (D:=Nat) (fun a=>[(12,int (a:Int))]) (fun a=>[(1,.arr 115 1 (rowsC (d.cells.take a)))]) (fun a=>a≤d.cells.length) (fun a=>d.cells.length-a) (0) (Nat.zero_le _) ⟨rfl,trivial⟩ ⟨rfl,trivial⟩ ?_
 intro k hI
 have hkl:k≤d.cells.length:=hI
 refine sL<|lbB Z<|nG<|aS ?_
 refine AW.cond rfl ?_ ?_
 ·intro h1
  refine aK<|gT<|aS<|aB<|aS ?_
  have hk:k<d.cells.length:=by have h:=h1;simp only[decide_eq_true_eq]at h;omega
  have hlc:=hs.lc
  refine aL<|li k ty.el31 Z (rowsC_at hk)<|lrX (.agg [vL _ _ _]) ty.kd115 Z<|lst (zA 2005 ty.ze115 Z) Z<|lst (zB 2005 ty.co115 ty.inf115 Z) Z<|lT [1,2,3,5,10,11,12] [1,2,2001,2002,2003,2005] ?_
  refine nG<|aG 10 [1,2018]<|tq 0 (rf 0 ty.F34_0 rfl)<|tq 1 (roO ty.kd31 rfl)<|tq 3 (rf 0 ty.F115_0 rfl)<|tq 4 (roL ty.kd56 rfl)<|yst 2 rfl (zS 2018 (rowsOf encU []) ty.el56 ty.ze5 rfl (by intro r hr;cases hr))<|yst 5 rfl (zP 2018 ty.el56 ty.ze5 ty.by5 rfl (Src.p rfl) (by have:=hs.bc _ (List.getElem_mem hk);simp[rowsOf];omega)) ?_
  refine AG.freeze 2018 rfl ?_
  refine yq 6 (rd (x:=.agg [vL _ _ _]) (rd_build rfl ty.sa115 rfl rfl rfl) rfl)<|yst 7 rfl (zS 2023 [[lstB d.cells[k].bytes]] ty.el31 ty.ze115 rfl (by intro r hr;simp at hr;subst hr;rfl))<|yst 8 rfl (zP 1 ty.el31 ty.ze115 ty.by115 rfl (Src.own rfl rfl) (by first|(simp[rowsC_len,rowsW_len];done)|(simp[rowsC_len,rowsW_len];omega)))<|yq 9 (rf 0 ty.F34_0 rfl)<|yl rfl (zB 2003 ty.co31 ty.inf31 rfl)<|gB<|gT<|aL<|lgI Z<|lmI Z<|nG ?_
  refine⟨(k+1),hk,by show d.cells.length-(k+1)<d.cells.length-k;omega,⟨(iq rfl),trivial⟩,⟨(congrArg (AO.arr 115 1) (rowsC_succ hk)),trivial⟩,rfl,rfl⟩
 ·intro h1
  refine aE<|eT<|eT<|eB<|gT<|aS<|aS ?_
  have hke:k=d.cells.length:=by have h:=h1;simp only[decide_eq_false_iff_not]at h;omega
  subst hke
  rw[List.take_length]
  refine aL<|lf 1 ty.F34_1 Z<|loL ty.kd32 Z<|lnI ty.sl32 Z ?_
  refine AL.slot 29 (int (d.dirty.length:Int)) (congrArg (fun n:Nat=>int (n:Int)) (rowsW_len _)) ?_
  refine lmI Z<|nG<|aB ?_
  refine aW [2,3,28,29] [1,2001,2002,2003] (D:=Nat) (fun a=>[(30,int (a:Int))]) (fun a=>[(2,.arr 123 2 (rowsW (d.dirty.take a)))]) (fun a=>a≤d.dirty.length) (fun a=>d.dirty.length-a) (0) (Nat.zero_le _) ⟨rfl,trivial⟩ ⟨rfl,trivial⟩ ?_
  intro j hI
  have hjl:j≤d.dirty.length:=hI
  refine sL<|lbB Z<|nG<|aS ?_
  refine AW.cond rfl ?_ ?_
  ·intro h2
   refine aK<|gT<|aS<|aB<|aS ?_
   have hj:j<d.dirty.length:=by have h:=h2;simp only[decide_eq_true_eq]at h;omega
   have hlw:=hs.lw
   refine aL<|li j ty.el32 Z (rowsW_at hj)<|lrX (.agg [vI _ _,vL _ _ _]) ty.kd123 Z<|lst (zA 2007 ty.ze123 Z) Z<|lT [2,3,7,28,29,30,33] [1,2,2001,2002,2003,2007] ?_
   refine lst (zB 2007 ty.co123 ty.inf123 rfl) Z<|nG<|aG 12 [2,2038]<|tq 0 (rf 1 ty.F34_1 rfl)<|tq 1 (roO ty.kd32 rfl)<|tq 2 (rf 0 ty.F123_0 rfl)<|tq 3 (roI ty.kd3 rfl)<|tq 5 (rf 1 ty.F123_1 rfl)<|tq 6 (roL ty.kd56 rfl)<|yst 4 rfl (zS 2038 (rowsOf encU []) ty.el56 ty.ze5 rfl (by intro r hr;cases hr))<|yst 7 rfl (zP 2038 ty.el56 ty.ze5 ty.by5 rfl (Src.p rfl) (by have:=hs.bw _ (List.getElem_mem hj);simp[rowsOf];omega)) ?_
   refine AG.freeze 2038 rfl ?_
   refine yq 8 (rd (x:=.agg [vI _ _,vL _ _ _]) (rd_build rfl ty.sa123 rfl rfl rfl) rfl)<|yst 9 rfl (zS 2043 [[.v (.int .i64 d.dirty[j].at_),lstB d.dirty[j].bytes]] ty.el32 ty.ze123 rfl (by intro r hr;simp at hr;subst hr;rfl))<|yst 10 rfl (zP 2 ty.el32 ty.ze123 ty.by123 rfl (Src.own rfl rfl) (by first|(simp[rowsC_len,rowsW_len];done)|(simp[rowsC_len,rowsW_len];omega)))<|yq 11 (rf 1 ty.F34_1 rfl)<|yl rfl (zB 2003 ty.co32 ty.inf32 rfl)<|gB<|gT<|aL<|lgI Z<|lmI Z<|nG ?_
   refine⟨(j+1),hj,by show d.dirty.length-(j+1)<d.dirty.length-j;omega,⟨(iq rfl),trivial⟩,⟨(congrArg (AO.arr 123 2) (rowsW_succ hj)),trivial⟩,rfl,rfl⟩
  ·intro h2
   refine aE<|eT<|eT<|eB<|gT<|aS ?_
   have hje:j=d.dirty.length:=by have h:=h2;simp only[decide_eq_false_iff_not]at h;omega
   subst hje
   rw[List.take_length]
   refine aL<|loX (.agg [.own _,.own _]) ty.kd34 Z<|lst (zB 2002 ty.co34 ty.inf34 Z) Z<|lT [2] [1,2,2001,2002,2003] ?_
   refine nG<|aR ?_
   refine end_ret ?_ ⟨rfl,rfl,trivial⟩
   rfl
theorem sdiskWrite_o(d:Disk)(i:Nat)(b:List Int)(hd:diskOk d=true)(hi:i<d.cells.length)(hw:d.dirty.length<600)(hb:b.length=128):GC Try.prog 45 [diskV d,int (i:Int),byV b] [] (.tup [oDisk,boo true]) (obF (diskW d i b)):=by
 refine GC.intro (rs:=[.cell 6 34 (some 2),.tmp 7]) Try.func45 rfl Try.ntmps45 (Nat.le_of_ble_eq_true rfl) ⟨rfl,rfl,ty.kd34,rfl,trivial⟩ ?_
 intro L O w0
 refine sL<|lst (zX 2003 Z) Z<|lst (zA 2006 ty.ze34 Z) Z<|laZ Z<|nG<|aS<|aS ?_
 have hsz:=(dok_iff hd).1
 refine aL<|loX (.agg [vL _ _ _,vL _ _ _]) ty.kd34 Z<|lst (zC [] [] [] Try.func41 (sdiskOk_e d) (trivial) rfl rfl) Z<|lsB 10 true rfl (hd)<|luZ Z<|nG<|aN Z<|aK<|gA<|loX (.agg [vL _ _ _,vL _ _ _]) ty.kd34 Z<|lst (zC [(1,1),(2,2)] [1,2] [] Try.func93 (sl03Copy_o d (dok_s hd)) (trivial) rfl rfl) Z<|lst (zA 2008 ty.ze34 rfl) Z<|lst (zB 2008 ty.co34 ty.inf34 rfl) Z<|nG<|aS<|aG 10 [2,2018]<|tq 0 (rf 1 ty.F34_1 rfl)<|tq 1 (roO ty.kd32 rfl)<|tq 2 (rmI rfl)<|tq 4 (rmL rfl)<|yst 3 rfl (zS 2018 (rowsOf encU []) ty.el56 ty.ze5 rfl (by intro r hr;cases hr))<|gX [6,7,8,16,17,18,19] [1,2,2003,2006,2008,2018] ?_
 refine yst 5 rfl (zP 2018 ty.el56 ty.ze5 ty.by5 rfl (Src.p rfl) (by have:=hb;simp[rowsOf];omega)) ?_
 refine AG.freeze 2018 rfl ?_
 refine yq 6 (rd (x:=.agg [vI _ _,vL _ _ _]) (rd_build rfl ty.sa123 rfl rfl rfl) rfl)<|yst 7 rfl (zS 2022 [[.v (.int .i64 (i:Int)),lstB b]] ty.el32 ty.ze123 rfl (by intro r hr;simp at hr;subst hr;rfl))<|yst 8 rfl (zP 2 ty.el32 ty.ze123 ty.by123 rfl (Src.own rfl rfl) (by first|(simp[rowsC_len,rowsW_len];done)|(simp[rowsC_len,rowsW_len];omega)))<|yq 9 (rf 1 ty.F34_1 rfl)<|yl rfl (zB 2008 ty.co32 ty.inf32 rfl)<|gT<|aS<|aS ?_
 refine AW.obj 2 (.arr 123 2 (rowsW (diskW d i b).dirty)) (congrArg (AO.arr 123 2) (show rowsW d.dirty++[[.v (.int .i64 (i:Int)),lstB b]]=_ by unfold rowsW diskW;rw[List.map_append];rfl)) ?_
 refine aL<|loX (.agg [.own _,.own _]) ty.kd34 Z<|lst (zL Try.func41 (sdiskOk_e (diskW d i b)) Z) Z<|lsB 26 true Z (dok_diskW hd hi hw hb)<|luZ Z<|nG<|aN Z<|aK<|gA<|loX (.agg [.own _,.own _]) ty.kd34 Z<|lst (zB 2006 ty.co34 ty.inf34 Z) Z<|laT Z<|nG<|aR ?_
 refine end_ret ?_ ⟨rfl,rfl,trivial⟩
 rfl
theorem sdiskWrite_f(d:Disk)(i:Nat)(b:List Int)(hd:diskOk d=true)(hi:i<d.cells.length)(hw:d.dirty.length<600)(hb:b.length=128):GC Try.prog 45 [diskV d,int (i:Int),byV b] [] (.tup [diskV (diskW d i b),boo true]) []:=(sdiskWrite_o d i b hd hi hw hb).diskT
theorem crash_go{keep:List Int}{ws:List Write}{k:Nat}{cs:List Cell}(hk:k<ws.length):crashGo keep (ws.drop k) k cs=crashGo keep (ws.drop (k+1)) (k+1) (crashStep keep cs k ws[k]):=by
 rw[List.drop_eq_getElem_cons hk];rfl
theorem crash_0{keep:List Int}{k:Nat}{cs:List Cell}{w:Write}(h:(keep[k]?).getD 0<1):crashStep keep cs k w=cs:=if_pos (by unfold crashK;omega)
theorem crash_n{keep:List Int}{k m:Nat}{cs:List Cell}{w:Write}(h:¬(keep[k]?).getD 0<1)(h1:(m:Int)≤(keep[k]?).getD 0)(h2:m≤128)(h3:(keep[k]?).getD 0≤m∨128≤m)(hc:w.at_.toNat<cs.length):crashStep keep cs k w=cs.set w.at_.toNat ⟨torn (cs[w.at_.toNat]).bytes w.bytes m⟩:=by
 have e:crashK keep k=m:=by unfold crashK;omega
 unfold crashStep
 rw[e,if_neg (by omega),List.getElem?_eq_getElem hc];rfl
theorem torn_len{old new:List Int}{m:Nat}(h1:(fullB old).length=128)(h2:new.length=128)(hm:m≤128):(torn old new m).length=128:=by
 unfold torn;rw[List.length_append,List.length_take,List.length_drop];omega
theorem full_len{c:Cell}(h:cellOk c=true):(fullB c.bytes).length=128:=by
 unfold cellOk at h
 unfold fullB
 split
 ·simp
 ·simp_all
theorem torn_succ{old new:List Int}{m:Nat}(h1:(fullB old).length=128)(h2:new.length=128)(hm:m<128):(torn old new m).set m (new[m]'(by omega))=torn old new (m+1):=by
 unfold torn
 rw[List.set_append_right _ _ (by rw[List.length_take];omega),List.take_succ_eq_append_getElem (by omega),List.append_assoc,List.length_take,show m-min m new.length=0 by omega,List.drop_eq_getElem_cons (show m<(fullB old).length by omega)]
 rfl
theorem torn_0{old new:List Int}:torn old new 0=fullB old:=by unfold torn;simp
theorem torn_all{old new:List Int}(h1:(fullB old).length=128)(h2:new.length=128):torn old new 128=new:=by
 unfold torn;rw[List.take_of_length_le (by omega),List.drop_eq_nil_of_le (by omega),List.append_nil]
theorem rowsU_set{l:List Int}{i:Nat}{x:Int}:(rowsOf encU l).set i [.v (.int .u8 x)]=rowsOf encU (l.set i x):=by unfold rowsOf;rw[List.map_set];rfl
theorem cells_set{cs:List Cell}{i:Nat}{b:List Int}(h:cs.all cellOk=true)(hb:b.length=128):(cs.set i ⟨b⟩).all cellOk=true:=by
 rw[List.all_eq_true]at *
 intro x hx
 rcases List.mem_or_eq_of_mem_set hx with q|rfl
 ·exact h x q
 ·unfold cellOk;simp[hb]
theorem diskC_y{d:Disk}{keep:List Int}(h:diskOk d=true):diskC d keep=⟨crashGo keep d.dirty 0 d.cells,[]⟩:=if_pos h
theorem cell_at{cs:List Cell}(h:cs.all cellOk=true){i:Nat}(hi:i<cs.length):cellOk cs[i]=true:=List.all_eq_true.1 h _ (List.getElem_mem hi)
theorem cell_len{c:Cell}(h:cellOk c=true):c.bytes.length≤128:=by unfold cellOk at h;simp only[Bool.or_eq_true,decide_eq_true_eq]at h;omega
theorem sdiskCrash_o(d:Disk)(keep:List Int)(hd:diskOk d=true):GC Try.prog 67 [diskV d,inV keep] [] (oDisk) (obF (diskC d keep)):=by
 refine GC.intro (rs:=[.cell 4 34 (some 2)]) Try.func67 rfl Try.ntmps67 (Nat.le_of_ble_eq_true rfl) ⟨rfl,rfl,ty.kd34,trivial⟩ ?_
 intro L O w0
 refine sL<|lst (zX 2002 Z) Z<|lst (zA 2004 ty.ze34 Z) Z<|nG<|aS<|aS ?_
 have hsz:=(dok_iff hd).1
 refine aL<|loX (.agg [vL _ _ _,vL _ _ _]) ty.kd34 Z<|lst (zC [] [] [] Try.func41 (sdiskOk_e d) (trivial) Z Z) Z<|lsB 12 true Z (hd)<|luZ Z<|nG<|aN Z<|aK<|gA<|loX (.agg [vL _ _ _,vL _ _ _]) ty.kd34 Z<|lst (zC [(1,1),(2,2)] [1,2] [] Try.func93 (sl03Copy_o d (dok_s hd)) (trivial) Z Z) Z<|lst (zA 2005 ty.ze34 Z) Z<|lst (zB 2005 ty.co34 ty.inf34 Z) Z<|nA<|lf 1 ty.F34_1 Z<|lst (zB 2005 ty.co32 ty.inf32 Z) Z<|nG<|aS<|sL<|lf 1 ty.F34_1 Z<|loL ty.kd32 Z<|lnI ty.sl32 Z ?_
 refine AL.slot 20 (int (d.dirty.length:Int)) (congrArg (fun n:Nat=>int (n:Int)) (rowsW_len _)) ?_
 refine lmI Z<|nG<|aB ?_
 refine aW [1,4,5,19,20] [2002,2004,2005] (D:=Nat×List Cell) (fun a=>[(21,int (a.1:Int))]) (fun a=>[(1,.arr 115 1 (rowsC a.2))]) (fun a=>a.1≤d.dirty.length∧a.2.length=d.cells.length∧a.2.all cellOk=true∧crashGo keep (d.dirty.drop a.1) a.1 a.2=crashGo keep d.dirty 0 d.cells) (fun a=>d.dirty.length-a.1) ((0,d.cells)) (⟨Nat.zero_le _,rfl,(dok_iff hd).2.1,rfl⟩) ⟨rfl,trivial⟩ ⟨rfl,trivial⟩ ?_
 intro ⟨k,cs⟩ hI
 obtain⟨hkl,hcl,hco,hgo⟩:=hI
 replace hkl:k≤d.dirty.length:=hkl
 replace hcl:cs.length=d.cells.length:=hcl
 replace hco:cs.all cellOk=true:=hco
 replace hgo:crashGo keep (d.dirty.drop k) k cs=crashGo keep d.dirty 0 d.cells:=hgo
 refine sL<|lbB Z<|nG<|aS ?_
 refine AW.cond rfl ?_ ?_
 ·intro h1
  refine aK<|gT<|aS<|aB<|aS ?_
  have hk:k<d.dirty.length:=by have h:=h1;simp only[decide_eq_true_eq]at h;omega
  have hat:=dok_at hd hk
  have hat2:d.dirty[k].at_.toNat<cs.length:=by omega
  refine aL<|lmI Z<|li k ty.el32 Z (rowsW_at hk)<|lrX (.agg [vI _ _,vL _ _ _]) ty.kd123 Z<|lst (zA 2007 ty.ze123 Z) Z<|lT [1,4,5,7,19,20,21,23,25] [1,2002,2004,2005,2007] ?_
  refine laI Z<|lst (zB 2007 ty.co123 ty.inf123 Z) Z<|nA<|laI Z<|nG ?_
  refine aJ [1,4,5,7,19,20,21] [1,2002,2004,2005,2007] (D:=Unit) (fun jd=>[(8,int ((keep[k]?).getD 0))]) (fun jd=>[]) (fun jd=>True) ?_ ?_
  ·refine sL<|lmI Z<|lmL Z<|lnI ty.sl112 Z<|lbB Z<|nG ?_
   refine AW.cond rfl ?_ ?_
   ·intro h2
    have hkk:k<keep.length:=by have h:=h2;simp only[length_rowsOf,decide_eq_true_eq]at h;omega
    refine aL<|lmL Z<|lmI Z<|li k ty.el112 Z (row_map hkk)<|lrI ty.kd3 Z<|laI Z<|nG ?_
    refine⟨(),trivial,⟨(Eq.trans (b:=int _) rfl (congrArg int (show keep[k]=((keep[k]?).getD 0) by rw[List.getElem?_eq_getElem hkk];rfl))),trivial⟩,trivial,rfl,rfl⟩
   ·intro h2
    refine aK<|gT ?_
    refine⟨(),trivial,⟨(Eq.trans (b:=int _) rfl (congrArg int (show (0:Int)=((keep[k]?).getD 0) by rw[List.getElem?_eq_none (by have h:=h2;simp only[length_rowsOf,decide_eq_false_iff_not]at h;omega)];rfl))),trivial⟩,trivial,rfl,rfl⟩
  ·intro jd hJ
   refine aS<|sL<|lmI Z<|lbB Z<|nG ?_
   refine AW.cond rfl ?_ ?_
   ·intro h3
    refine aE<|eT<|eB<|gT ?_
    have hlow:((keep[k]?).getD 0)<1:=by have h:=h3;simpa using h
    refine aL<|lgI Z<|lmI Z<|nG ?_
    refine⟨(k+1,cs),⟨hk,hcl,hco,by rw[←hgo,crash_go hk,crash_0 hlow]⟩,by show d.dirty.length-(k+1)<d.dirty.length-k;omega,⟨(iq rfl),trivial⟩,⟨rfl,trivial⟩,rfl,rfl⟩
   ·intro h3
    refine aK<|gT<|aS ?_
    have hlow:¬((keep[k]?).getD 0)<1:=by have h:=h3;simpa using h
    have hfo:=full_len (cell_at hco hat2)
    refine aL<|lf 0 ty.F34_0 Z<|loO ty.kd31 Z<|lf 0 ty.F123_0 Z<|loI ty.kd3 Z<|lq (rd (x:=.ptr 1 _ 0) (rd_iaddr_own (i:=d.dirty[k].at_.toNat) rfl ty.el31 rfl rfl rfl ?hn1 (by rw[rowsC_len];exact hat2)) rfl) ?_
    case hn1=>exact(Int.toNat_of_nonneg hat.1).symm
    refine lf 0 ty.F115_0 Z<|lq (rd (x:=vL _ _ _) (rd_load_arr rfl ty.kd56 rfl rfl rfl (rowsC_at hat2) rfl) rfl)<|lst (zC [(1,2043)] [2043] [] Try.func111 (sfull_o cs[d.dirty[k].at_.toNat].bytes (Nat.le_trans (cell_len (cell_at hco hat2)) (by decide))) (trivial) rfl rfl) Z<|laO Z<|nG<|aS<|sL<|laI Z<|nG<|aB ?_
    refine aW [1,4,5,7,8,9,19,20,21] [1,2002,2004,2005,2007] (D:=Nat) (fun b=>[(10,int (b:Int))]) (fun b=>[(2043,yAr (torn cs[d.dirty[k].at_.toNat].bytes d.dirty[k].bytes b))]) (fun b=>b≤128∧(b:Int)≤((keep[k]?).getD 0)) (fun b=>128-b) (0) (⟨Nat.zero_le _,by omega⟩) ⟨rfl,trivial⟩ ⟨(Eq.trans (b:=yAr (fullB cs[d.dirty[k].at_.toNat].bytes)) rfl (congrArg yAr torn_0.symm)),trivial⟩ ?_
    intro m hI
    obtain⟨hm1,hm2⟩:=hI
    replace hm1:m≤128:=hm1
    replace hm2:(m:Int)≤((keep[k]?).getD 0):=hm2
    refine aS<|sL<|lmI Z<|lmI Z<|lbB Z<|lmB Z ?_
    refine AL.bool (t:=47) rfl ?_ ?_
    ·intro h4
     refine lmI Z<|lbB Z<|lkB Z<|nG ?_
     refine AW.cond rfl ?_ ?_
     ·intro h5
      refine aK<|gT<|aS<|aB ?_
      have hm:(m:Int)<((keep[k]?).getD 0)∧m<128:=by
       have h1:=h4
       have h2:=h5
       simp only[decide_eq_true_eq]at h1 h2
       omega
      have hwl:=dok_w hd hk
      have htl:=torn_len (m:=m) hfo hwl (by omega)
      refine aL<|lmO Z<|lmI Z<|lf 1 ty.F123_1 Z<|loL ty.kd56 Z<|lmI Z<|li m ty.el56 rfl (row_map (by omega))<|lrI ty.kd5 Z<|lq (rj m ty.el56 rfl (by rw[length_rowsOf];omega))<|lst (zQ 2043 [.v (.int .u8 (d.dirty[k].bytes[m]'(by omega)))] ty.co5 ty.inf5 rfl (row_map (by omega))) Z<|lT [1,4,5,7,8,9,10,19,20,21] [1,2002,2004,2005,2007,2043] ?_
      refine lN<|gB<|gT<|aL<|lmI Z<|lgI Z<|laI Z<|nG ?_
      refine⟨(m+1),⟨by omega,by omega⟩,by show 128-(m+1)<128-m;omega,⟨(iq rfl),trivial⟩,⟨(Eq.trans (congrArg (AO.arr 5 1) rowsU_set) (congrArg yAr (torn_succ hfo (dok_w hd hk) (by omega)))),trivial⟩,rfl,rfl⟩
     ·intro h5
      refine aE<|eT<|eT<|eB<|gT ?_
      have hend:((keep[k]?).getD 0)≤m∨128≤m:=by first|(have h:=h5;simp only[decide_eq_false_iff_not]at h;omega)|(have h:=h4;simp only[decide_eq_false_iff_not]at h;omega)|(have h:=h3;simp only[decide_eq_false_iff_not]at h;omega)|(have h:=h1;simp only[decide_eq_false_iff_not]at h;omega)
      refine aL<|lf 0 ty.F34_0 Z<|loO ty.kd31 Z<|lf 0 ty.F123_0 Z<|loI ty.kd3 Z<|lmO Z<|lq (rd (x:=.ptr 1 _ 0) (rd_iaddr_own (i:=d.dirty[k].at_.toNat) rfl ty.el31 rfl rfl rfl ?hn2 (by rw[rowsC_len];exact hat2)) rfl) ?_
      case hn2=>exact(Int.toNat_of_nonneg hat.1).symm
      refine lf 0 ty.F115_0 rfl ?_
      refine AL.freeze 2043 rfl ?_
      refine lst (zQ 1 [lstB (torn cs[d.dirty[k].at_.toNat].bytes d.dirty[k].bytes m)] ty.co56 ty.inf56 Z (rowsC_at hat2)) Z<|lN<|gB<|gT<|aL<|lgI Z<|lmI Z<|nG ?_
      refine⟨(k+1,cs.set d.dirty[k].at_.toNat ⟨torn cs[d.dirty[k].at_.toNat].bytes d.dirty[k].bytes m⟩),⟨hk,by rw[List.length_set];exact hcl,cells_set hco (torn_len hfo (dok_w hd hk) (by omega)),by rw[←hgo,crash_go hk,crash_n hlow (by omega) (by omega) hend hat2]⟩,by show d.dirty.length-(k+1)<d.dirty.length-k;omega,⟨(iq rfl),trivial⟩,⟨(congrArg (AO.arr 115 1) rowsC_set),trivial⟩,rfl,rfl⟩
    ·intro h4
     refine lno Z<|lno Z<|lkZ Z<|nG<|aN Z<|aE<|eT<|eT<|eB<|gT ?_
     have hend:((keep[k]?).getD 0)≤m∨128≤m:=by first|(have h:=h4;simp only[decide_eq_false_iff_not]at h;omega)|(have h:=h3;simp only[decide_eq_false_iff_not]at h;omega)|(have h:=h1;simp only[decide_eq_false_iff_not]at h;omega)
     refine aL<|lf 0 ty.F34_0 Z<|loO ty.kd31 Z<|lf 0 ty.F123_0 Z<|loI ty.kd3 Z<|lmO Z<|lq (rd (x:=.ptr 1 _ 0) (rd_iaddr_own (i:=d.dirty[k].at_.toNat) rfl ty.el31 rfl rfl rfl ?hn3 (by rw[rowsC_len];exact hat2)) rfl) ?_
     case hn3=>exact(Int.toNat_of_nonneg hat.1).symm
     refine lf 0 ty.F115_0 rfl ?_
     refine AL.freeze 2043 rfl ?_
     refine lst (zQ 1 [lstB (torn cs[d.dirty[k].at_.toNat].bytes d.dirty[k].bytes m)] ty.co56 ty.inf56 Z (rowsC_at hat2)) Z<|lT [1,4,5,19,20,21] [1,2002,2004,2005,2007] ?_
     refine lN<|gB<|gT<|aL<|lgI Z<|lmI Z<|nG ?_
     refine⟨(k+1,cs.set d.dirty[k].at_.toNat ⟨torn cs[d.dirty[k].at_.toNat].bytes d.dirty[k].bytes m⟩),⟨hk,by rw[List.length_set];exact hcl,cells_set hco (torn_len hfo (dok_w hd hk) (by omega)),by rw[←hgo,crash_go hk,crash_n hlow (by omega) (by omega) hend hat2]⟩,by show d.dirty.length-(k+1)<d.dirty.length-k;omega,⟨(iq rfl),trivial⟩,⟨(congrArg (AO.arr 115 1) rowsC_set),trivial⟩,rfl,rfl⟩
 ·intro h1
  refine aE<|eT<|eT<|eB<|gT<|aS ?_
  have hke:k=d.dirty.length:=by have h:=h1;simp only[decide_eq_false_iff_not]at h;omega
  have hfin:cs=crashGo keep d.dirty 0 d.cells:=by rw[←hgo,hke,List.drop_length];rfl
  refine aT [4,5] [1,2002,2004,2005] ?_
  refine AW.adoptB 2 2005 1 123 2 rfl (by decide) rfl ?_
  refine aL<|loX (.agg [.own _,.own _]) ty.kd34 Z<|lst (zB 2004 ty.co34 ty.inf34 Z) Z<|nG<|aR ?_
  rw[diskC_y hd,←hfin]
  refine end_ret ?_ ⟨rfl,rfl,trivial⟩
  rfl
theorem crash_all{keep:List Int}:∀(ws:List Write) (k:Nat) (cs:List Cell),(∀j,k≤j→j<k+ws.length→keep[j]? = some 128)→(∀w∈ws,w.bytes.length=128∧w.at_.toNat<cs.length)→cs.all cellOk=true→crashGo keep ws k cs=ws.foldl syncStep cs
 |[],_,_,_,_,_=>rfl
 |w::ws,k,cs,hk,hw,hc=>by
  have h1:=hw w (by simp)
  have hkk:=hk k (Nat.le_refl _) (by simp)
  have e:crashStep keep cs k w=syncStep cs w:=by
   rw[crash_n (m:=128) (by rw[hkk];decide) (by rw[hkk];decide) (by omega) (.inr (by omega)) h1.2,torn_all (full_len (cell_at hc h1.2)) h1.1];rfl
  show crashGo keep ws (k+1) (crashStep keep cs k w)=_
  rw[e,List.foldl_cons]
  refine crash_all ws (k+1) _ (fun j hj1 hj2=>hk j (by omega) (by simp;omega)) (fun x hx=>?_) (cells_set hc h1.1)
  have:=hw x (by simp[hx])
  exact⟨this.1,by unfold syncStep;rw[List.length_set];exact this.2⟩
theorem diskC_sync{d:Disk}(h:diskOk d=true):diskC d (List.replicate d.dirty.length 128)=diskS d:=by
 rw[diskC_y h,diskS_y h]
 unfold synK
 rw[List.take_length]
 refine congrArg (fun c=>(⟨c,[]⟩:Disk)) (crash_all _ 0 _ (fun j _ hj=>by rw[List.getElem?_replicate];exact if_pos (by omega)) (fun w hw=>?_) (dok_iff h).2.1)
 obtain⟨j,hj,rfl⟩:=List.getElem_of_mem hw
 exact⟨dok_w h hj,(dok_at h hj).2⟩
theorem sdiskSync_o(d:Disk)(hd:diskOk d=true):GC Try.prog 64 [diskV d] [] (oDisk) (obF (diskS d)):=by
 refine GC.intro (rs:=[.cell 2 34 (some 2)]) Try.func64 rfl Try.ntmps64 (Nat.le_of_ble_eq_true rfl) ⟨rfl,rfl,ty.kd34,trivial⟩ ?_
 intro L O w0
 refine sL<|lst (zX 2001 Z) Z<|lst (zA 2002 ty.ze34 Z) Z<|nG<|aS ?_
 have hsz:=(dok_iff hd).1
 refine aL<|lst (zS 2004 (rowsOf encKey []) ty.el112 ty.ze3 rfl (by intro r hr;cases hr)) Z<|laO Z<|nG<|aS<|sL<|lf 1 ty.F34_1 Z<|loL ty.kd32 Z<|lnI ty.sl32 rfl ?_
 refine AL.slot 7 (int (d.dirty.length:Int)) (congrArg (fun n:Nat=>int (n:Int)) (rowsW_len _)) ?_
 refine lmI Z<|nG<|aB ?_
 refine aW [1,2,7] [2001,2002] (D:=Nat) (fun a=>[(8,int (a:Int)),(3,.own 2004)]) (fun a=>[(2004,kAr (List.replicate a 128))]) (fun a=>a≤d.dirty.length) (fun a=>d.dirty.length-a) (0) (Nat.zero_le _) ⟨rfl,rfl,trivial⟩ ⟨rfl,trivial⟩ ?_
 intro k hI
 have hkl:k≤d.dirty.length:=hI
 refine sL<|lbB Z<|nG<|aS ?_
 refine AW.cond rfl ?_ ?_
 ·intro h1
  refine aK<|gT<|aS<|aB ?_
  have hk:k<d.dirty.length:=by have h:=h1;simp only[decide_eq_true_eq]at h;omega
  refine aL<|lmO Z<|lst (zS 2011 (rowsOf encKey [128]) ty.el112 ty.ze3 rfl) Z<|lst (zP 2004 ty.el112 ty.ze3 ty.by3 rfl (Src.own rfl rfl) (by simp[rowsOf];omega)) Z<|laO Z<|lN<|gB<|gT<|aL<|lgI Z<|lmI Z<|nG ?_
  refine⟨(k+1),hk,by show d.dirty.length-(k+1)<d.dirty.length-k;omega,⟨(iq rfl),rfl,trivial⟩,⟨(Eq.trans (b:=AO.arr 3 1 (rowsOf encKey (List.replicate k 128)++rowsOf encKey [128])) rfl (congrArg (AO.arr 3 1) (by rw[←oapp,←List.replicate_succ']))),trivial⟩,rfl,rfl⟩
 ·intro h1
  refine aE<|eT<|eT<|eB<|gT<|aS ?_
  have hke:k=d.dirty.length:=by have h:=h1;simp only[decide_eq_false_iff_not]at h;omega
  refine aL<|loX (.agg [vL _ _ _,vL _ _ _]) ty.kd34 Z<|lmO Z ?_
  refine AL.freeze 2004 rfl ?_
  refine lst (zC [(1,1),(2,2)] [1,2] [] Try.func67 (sdiskCrash_o d (List.replicate k 128) hd) (trivial) Z Z) Z<|lT [2,16] [1,2,2001,2002] ?_
  refine lst (zB 2002 ty.co34 ty.inf34 Z) Z<|nG<|aR ?_
  rw[←diskC_sync hd,←hke]
  refine end_ret ?_ ⟨rfl,rfl,trivial⟩
  rfl
theorem sdiskCrash_f(d:Disk)(keep:List Int)(hd:diskOk d=true):GC Try.prog 67 [diskV d,inV keep] [] (diskV (diskC d keep)) []:=(sdiskCrash_o d keep hd).disk
theorem slogOpen_o(d:Disk)(hb:DkB d):GC Try.prog 26 [diskV d] [] (.tup [.agg [.own 1,.own 2,int (lgOpL d).next,int (lgOpL d).epoch],.own 3,int (lgOpC d)]) (obFL (lgOpL d).disk (lgOpE d)):=by
 refine GC.intro (rs:=[.cell 2 36 (some 4),.tmp 3,.tmp 4]) Try.func26 rfl Try.ntmps26 (Nat.le_of_ble_eq_true rfl) ⟨rfl,rfl,ty.kd36,rfl,rfl,trivial⟩ ?_
 intro L O w0
 refine sL<|lst (zX 2001 Z) Z<|lst (zA 2002 ty.ze36 Z) Z<|laV Z<|laI Z<|nG<|aS<|sL<|loX (.agg [vL _ _ _,vL _ _ _]) ty.kd34 Z<|lst (zC [] [] [] Try.func41 (sdiskOk_e d) (trivial) Z Z) Z<|luB Z<|lmB Z ?_
 refine AL.bool (t:=15) rfl ?_ ?_
 ·intro h1
  refine lno Z<|lno Z<|lno Z<|lno Z<|lkT Z<|nG<|aY Z<|sL<|lq (rd (x:=.agg [vV _,vV _,vI _ _,vI _ _]) (rd_build Z ty.sa36 Z Z Z) Z)<|lst (zB 2002 ty.co36 ty.inf36 Z) Z<|laV Z<|laI Z<|nG ?_
  refine AW.adoptB 1 2002 0 115 1 rfl (by decide) rfl ?_
  refine AW.adoptB 2 2002 1 123 2 rfl (by decide) rfl ?_
  refine AW.adoptT 3 3 40 7 rfl ?_
  refine aR<|rT ?_
  have hc:lgOpC d=1:=lg1 (by first|exact .inl (by simpa using h1)|exact .inr (by have h:=h1;simp only[gt_iff_lt,decide_eq_true_eq]at h;omega))
  have hL:=lgL_n (d:=d) (by rw[hc];decide)
  have hE:=lgE_n (d:=d) (by rw[hc];decide)
  rw[hc,hL,hE]
  refine end_ret ?_ ⟨rfl,rfl,rfl,trivial⟩
  rfl
 ·intro h1
  refine lf 1 ty.F34_1 Z<|loL ty.kd32 Z<|lnI ty.sl32 Z ?_
  refine AL.slot 18 (int (d.dirty.length:Int)) (congrArg (fun n:Nat=>int (n:Int)) (rowsW_len _)) ?_
  refine lbB Z<|lkB Z<|nG ?_
  refine AW.cond rfl ?_ ?_
  ·intro h2
   refine sL<|lq (rd (x:=.agg [vV _,vV _,vI _ _,vI _ _]) (rd_build Z ty.sa36 Z Z Z) Z)<|lst (zB 2002 ty.co36 ty.inf36 Z) Z<|lT [1,2,3,4] [2001,2002] ?_
   refine laV Z<|laI Z<|nG ?_
   refine AW.adoptB 1 2002 0 115 1 rfl (by decide) rfl ?_
   refine AW.adoptB 2 2002 1 123 2 rfl (by decide) rfl ?_
   refine AW.adoptT 3 3 40 7 rfl ?_
   refine aR<|rT ?_
   have hc:lgOpC d=1:=lg1 (by first|exact .inl (by simpa using h2)|exact .inr (by have h:=h2;simp only[gt_iff_lt,decide_eq_true_eq]at h;omega)|exact .inl (by simpa using h1)|exact .inr (by have h:=h1;simp only[gt_iff_lt,decide_eq_true_eq]at h;omega))
   have hL:=lgL_n (d:=d) (by rw[hc];decide)
   have hE:=lgE_n (d:=d) (by rw[hc];decide)
   rw[hc,hL,hE]
   refine end_ret ?_ ⟨rfl,rfl,rfl,trivial⟩
   rfl
  ·intro h2
   refine aK<|gT<|aS ?_
   have hd:diskOk d=true:=by first|(have h:=h2;simpa using h;done)|(have h:=h1;simpa using h;done)
   have hw0:d.dirty.length=0:=by first|(have h:=h2;simp only[gt_iff_lt,decide_eq_false_iff_not]at h;omega;done)|(have h:=h1;simp only[gt_iff_lt,decide_eq_false_iff_not]at h;omega;done)
   have hle:=logR_le hd
   have hsz:=(dok_iff hd).1
   obtain⟨ht0,ht1⟩:=logTop_bd d
   refine aL<|loX (.agg [vL _ _ _,vL _ _ _]) ty.kd34 Z<|lst (zC [] [] [] Try.func32 (slogRead_e d hb) (trivial) Z Z) Z<|lmX (.tup [vL _ _ _,vI _ _]) Z<|lxL Z<|lxI Z<|laL Z<|laI Z<|nA<|loX (.agg [vL _ _ _,vL _ _ _]) ty.kd34 Z<|lst (zC [] [] [] Try.func33 (slogTop_e d hb) (trivial) Z Z) Z<|laI Z<|nG<|aS<|sL<|lmI Z<|lf 0 ty.F34_0 Z<|loL ty.kd31 Z<|lnI ty.sl31 Z ?_
   refine AL.slot 32 (int (d.cells.length:Int)) (congrArg (fun n:Nat=>int (n:Int)) (rowsC_len _)) ?_
   refine lbB Z<|lmB Z ?_
   refine AL.bool (t:=34) rfl ?_ ?_
   ·intro h3
    refine lno Z<|lno Z<|lkT Z<|nG<|aY Z<|sL<|lq (rd (x:=.agg [vV _,vV _,vI _ _,vI _ _]) (rd_build Z ty.sa36 Z Z Z) Z)<|lst (zB 2002 ty.co36 ty.inf36 Z) Z<|lT [1,2,3,4,6,7] [2001,2002] ?_
    refine laV Z<|laI Z<|nG ?_
    refine AW.adoptB 1 2002 0 115 1 rfl (by decide) rfl ?_
    refine AW.adoptB 2 2002 1 123 2 rfl (by decide) rfl ?_
    refine AW.adoptT 3 3 40 7 rfl ?_
    refine aR<|rT ?_
    have hc:lgOpC d=2:=lg2 hd hw0 (by first|exact .inl (by have h:=h3;simp only[decide_eq_true_eq]at h;omega)|exact .inr (by have h:=h3;simp only[decide_eq_true_eq]at h;omega)|exact .inl (by have h:=h2;simp only[decide_eq_true_eq]at h;omega)|exact .inr (by have h:=h2;simp only[decide_eq_true_eq]at h;omega)|exact .inl (by have h:=h1;simp only[decide_eq_true_eq]at h;omega)|exact .inr (by have h:=h1;simp only[decide_eq_true_eq]at h;omega))
    have hL:=lgL_n (d:=d) (by rw[hc];decide)
    have hE:=lgE_n (d:=d) (by rw[hc];decide)
    rw[hc,hL,hE]
    refine end_ret ?_ ⟨rfl,rfl,rfl,trivial⟩
    rfl
   ·intro h3
    refine lmI Z<|lbB Z<|lkB Z<|nG ?_
    refine AW.cond rfl ?_ ?_
    ·intro h4
     refine sL<|lq (rd (x:=.agg [vV _,vV _,vI _ _,vI _ _]) (rd_build Z ty.sa36 Z Z Z) Z)<|lst (zB 2002 ty.co36 ty.inf36 Z) Z<|laV Z<|laI Z<|nG ?_
     refine AW.adoptB 1 2002 0 115 1 rfl (by decide) rfl ?_
     refine AW.adoptB 2 2002 1 123 2 rfl (by decide) rfl ?_
     refine AW.adoptT 3 3 40 7 rfl ?_
     refine aR<|rT ?_
     have hc:lgOpC d=2:=lg2 hd hw0 (by first|exact .inl (by have h:=h4;simp only[decide_eq_true_eq]at h;omega)|exact .inr (by have h:=h4;simp only[decide_eq_true_eq]at h;omega)|exact .inl (by have h:=h3;simp only[decide_eq_true_eq]at h;omega)|exact .inr (by have h:=h3;simp only[decide_eq_true_eq]at h;omega)|exact .inl (by have h:=h2;simp only[decide_eq_true_eq]at h;omega)|exact .inr (by have h:=h2;simp only[decide_eq_true_eq]at h;omega)|exact .inl (by have h:=h1;simp only[decide_eq_true_eq]at h;omega)|exact .inr (by have h:=h1;simp only[decide_eq_true_eq]at h;omega))
     have hL:=lgL_n (d:=d) (by rw[hc];decide)
     have hE:=lgE_n (d:=d) (by rw[hc];decide)
     rw[hc,hL,hE]
     refine end_ret ?_ ⟨rfl,rfl,rfl,trivial⟩
     rfl
    ·intro h4
     refine aK<|gT<|aS ?_
     have hn:¬((logR d).length=d.cells.length∨16000000≤logTop d):=by
      have h1:=h3
      have h2:=h4
      simp only[decide_eq_false_iff_not]at h1 h2
      omega
     have hlt:(logR d).length<d.cells.length:=by omega
     have hS:=bSec hd hlt (by omega)
     have hBl:(secB ⟨(logR d).length,logTop d+1,[66]⟩).length=128:=secB_length (Nat.le_of_ble_eq_true rfl)
     refine aL<|lmI Z<|lmI Z<|lgI Z<|lst (zS 2043 (rowsOf encU [66]) ty.el56 ty.ze5 Z) Z<|lq (rd (x:=.agg [vI _ _,vI _ _,.own _]) (rd_build Z ty.sa92 Z Z Z) Z) ?_
     refine AL.freeze 2043 rfl ?_
     refine lst (zC [] [] [] Try.func44 (ssectorBytes_e (⟨(logR d).length,logTop d+1,[66]⟩:Sector)) (trivial) rfl rfl) rfl ?_
     refine AL.slot 45 (.tup [byV (secB (⟨(logR d).length,logTop d+1,[66]⟩:Sector)),boo true]) (Eq.trans (b:=AV.tup [byV (secX (⟨(logR d).length,logTop d+1,[66]⟩:Sector)),boo (secOk (⟨(logR d).length,logTop d+1,[66]⟩:Sector))]) rfl (by rw[secX_y hS,hS])) ?_
     refine lT [1,2,3,4,6,7,45] [2001,2002] ?_
     refine lmX (.tup [vL _ _ _,vB _]) Z<|lxL Z<|lxB Z<|laL Z<|laB Z<|nA<|loX (.agg [vL _ _ _,vL _ _ _]) ty.kd34 Z<|lmI Z<|lmL Z ?_
     refine lst (zC [] [] [] Try.func45 (sdiskWrite_f d (logR d).length (secB (⟨(logR d).length,logTop d+1,[66]⟩:Sector)) hd hlt (by omega) hBl) (trivial) rfl rfl) Z<|lmX (.tup [.agg [vL _ _ _,vL _ _ _],vB _]) Z<|lxX (.agg [vL _ _ _,vL _ _ _]) Z<|lxB Z<|lst (zA 2010 ty.ze34 rfl) Z<|lst (zB 2010 ty.co34 ty.inf34 rfl) Z<|lT [1,2,3,4,6,7,10,54] [2001,2002,2010] ?_
     refine laB Z<|nG<|aS<|aF [9]<|sq 0 (roX (.agg [vL _ _ _,vL _ _ _]) ty.kd34 rfl)<|pq 2 (qmX (vI _ _) rfl)<|sq 3 (rgI rfl (by unfold i64;omega))<|pq 4 (qmX (vI _ _) rfl)<|sq 5 (rgI rfl (by unfold i64;omega))<|sq 7 (roX (.agg [vL _ _ _,vL _ _ _]) ty.kd34 rfl) ?_
     refine vst 1 rfl (zC [(1,1),(2,2)] [1,2] [] Try.func64 (sdiskSync_o (diskW d (logR d).length (secB ⟨(logR d).length,logTop d+1,[66]⟩)) (dok_diskW hd hlt (by omega) hBl)) (trivial) rfl rfl) (.inr rfl)<|sq 6 (rd (x:=.agg [.own _,.own _,vI _ _,vI _ _]) (rd_build rfl ty.sa36 rfl rfl rfl) rfl)<|vst 8 rfl (zC [(1,3)] [3] [] Try.func18 (slogEvents_o d hb) (trivial) rfl rfl) (.inr rfl)<|vst 9 rfl (zB 2002 ty.co36 ty.inf36 rfl) (.inl rfl)<|vq 10 (raO rfl)<|vq 11 (raI rfl)<|fD<|gT<|aR ?_
     have hc:lgOpC d=0:=lg0 hd hw0 hn
     have hL:=lgL_y hc
     have hE:=lgE_y hc
     rw[hc,hL,hE]
     refine end_ret ?_ ⟨rfl,rfl,rfl,trivial⟩
     rfl
theorem inB_n{n a b:Int}(h:¬(a≤n∧n≤b)):inB n a b=false:=Bool.eq_false_iff.2 fun q=>h (inB_iff.1 q)
theorem slogAdd_o(l:Log)(e:Event):GC Try.prog 10 [logV l,evV e] [] (.tup [.agg [.own 1,.own 2,int (lgAddL l e).next,int (lgAddL l e).epoch],int (lgAddC l e)]) (obF (lgAddL l e).disk):=by
 refine GC.intro (rs:=[.cell 4 36 (some 4),.tmp 5]) Try.func10 rfl Try.ntmps10 (Nat.le_of_ble_eq_true rfl) ⟨rfl,rfl,ty.kd36,rfl,trivial⟩ ?_
 intro L O w0
 refine sL<|lst (zX 2002 Z) Z<|lst (zX 2003 Z) Z<|lst (zA 2004 ty.ze36 Z) Z<|laI Z<|nG<|aS<|sL<|lf 0 ty.F36_0 Z<|loX (.agg [vL _ _ _,vL _ _ _]) ty.kd34 Z<|lst (zC [] [] [] Try.func41 (sdiskOk_e l.disk) (trivial) Z Z) Z<|luB Z<|lmB Z ?_
 refine AL.bool (t:=16) rfl ?_ ?_
 ·intro h1
  refine lno Z<|lno Z<|lno Z<|lkT Z<|lmT Z<|lno Z<|lno Z<|lno Z<|lno Z<|lno Z<|lno Z<|lno Z<|lkT Z<|lmT Z<|lno Z<|lno Z<|lno Z<|lkT Z<|lmT Z<|lno Z<|lno Z<|lno Z<|lkT Z<|lmT Z<|lno Z<|lno Z<|lno Z<|lkT Z<|nG ?_
  refine aY Z<|sL<|lq (rd (x:=.agg [vV _,vV _,vI _ _,vI _ _]) (rd_build Z ty.sa36 Z Z Z) Z)<|lst (zB 2004 ty.co36 ty.inf36 Z) Z<|lT [2,3,4,5] [2002,2003,2004] ?_
  refine laI Z<|nG ?_
  refine AW.adoptB 1 2004 0 115 1 rfl (by decide) rfl ?_
  refine AW.adoptB 2 2004 1 123 2 rfl (by decide) rfl ?_
  refine aR<|rT ?_
  have hc:lgAddC l e=1:=ad1 (by first|exact .inl (by simpa using h1)|exact .inr (.inl (inB_n (by have h:=h1;simp only[gt_iff_lt,decide_eq_true_eq]at h;omega)))|exact .inr (.inr (.inl (inB_n (by have h:=h1;simp only[gt_iff_lt,decide_eq_true_eq]at h;omega))))|exact .inr (.inr (.inr (by simpa using h1))))
  have hL:=adL_n (l:=l) (e:=e) (by rw[hc];decide)
  rw[hc,hL]
  refine end_ret ?_ ⟨rfl,rfl,trivial⟩
  rfl
 ·intro h1
  refine lf 2 ty.F36_1 Z<|loI ty.kd3 Z<|lbB Z<|lkB Z<|lmB Z ?_
  refine AL.bool (t:=21) rfl ?_ ?_
  ·intro h2
   refine lno Z<|lno Z<|lno Z<|lno Z<|lno Z<|lno Z<|lno Z<|lkT Z<|lmT Z<|lno Z<|lno Z<|lno Z<|lkT Z<|lmT Z<|lno Z<|lno Z<|lno Z<|lkT Z<|lmT Z<|lno Z<|lno Z<|lno Z<|lkT Z<|nG<|aY Z<|sL<|lq (rd (x:=.agg [vV _,vV _,vI _ _,vI _ _]) (rd_build Z ty.sa36 Z Z Z) Z)<|lst (zB 2004 ty.co36 ty.inf36 Z) Z ?_
   refine lT [2,3,4,5] [2002,2003,2004] ?_
   refine laI Z<|nG ?_
   refine AW.adoptB 1 2004 0 115 1 rfl (by decide) rfl ?_
   refine AW.adoptB 2 2004 1 123 2 rfl (by decide) rfl ?_
   refine aR<|rT ?_
   have hc:lgAddC l e=1:=ad1 (by first|exact .inl (by simpa using h2)|exact .inr (.inl (inB_n (by have h:=h2;simp only[gt_iff_lt,decide_eq_true_eq]at h;omega)))|exact .inr (.inr (.inl (inB_n (by have h:=h2;simp only[gt_iff_lt,decide_eq_true_eq]at h;omega))))|exact .inr (.inr (.inr (by simpa using h2)))|exact .inl (by simpa using h1)|exact .inr (.inl (inB_n (by have h:=h1;simp only[gt_iff_lt,decide_eq_true_eq]at h;omega)))|exact .inr (.inr (.inl (inB_n (by have h:=h1;simp only[gt_iff_lt,decide_eq_true_eq]at h;omega))))|exact .inr (.inr (.inr (by simpa using h1))))
   have hL:=adL_n (l:=l) (e:=e) (by rw[hc];decide)
   rw[hc,hL]
   refine end_ret ?_ ⟨rfl,rfl,trivial⟩
   rfl
  ·intro h2
   refine lf 2 ty.F36_1 Z<|loI ty.kd3 Z<|lf 0 ty.F36_0 Z<|lf 0 ty.F34_0 Z<|loL ty.kd31 Z<|lnI ty.sl31 Z ?_
   refine AL.slot 27 (int (l.disk.cells.length:Int)) (congrArg (fun n:Nat=>int (n:Int)) (rowsC_len _)) ?_
   refine lbB Z<|lkB Z<|lmB Z ?_
   refine AL.bool (t:=30) rfl ?_ ?_
   ·intro h3
    refine lno Z<|lno Z<|lno Z<|lkT Z<|lmT Z<|lno Z<|lno Z<|lno Z<|lkT Z<|lmT Z<|lno Z<|lno Z<|lno Z<|lkT Z<|nG<|aY Z<|sL<|lq (rd (x:=.agg [vV _,vV _,vI _ _,vI _ _]) (rd_build Z ty.sa36 Z Z Z) Z)<|lst (zB 2004 ty.co36 ty.inf36 Z) Z<|lT [2,3,4,5] [2002,2003,2004] ?_
    refine laI Z<|nG ?_
    refine AW.adoptB 1 2004 0 115 1 rfl (by decide) rfl ?_
    refine AW.adoptB 2 2004 1 123 2 rfl (by decide) rfl ?_
    refine aR<|rT ?_
    have hc:lgAddC l e=1:=ad1 (by first|exact .inl (by simpa using h3)|exact .inr (.inl (inB_n (by have h:=h3;simp only[gt_iff_lt,decide_eq_true_eq]at h;omega)))|exact .inr (.inr (.inl (inB_n (by have h:=h3;simp only[gt_iff_lt,decide_eq_true_eq]at h;omega))))|exact .inr (.inr (.inr (by simpa using h3)))|exact .inl (by simpa using h2)|exact .inr (.inl (inB_n (by have h:=h2;simp only[gt_iff_lt,decide_eq_true_eq]at h;omega)))|exact .inr (.inr (.inl (inB_n (by have h:=h2;simp only[gt_iff_lt,decide_eq_true_eq]at h;omega))))|exact .inr (.inr (.inr (by simpa using h2)))|exact .inl (by simpa using h1)|exact .inr (.inl (inB_n (by have h:=h1;simp only[gt_iff_lt,decide_eq_true_eq]at h;omega)))|exact .inr (.inr (.inl (inB_n (by have h:=h1;simp only[gt_iff_lt,decide_eq_true_eq]at h;omega))))|exact .inr (.inr (.inr (by simpa using h1))))
    have hL:=adL_n (l:=l) (e:=e) (by rw[hc];decide)
    rw[hc,hL]
    refine end_ret ?_ ⟨rfl,rfl,trivial⟩
    rfl
   ·intro h3
    refine lf 3 ty.F36_2 Z<|loI ty.kd3 Z<|lbB Z<|lkB Z<|lmB Z ?_
    refine AL.bool (t:=35) rfl ?_ ?_
    ·intro h4
     refine lno Z<|lno Z<|lno Z<|lkT Z<|lmT Z<|lno Z<|lno Z<|lno Z<|lkT Z<|nG<|aY Z<|sL<|lq (rd (x:=.agg [vV _,vV _,vI _ _,vI _ _]) (rd_build Z ty.sa36 Z Z Z) Z)<|lst (zB 2004 ty.co36 ty.inf36 Z) Z<|laI Z<|nG ?_
     refine AW.adoptB 1 2004 0 115 1 rfl (by decide) rfl ?_
     refine AW.adoptB 2 2004 1 123 2 rfl (by decide) rfl ?_
     refine aR<|rT ?_
     have hc:lgAddC l e=1:=ad1 (by first|exact .inl (by simpa using h4)|exact .inr (.inl (inB_n (by have h:=h4;simp only[gt_iff_lt,decide_eq_true_eq]at h;omega)))|exact .inr (.inr (.inl (inB_n (by have h:=h4;simp only[gt_iff_lt,decide_eq_true_eq]at h;omega))))|exact .inr (.inr (.inr (by simpa using h4)))|exact .inl (by simpa using h3)|exact .inr (.inl (inB_n (by have h:=h3;simp only[gt_iff_lt,decide_eq_true_eq]at h;omega)))|exact .inr (.inr (.inl (inB_n (by have h:=h3;simp only[gt_iff_lt,decide_eq_true_eq]at h;omega))))|exact .inr (.inr (.inr (by simpa using h3)))|exact .inl (by simpa using h2)|exact .inr (.inl (inB_n (by have h:=h2;simp only[gt_iff_lt,decide_eq_true_eq]at h;omega)))|exact .inr (.inr (.inl (inB_n (by have h:=h2;simp only[gt_iff_lt,decide_eq_true_eq]at h;omega))))|exact .inr (.inr (.inr (by simpa using h2)))|exact .inl (by simpa using h1)|exact .inr (.inl (inB_n (by have h:=h1;simp only[gt_iff_lt,decide_eq_true_eq]at h;omega)))|exact .inr (.inr (.inl (inB_n (by have h:=h1;simp only[gt_iff_lt,decide_eq_true_eq]at h;omega))))|exact .inr (.inr (.inr (by simpa using h1))))
     have hL:=adL_n (l:=l) (e:=e) (by rw[hc];decide)
     rw[hc,hL]
     refine end_ret ?_ ⟨rfl,rfl,trivial⟩
     rfl
    ·intro h4
     refine lf 3 ty.F36_2 Z<|loI ty.kd3 Z<|lbB Z<|lkB Z<|lmB Z ?_
     refine AL.bool (t:=40) rfl ?_ ?_
     ·intro h5
      refine lno Z<|lno Z<|lno Z<|lkT Z<|nG<|aY Z<|sL<|lq (rd (x:=.agg [vV _,vV _,vI _ _,vI _ _]) (rd_build Z ty.sa36 Z Z Z) Z)<|lst (zB 2004 ty.co36 ty.inf36 Z) Z<|lT [2,3,4,5] [2002,2003,2004] ?_
      refine laI Z<|nG ?_
      refine AW.adoptB 1 2004 0 115 1 rfl (by decide) rfl ?_
      refine AW.adoptB 2 2004 1 123 2 rfl (by decide) rfl ?_
      refine aR<|rT ?_
      have hc:lgAddC l e=1:=ad1 (by first|exact .inl (by simpa using h5)|exact .inr (.inl (inB_n (by have h:=h5;simp only[gt_iff_lt,decide_eq_true_eq]at h;omega)))|exact .inr (.inr (.inl (inB_n (by have h:=h5;simp only[gt_iff_lt,decide_eq_true_eq]at h;omega))))|exact .inr (.inr (.inr (by simpa using h5)))|exact .inl (by simpa using h4)|exact .inr (.inl (inB_n (by have h:=h4;simp only[gt_iff_lt,decide_eq_true_eq]at h;omega)))|exact .inr (.inr (.inl (inB_n (by have h:=h4;simp only[gt_iff_lt,decide_eq_true_eq]at h;omega))))|exact .inr (.inr (.inr (by simpa using h4)))|exact .inl (by simpa using h3)|exact .inr (.inl (inB_n (by have h:=h3;simp only[gt_iff_lt,decide_eq_true_eq]at h;omega)))|exact .inr (.inr (.inl (inB_n (by have h:=h3;simp only[gt_iff_lt,decide_eq_true_eq]at h;omega))))|exact .inr (.inr (.inr (by simpa using h3)))|exact .inl (by simpa using h2)|exact .inr (.inl (inB_n (by have h:=h2;simp only[gt_iff_lt,decide_eq_true_eq]at h;omega)))|exact .inr (.inr (.inl (inB_n (by have h:=h2;simp only[gt_iff_lt,decide_eq_true_eq]at h;omega))))|exact .inr (.inr (.inr (by simpa using h2)))|exact .inl (by simpa using h1)|exact .inr (.inl (inB_n (by have h:=h1;simp only[gt_iff_lt,decide_eq_true_eq]at h;omega)))|exact .inr (.inr (.inl (inB_n (by have h:=h1;simp only[gt_iff_lt,decide_eq_true_eq]at h;omega))))|exact .inr (.inr (.inr (by simpa using h1))))
      have hL:=adL_n (l:=l) (e:=e) (by rw[hc];decide)
      rw[hc,hL]
      refine end_ret ?_ ⟨rfl,rfl,trivial⟩
      rfl
     ·intro h5
      refine loX (.agg [vI _ _,vI _ _,vI _ _,vI _ _,vI _ _,vI _ _,vB _]) ty.kd40 Z<|lst (zC [] [] [] Try.func42 (seventOk_e e) (trivial) Z Z) Z<|luB Z<|lkB Z<|nG ?_
      refine AW.cond rfl ?_ ?_
      ·intro h6
       refine sL<|lq (rd (x:=.agg [vV _,vV _,vI _ _,vI _ _]) (rd_build Z ty.sa36 Z Z Z) Z)<|lst (zB 2004 ty.co36 ty.inf36 Z) Z<|laI Z<|nG ?_
       refine AW.adoptB 1 2004 0 115 1 rfl (by decide) rfl ?_
       refine AW.adoptB 2 2004 1 123 2 rfl (by decide) rfl ?_
       refine aR<|rT ?_
       have hc:lgAddC l e=1:=ad1 (by first|exact .inl (by simpa using h6)|exact .inr (.inl (inB_n (by have h:=h6;simp only[gt_iff_lt,decide_eq_true_eq]at h;omega)))|exact .inr (.inr (.inl (inB_n (by have h:=h6;simp only[gt_iff_lt,decide_eq_true_eq]at h;omega))))|exact .inr (.inr (.inr (by simpa using h6)))|exact .inl (by simpa using h5)|exact .inr (.inl (inB_n (by have h:=h5;simp only[gt_iff_lt,decide_eq_true_eq]at h;omega)))|exact .inr (.inr (.inl (inB_n (by have h:=h5;simp only[gt_iff_lt,decide_eq_true_eq]at h;omega))))|exact .inr (.inr (.inr (by simpa using h5)))|exact .inl (by simpa using h4)|exact .inr (.inl (inB_n (by have h:=h4;simp only[gt_iff_lt,decide_eq_true_eq]at h;omega)))|exact .inr (.inr (.inl (inB_n (by have h:=h4;simp only[gt_iff_lt,decide_eq_true_eq]at h;omega))))|exact .inr (.inr (.inr (by simpa using h4)))|exact .inl (by simpa using h3)|exact .inr (.inl (inB_n (by have h:=h3;simp only[gt_iff_lt,decide_eq_true_eq]at h;omega)))|exact .inr (.inr (.inl (inB_n (by have h:=h3;simp only[gt_iff_lt,decide_eq_true_eq]at h;omega))))|exact .inr (.inr (.inr (by simpa using h3)))|exact .inl (by simpa using h2)|exact .inr (.inl (inB_n (by have h:=h2;simp only[gt_iff_lt,decide_eq_true_eq]at h;omega)))|exact .inr (.inr (.inl (inB_n (by have h:=h2;simp only[gt_iff_lt,decide_eq_true_eq]at h;omega))))|exact .inr (.inr (.inr (by simpa using h2)))|exact .inl (by simpa using h1)|exact .inr (.inl (inB_n (by have h:=h1;simp only[gt_iff_lt,decide_eq_true_eq]at h;omega)))|exact .inr (.inr (.inl (inB_n (by have h:=h1;simp only[gt_iff_lt,decide_eq_true_eq]at h;omega))))|exact .inr (.inr (.inr (by simpa using h1))))
       have hL:=adL_n (l:=l) (e:=e) (by rw[hc];decide)
       rw[hc,hL]
       refine end_ret ?_ ⟨rfl,rfl,trivial⟩
       rfl
      ·intro h6
       refine aK<|gT<|aS<|aS ?_
       have hd:diskOk l.disk=true:=by first|(have h:=h6;simpa using h;done)|(have h:=h5;simpa using h;done)|(have h:=h4;simpa using h;done)|(have h:=h3;simpa using h;done)|(have h:=h2;simpa using h;done)|(have h:=h1;simpa using h;done)
       have hi:inB l.next 0 l.disk.cells.length=true:=inB_iff.2 (by
        have h1:=h2
        have h2:=h3
        simp only[decide_eq_false_iff_not]at h1 h2
        omega)
       have hp:inB l.epoch 1 16000000=true:=inB_iff.2 (by
        have h1:=h4
        have h2:=h5
        simp only[decide_eq_false_iff_not]at h1 h2
        omega)
       have he:eventOk e=true:=by first|(have h:=h6;simpa using h;done)|(have h:=h5;simpa using h;done)|(have h:=h4;simpa using h;done)|(have h:=h3;simpa using h;done)|(have h:=h2;simpa using h;done)|(have h:=h1;simpa using h;done)
       have hsz:=(dok_iff hd).1
       have hi2:=inB_iff.1 hi
       refine aL<|lf 2 ty.F36_1 Z<|loI ty.kd3 Z<|lf 0 ty.F36_0 Z<|lf 0 ty.F34_0 Z<|loL ty.kd31 Z<|lnI ty.sl31 Z ?_
       refine AL.slot 51 (int (l.disk.cells.length:Int)) (congrArg (fun n:Nat=>int (n:Int)) (rowsC_len _)) ?_
       refine lbB Z<|lmB Z ?_
       refine AL.bool (t:=53) rfl ?_ ?_
       ·intro h7
        refine lno Z<|lno Z<|lno Z<|lno Z<|lno Z<|lkT Z<|nG<|aY Z<|sL<|lq (rd (x:=.agg [vV _,vV _,vI _ _,vI _ _]) (rd_build Z ty.sa36 Z Z Z) Z)<|lst (zB 2004 ty.co36 ty.inf36 Z) Z<|lT [2,3,4,5] [2002,2003,2004] ?_
        refine laI Z<|nG ?_
        refine AW.adoptB 1 2004 0 115 1 rfl (by decide) rfl ?_
        refine AW.adoptB 2 2004 1 123 2 rfl (by decide) rfl ?_
        refine aR<|rT ?_
        have hc:lgAddC l e=2:=ad2 hd hi hp he (by first|exact .inl (by have h:=h7;simp only[decide_eq_true_eq]at h;omega)|exact .inr (by have h:=h7;simp only[ge_iff_le,decide_eq_true_eq]at h;omega)|exact .inl (by have h:=h6;simp only[decide_eq_true_eq]at h;omega)|exact .inr (by have h:=h6;simp only[ge_iff_le,decide_eq_true_eq]at h;omega)|exact .inl (by have h:=h5;simp only[decide_eq_true_eq]at h;omega)|exact .inr (by have h:=h5;simp only[ge_iff_le,decide_eq_true_eq]at h;omega)|exact .inl (by have h:=h4;simp only[decide_eq_true_eq]at h;omega)|exact .inr (by have h:=h4;simp only[ge_iff_le,decide_eq_true_eq]at h;omega)|exact .inl (by have h:=h3;simp only[decide_eq_true_eq]at h;omega)|exact .inr (by have h:=h3;simp only[ge_iff_le,decide_eq_true_eq]at h;omega)|exact .inl (by have h:=h2;simp only[decide_eq_true_eq]at h;omega)|exact .inr (by have h:=h2;simp only[ge_iff_le,decide_eq_true_eq]at h;omega)|exact .inl (by have h:=h1;simp only[decide_eq_true_eq]at h;omega)|exact .inr (by have h:=h1;simp only[ge_iff_le,decide_eq_true_eq]at h;omega))
        have hL:=adL_n (l:=l) (e:=e) (by rw[hc];decide)
        rw[hc,hL]
        refine end_ret ?_ ⟨rfl,rfl,trivial⟩
        rfl
       ·intro h7
        refine lf 0 ty.F36_0 Z<|lf 1 ty.F34_1 Z<|loL ty.kd32 Z<|lnI ty.sl32 Z ?_
        refine AL.slot 57 (int (l.disk.dirty.length:Int)) (congrArg (fun n:Nat=>int (n:Int)) (rowsW_len _)) ?_
        refine lbB Z<|lkB Z<|nG ?_
        refine AW.cond rfl ?_ ?_
        ·intro h8
         refine sL<|lq (rd (x:=.agg [vV _,vV _,vI _ _,vI _ _]) (rd_build Z ty.sa36 Z Z Z) Z)<|lst (zB 2004 ty.co36 ty.inf36 Z) Z<|laI Z<|nG ?_
         refine AW.adoptB 1 2004 0 115 1 rfl (by decide) rfl ?_
         refine AW.adoptB 2 2004 1 123 2 rfl (by decide) rfl ?_
         refine aR<|rT ?_
         have hc:lgAddC l e=2:=ad2 hd hi hp he (by first|exact .inl (by have h:=h8;simp only[decide_eq_true_eq]at h;omega)|exact .inr (by have h:=h8;simp only[ge_iff_le,decide_eq_true_eq]at h;omega)|exact .inl (by have h:=h7;simp only[decide_eq_true_eq]at h;omega)|exact .inr (by have h:=h7;simp only[ge_iff_le,decide_eq_true_eq]at h;omega)|exact .inl (by have h:=h6;simp only[decide_eq_true_eq]at h;omega)|exact .inr (by have h:=h6;simp only[ge_iff_le,decide_eq_true_eq]at h;omega)|exact .inl (by have h:=h5;simp only[decide_eq_true_eq]at h;omega)|exact .inr (by have h:=h5;simp only[ge_iff_le,decide_eq_true_eq]at h;omega)|exact .inl (by have h:=h4;simp only[decide_eq_true_eq]at h;omega)|exact .inr (by have h:=h4;simp only[ge_iff_le,decide_eq_true_eq]at h;omega)|exact .inl (by have h:=h3;simp only[decide_eq_true_eq]at h;omega)|exact .inr (by have h:=h3;simp only[ge_iff_le,decide_eq_true_eq]at h;omega)|exact .inl (by have h:=h2;simp only[decide_eq_true_eq]at h;omega)|exact .inr (by have h:=h2;simp only[ge_iff_le,decide_eq_true_eq]at h;omega)|exact .inl (by have h:=h1;simp only[decide_eq_true_eq]at h;omega)|exact .inr (by have h:=h1;simp only[ge_iff_le,decide_eq_true_eq]at h;omega))
         have hL:=adL_n (l:=l) (e:=e) (by rw[hc];decide)
         rw[hc,hL]
         refine end_ret ?_ ⟨rfl,rfl,trivial⟩
         rfl
        ·intro h8
         refine aK<|gT<|aS ?_
         have hn:¬(l.next=l.disk.cells.length∨600≤l.disk.dirty.length):=by
          have h1:=h7
          have h2:=h8
          simp only[ge_iff_le,decide_eq_false_iff_not]at h1 h2
          omega
         have hS:=adSec (e:=e) hd hi hp (by omega)
         have hBl:(secB (⟨l.next,l.epoch,evB e⟩:Sector)).length=128:=secB_length (by rw[show ((⟨l.next,l.epoch,evB e⟩:Sector)).body=evB e from rfl,evB_length];decide)
         refine aL<|loX (.agg [vI _ _,vI _ _,vI _ _,vI _ _,vI _ _,vI _ _,vB _]) ty.kd40 Z<|lst (zC [] [] [] Try.func43 (seventBody_e e) (trivial) Z Z) Z ?_
         refine AL.slot 63 (.tup [byV (evB e),boo true]) (Eq.trans (b:=AV.tup [byV (evX e),boo (eventOk e)]) rfl (by rw[evX_y he,he])) ?_
         refine lmX (.tup [vL _ _ _,vB _]) Z<|lxL Z<|lxB Z<|laL Z<|laB Z<|nA<|lf 2 ty.F36_1 Z<|loI ty.kd3 Z<|lf 3 ty.F36_2 Z<|loI ty.kd3 Z<|lmL Z<|lq (rd (x:=.agg [vI _ _,vI _ _,vL _ _ _]) (rd_build Z ty.sa92 Z Z Z) Z) ?_
         refine lst (zC [] [] [] Try.func44 (ssectorBytes_e (⟨l.next,l.epoch,evB e⟩:Sector)) (trivial) rfl rfl) rfl ?_
         refine AL.slot 73 (.tup [byV (secB (⟨l.next,l.epoch,evB e⟩:Sector)),boo true]) (Eq.trans (b:=AV.tup [byV (secX (⟨l.next,l.epoch,evB e⟩:Sector)),boo (secOk (⟨l.next,l.epoch,evB e⟩:Sector))]) rfl (by rw[secX_y hS,hS])) ?_
         refine lT [2,4,5,73] [2002,2003,2004] ?_
         refine lmX (.tup [vL _ _ _,vB _]) Z<|lxL Z<|lxB Z<|laL Z<|laB Z<|nA<|lf 0 ty.F36_0 Z<|loX (.agg [vL _ _ _,vL _ _ _]) ty.kd34 Z<|lf 2 ty.F36_1 Z<|loI ty.kd3 Z<|lsN 80 ((l.next.toNat:Nat):Int) rfl (by omega)<|lmL rfl ?_
         refine lst (zC [(1,1),(2,2)] [1,2] [] Try.func45 (sdiskWrite_o l.disk l.next.toNat (secB (⟨l.next,l.epoch,evB e⟩:Sector)) hd (by omega) (by omega) hBl) (trivial) rfl rfl) Z<|lmX (.tup [.agg [.own _,.own _],vB true]) Z<|lxX (.agg [.own _,.own _]) Z<|lxX (vB true) Z<|lst (zA 2010 ty.ze34 rfl) Z<|lT [2,4,5,10,83,84] [1,2,2002,2003,2004,2010] ?_
         refine lst (zB 2010 ty.co34 ty.inf34 Z) Z<|laT Z<|nA<|loX (.agg [.own _,.own _]) ty.kd34 Z<|lf 2 ty.F36_1 Z<|loI ty.kd3 Z<|lgI Z<|lf 3 ty.F36_2 Z<|loI ty.kd3 Z<|lq (rd (x:=.agg [.own _,.own _,vI _ _,vI _ _]) (rd_build Z ty.sa36 Z Z Z) Z)<|lst (zB 2004 ty.co36 ty.inf36 Z) Z<|laI Z<|nG<|aR ?_
         have hc:lgAddC l e=0:=ad0 hd hi hp he hn
         have hL:=adL_y hc
         rw[hc,hL]
         refine end_ret ?_ ⟨rfl,rfl,trivial⟩
         rfl
theorem slogSync_o(l:Log):GC Try.prog 113 [logV l] [] (.agg [.own 1,.own 2,int (lgSyL l).next,int (lgSyL l).epoch]) (obF (lgSyL l).disk):=by
 refine GC.intro (rs:=[.cell 2 36 (some 4)]) Try.func113 rfl Try.ntmps113 (Nat.le_of_ble_eq_true rfl) ⟨rfl,rfl,ty.kd36,trivial⟩ ?_
 intro L O w0
 refine sL<|lst (zX 2001 Z) Z<|lst (zA 2002 ty.ze36 Z) Z<|nG<|aS<|sL<|lf 0 ty.F36_0 Z<|loX (.agg [vL _ _ _,vL _ _ _]) ty.kd34 Z<|lst (zC [] [] [] Try.func41 (sdiskOk_e l.disk) (trivial) Z Z) Z<|luB Z<|nG ?_
 refine AW.cond rfl ?_ ?_
 ·intro h1
  refine sL<|lq (rd (x:=.agg [vV _,vV _,vI _ _,vI _ _]) (rd_build Z ty.sa36 Z Z Z) Z)<|lst (zB 2002 ty.co36 ty.inf36 Z) Z<|nG ?_
  refine AW.adoptB 1 2002 0 115 1 rfl (by decide) rfl ?_
  refine AW.adoptB 2 2002 1 123 2 rfl (by decide) rfl ?_
  refine aR<|rT ?_
  have hd:diskOk l.disk=false:=by first|(have h:=h1;simpa using h;done)
  rw[sy_n hd]
  refine end_ret ?_ ⟨rfl,rfl,trivial⟩
  rfl
 ·intro h1
  refine aK<|gT<|aS ?_
  have hd:diskOk l.disk=true:=by first|(have h:=h1;simpa using h;done)
  have hsz:=(dok_iff hd).1
  refine aF [8]<|pq 0 (qf 0 ty.F36_0 Z)<|sq 1 (roX (.agg [vL _ _ _,vL _ _ _]) ty.kd34 Z)<|pq 3 (qf 2 ty.F36_1 Z)<|sq 4 (roI ty.kd3 Z)<|pq 5 (qf 3 ty.F36_2 Z)<|sq 6 (roI ty.kd3 Z)<|vst 2 Z (zC [(1,1),(2,2)] [1,2] [] Try.func64 (sdiskSync_o l.disk hd) (trivial) Z Z) (.inr Z)<|fT [2,10,12,14] [1,2,2001,2002] ?_
  refine vq 7 (rd (x:=.agg [.own _,.own _,vI _ _,vI _ _]) (rd_build Z ty.sa36 Z Z Z) Z)<|vst 8 Z (zB 2002 ty.co36 ty.inf36 Z) (.inl Z)<|fD<|gT<|aR ?_
  rw[sy_y hd]
  refine end_ret ?_ ⟨rfl,rfl,trivial⟩
  rfl

theorem bits_and_le(x:Int)(m:Nat)(hm:m<9223372036854775808):0≤bits BinOp.and IntKind.i64 x (m:Int)∧bits BinOp.and IntKind.i64 x (m:Int)≤m:=by
 have h1:(BitVec.ofInt 64 x &&& BitVec.ofInt 64 (m:Int)).toNat≤m:=by
  rw[BitVec.toNat_and]
  have h2:(BitVec.ofInt 64 (m:Int)).toNat=m:=by
   rw[BitVec.toNat_ofInt]
   omega
  rw[h2]
  exact Nat.and_le_right
 have h3:bits BinOp.and IntKind.i64 x (m:Int)=IntKind.i64.wrap ((BitVec.ofInt 64 x &&& BitVec.ofInt 64 (m:Int)).toNat:Int):=rfl
 rw[h3]
 generalize (BitVec.ofInt 64 x &&& BitVec.ofInt 64 (m:Int)).toNat=z at *
 have h4:IntKind.i64.wrap (z:Int)=z:=by
  simp[IntKind.wrap,IntKind.bits,IntKind.signed]
  omega
 rw[h4]
 omega
abbrev encU8(b:Int):List Value:=[.int .u8 b]
abbrev curO(g:Value)(code:List Int)(i:Nat)(h:Int):AO:=.box 160 (some g) [.p (.lst 5 1 (rowsOf encU8 code)),int (i:Int),int h]
def CurOk(code:List Int)(i:Nat):Prop:=i≤code.length∧code.length≤1048576
def DrR(g:Value)(code:List Int)(R:AV→Prop):AV→List (Nat×AO)→Prop:=fun x ob=>∃i h,CurOk code i∧R x∧ob=[(0,curO g code i h)]
def DrI(R:Int→Prop):AV→Prop:=fun x=>∃n,R n∧x=int n
theorem pins_cur{g:Value}{code:List Int}{i:Nat}{h:Int}{R:AV→Prop}:∀x ob1,DrR g code R x ob1→pins [(0,curO g code i h)] ob1 [0]:=fun x ob1 ⟨_,_,_,_,e⟩=>by
 subst e
 exact⟨stays.box (Eq.refl 3),trivial⟩
theorem and_bd(x:Int)(m:Nat)(hm:m<9223372036854775808):0≤bits .and .i64 x (m:Int)∧bits .and .i64 x (m:Int)≤m:=bits_and_le x m hm
theorem tmod_bd{n m:Int}(h0:0≤n)(hm:1≤m):0≤n.tmod m∧n.tmod m<m:=⟨Int.tmod_nonneg _ h0,Int.tmod_lt_of_pos _ (by omega)⟩
end Go.Proofs.Yteblcdnhnckkaaa

