/- Texts of the proof of FnFnOpen, joined: EO8, EO9, EA5, EA6, ES1. -/
import Derived.Test.YteblcdnhnckkaaaJFnOpen7
import Derived.Test.YteblcdnhnckkaaaJFnOpen5
import Derived.Test.YteblcdnhnckkaaaJFnOpen3
namespace Go.Proofs.Yteblcdnhnckkaaa
open Go.RowKit
set_option maxHeartbeats 16000000
set_option maxRecDepth 100000
set_option linter.unusedSimpArgs false
set_option linter.unusedVariables false
abbrev uAr(v:Value)(b:List Int):AO:=.arr ⟨5,some v⟩ 1 (rowsOf encU b)
theorem famC_succ{vs:List Value}{u:Value}{cs:List Cell}{k:Nat}(hk:k<cs.length)(hv:vs.length=k):famB (vs++[u]) (byC (cs.take (k+1)))=famB vs (byC (cs.take k))++[uAr u cs[k].bytes]:=by
 rw[List.take_succ_eq_append_getElem hk,byC,List.map_append]
 exact famB_app (by rw[List.length_map,List.length_take];omega)
theorem famW_succ{A:List AO}{vs:List Value}{u:Value}{cs:List Write}{k:Nat}(hk:k<cs.length)(hv:vs.length=k):A++famB (vs++[u]) (byW (cs.take (k+1)))=A++famB vs (byW (cs.take k))++[uAr u cs[k].bytes]:=by
 rw[List.take_succ_eq_append_getElem hk,byW,List.map_append,List.append_assoc]
 exact congrArg (A++·) (famB_app (by rw[List.length_map,List.length_take];omega))
theorem rowsWV_succ{vs:List Value}{u:Value}{cs:List Write}{k:Nat}(hk:k<cs.length)(hv:vs.length=k):rowsWV vs (cs.take k)++[[.v (.int .i64 cs[k].at_),.v u]]=rowsWV (vs++[u]) (cs.take (k+1)):=by
 rw[List.take_succ_eq_append_getElem hk,rowsWV_app (by rw[List.length_take];omega)]
theorem rowsW_succ{cs:List Write}{k:Nat}(hk:k<cs.length):rowsW (cs.take k)++[[.v (.int .i64 cs[k].at_),lstB cs[k].bytes]]=rowsW (cs.take (k+1)):=by
 rw[List.take_succ_eq_append_getElem hk];unfold rowsW;rw[List.map_append];rfl
theorem wv_take_len{vs:List Value}{ws:List Write}{k:Nat}(hv:vs.length=k)(hk:k≤ws.length):(rowsWV vs (ws.take k)).length=k:=by rw[rowsWV_len (by rw[List.length_take];omega),List.length_take];omega
abbrev obC(vs:List Value)(d:Disk):List (Nat×AO):=[(1,.arr 115 1 (rowsCV vs)),(2,.arr 123 2 (rowsW d.dirty))]
def cellRel(d:Disk):AV→List (Nat×AO)→List AO→Prop:=fun y l1 F1=>∃vs:List Value,vs.length=d.cells.length∧y=oDisk∧l1=obC vs d∧F1=famB vs (byC d.cells)
structure DkS(d:Disk):Prop where
 lc:d.cells.length≤2000000
 lw:d.dirty.length≤2000000
 bc:∀c∈d.cells,c.bytes.length≤2000000
 bw:∀w∈d.dirty,w.bytes.length≤2000000
theorem dok_s{d:Disk}(h:diskOk d=true):DkS d:=⟨by have:=(dok_iff h).1;omega,by have:=(dok_iff h).1;omega,fun c hc=>by
 obtain⟨j,hj,rfl⟩:=List.getElem_of_mem hc
 have:=dok_c h hj;omega,fun c hc=>by
 obtain⟨j,hj,rfl⟩:=List.getElem_of_mem hc
 have:=dok_w h hj;omega⟩
theorem copyDisk_n(d:Disk)(hs:DkS d):GN Try.prog 78 [diskV d] [] ([]) (diskRel d):=by
 refine GN.intro (rs:=[.cell 2 34 (some 2)]) Try.func78 rfl Try.ntmps78 (Nat.le_of_ble_eq_true rfl) ⟨rfl,rfl,ty.kd34,trivial⟩ rfl ?_
 intro L O w0
 refine sL<|lst (zX 2001 Z) Z<|lst (zA 2002 ty.ze34 Z) Z<|nA<|lst (zA 2003 ty.ze34 Z) Z<|nG<|aS<|aS ?_
 refine AW.adoptB 1 2003 0 115 1 rfl (by decide) rfl ?_
 refine AW.adoptB 2 2003 1 123 2 rfl (by decide) rfl ?_
 refine aL<|lf 0 ty.F34_0 Z<|loL ty.kd31 Z<|lnI ty.sl31 Z ?_
 refine AL.slot 10 (int (d.cells.length:Int)) (congrArg (fun n:Nat=>int (n:Int)) (rowsC_len _)) ?_
 refine lmI Z<|nG<|aB ?_
 refine AW.loopT (D:=Nat×List Value) [(1,.ptr 2001 _ 0),(2,.ptr 2002 _ 0),(3,.ptr 2003 _ 0),(9,vL _ _ _),(10,vI _ _)] [(2,.arr _ _ _),(2001,.box _ _ [vL _ _ _,vL _ _ _]),(2002,.box _ _ [vV _,vV _]),(2003,.box _ _ [.own _,.own _])] (fun a=>[(11,int (a.1:Int))]) (fun a=>[(1,.arr 115 1 (rowsCV a.2))]) (fun a=>famB a.2 (byC (d.cells.take a.1))) (fun a=>a.1≤d.cells.length∧a.2.length=a.1) (fun a=>d.cells.length-a.1) ((0,[])) (⟨Nat.zero_le _,rfl⟩) ⟨rfl,trivial⟩ ⟨rfl,trivial⟩ ⟨rfl,rfl,rfl,rfl,rfl,trivial⟩ ⟨rfl,rfl,rfl,rfl,trivial⟩ (by rw[List.take_zero];exact tlp) ?_
 intro ⟨k,vs⟩ hI
 obtain⟨hkl,hvl⟩:=hI
 replace hkl:k≤d.cells.length:=hkl
 replace hvl:vs.length=k:=hvl
 have hfr:rowF (famB vs (byC (d.cells.take k))):=famB_row
 have hfl:(famB vs (byC (d.cells.take k))).length=k:=by rw[famB_len (by rw[List.length_map,List.length_take];omega),List.length_map,List.length_take];omega
 refine sL<|lbB Z<|nG<|aS ?_
 refine AW.cond rfl ?_ ?_
 ·intro h1
  refine aK<|gT<|aS<|aB<|aS ?_
  have hk:k<d.cells.length:=by have h:=h1;simp only[decide_eq_true_eq]at h;omega
  have hlc:=hs.lc
  refine aL<|li k ty.el31 Z (rowsC_at hk)<|lrX (.agg [vL _ _ _]) ty.kd115 Z<|lst (zA 2005 ty.ze115 Z) Z<|lst (zB 2005 ty.co115 ty.inf115 Z) Z<|nG<|aF [7,9]<|pq 0 (qf 0 ty.F34_0 Z)<|sq 1 (roO ty.kd31 Z)<|vq 2 (rf 0 ty.F115_0 Z)<|vq 3 (roL ty.kd56 Z) ?_
  refine AF.stx (i:=4) rfl (by kernel_rfl) (StX.callN (F:=famB vs (byC (d.cells.take k))) [] [] [] (famB vs (byC (d.cells.take k))).length Try.func99 (copyBytes_n d.cells[k].bytes (hs.bc _ (List.getElem_mem hk))) tlp List.drop_length List.take_length (Nat.le_refl _) (by first|(rw[List.length_append,hfl,hfl2];omega)|(rw[hfl];omega)|(rw[List.nil_append,famD_len hvl hul];omega)) (fun _ _ _ _=>trivial) rfl rfl) (.inr rfl) rfl ?_
  rintro _ _ ⟨xz2,oz2,Fz2,hz2,hF2,hM2,rfl,rfl⟩
  obtain⟨u1,rfl,rfl,rfl⟩:=hz2
  have hrf2:rowF (famB vs (byC (d.cells.take k))++[uAr u1 d.cells[k].bytes]):=rowF.app (by first|assumption|exact rowF.nil) hF2
  refine fTt ((famB vs (byC (d.cells.take k))++[uAr u1 d.cells[k].bytes])) [1,2,3,9,10,11,16,19] [1,2,2001,2002,2003,2005] ?_
  refine vq 5 (rd (x:=.agg [vV _]) (rd_build rfl ty.sa115 rfl rfl rfl) rfl)<|vst 6 rfl (zS 2021 [[.v u1]] ty.el31 ty.ze115 rfl (by intro r hr;simp at hr;subst hr;rfl)) (.inr rfl)<|vst 7 rfl (zP 1 ty.el31 ty.ze115 ty.by115 rfl (Src.own rfl rfl) (by first|(simp[rowsCV_len,rowsW_len];done)|(simp[rowsCV_len,rowsW_len];omega))) (.inl rfl)<|vq 8 (rf 0 ty.F34_0 rfl)<|vst 9 rfl (zB 2003 ty.co31 ty.inf31 rfl) (.inl rfl)<|fD<|gB<|gT<|aL<|lgI Z<|lmI Z<|nG ?_
  refine⟨(k+1,vs++[u1]),⟨hk,by rw[List.length_append,hvl];rfl⟩,by show d.cells.length-(k+1)<d.cells.length-k;omega,⟨(iq rfl),trivial⟩,⟨(congrArg (AO.arr 115 1) rowsCV_app.symm),trivial⟩,⟨rfl,rfl,rfl,rfl,rfl,trivial⟩,⟨rfl,rfl,rfl,rfl,trivial⟩,(by rw[famC_succ hk hvl];exact tlp)⟩
 ·intro h1
  refine aE<|eT<|eT<|eB<|gT<|aS<|aS ?_
  have hke:k=d.cells.length:=by have h:=h1;simp only[decide_eq_false_iff_not]at h;omega
  subst hke
  rw[List.take_length]at hfr hfl ⊢
  refine aL<|lf 1 ty.F34_1 Z<|loL ty.kd32 Z<|lnI ty.sl32 Z ?_
  refine AL.slot 27 (int (d.dirty.length:Int)) (congrArg (fun n:Nat=>int (n:Int)) (rowsW_len _)) ?_
  refine lmI Z<|nG<|aB ?_
  refine AW.loopT (D:=Nat×List Value) [(2,.ptr 2002 _ 0),(3,.ptr 2003 _ 0),(26,vL _ _ _),(27,vI _ _)] [(1,.arr _ _ _),(2001,.box _ _ [vL _ _ _,vL _ _ _]),(2002,.box _ _ [vV _,vV _]),(2003,.box _ _ [.own _,.own _])] (fun a=>[(28,int (a.1:Int))]) (fun a=>[(2,.arr 123 2 (rowsWV a.2 (d.dirty.take a.1)))]) (fun a=>famB vs (byC d.cells)++famB a.2 (byW (d.dirty.take a.1))) (fun a=>a.1≤d.dirty.length∧a.2.length=a.1) (fun a=>d.dirty.length-a.1) ((0,[])) (⟨Nat.zero_le _,rfl⟩) ⟨rfl,trivial⟩ ⟨rfl,trivial⟩ ⟨rfl,rfl,rfl,rfl,trivial⟩ ⟨rfl,rfl,rfl,rfl,trivial⟩ (by rw[List.take_zero,show famB [] (byW [])=[]from rfl,List.append_nil];exact tlp) ?_
  intro ⟨j,us⟩ hI
  obtain⟨hjl,hul⟩:=hI
  replace hjl:j≤d.dirty.length:=hjl
  replace hul:us.length=j:=hul
  have hfr2:rowF (famB vs (byC d.cells)++famB us (byW (d.dirty.take j))):=hfr.app famB_row
  have hfl2:(famB us (byW (d.dirty.take j))).length=j:=by rw[famB_len (by rw[List.length_map,List.length_take];omega),List.length_map,List.length_take];omega
  have hwl:=wv_take_len hul hjl
  refine sL<|lbB Z<|nG<|aS ?_
  refine AW.cond rfl ?_ ?_
  ·intro h2
   refine aK<|gT<|aS<|aB<|aS ?_
   have hj:j<d.dirty.length:=by have h:=h2;simp only[decide_eq_true_eq]at h;omega
   have hlw:=hs.lw
   have hlc:=hs.lc
   refine aL<|li j ty.el32 Z (rowsW_at hj)<|lrX (.agg [vI _ _,vL _ _ _]) ty.kd123 Z<|lst (zA 2007 ty.ze123 Z) Z ?_
   refine lTt ((famB vs (byC d.cells)++famB us (byW (d.dirty.take j)))) [2,3,7,26,27,28,31] [1,2,2001,2002,2003,2007] ?_
   refine lst (zB 2007 ty.co123 ty.inf123 Z) Z<|nG<|aF [9,11]<|pq 0 (qf 1 ty.F34_1 Z)<|sq 1 (roO ty.kd32 Z)<|pq 2 (qf 0 ty.F123_0 Z)<|sq 3 (roI ty.kd3 Z)<|vq 4 (rf 1 ty.F123_1 Z)<|vq 5 (roL ty.kd56 Z) ?_
   refine AF.stx (i:=6) rfl (by kernel_rfl) (StX.callN (F:=(famB vs (byC d.cells)++famB us (byW (d.dirty.take j)))) [] [] [] ((famB vs (byC d.cells)++famB us (byW (d.dirty.take j)))).length Try.func99 (copyBytes_n d.dirty[j].bytes (hs.bw _ (List.getElem_mem hj))) tlp List.drop_length List.take_length (Nat.le_refl _) (by first|(rw[List.length_append,hfl,hfl2];omega)|(rw[hfl];omega)|(rw[List.nil_append,famD_len hvl hul];omega)) (fun _ _ _ _=>trivial) rfl rfl) (.inr rfl) rfl ?_
   rintro _ _ ⟨xz4,oz4,Fz4,hz4,hF4,hM4,rfl,rfl⟩
   obtain⟨u2,rfl,rfl,rfl⟩:=hz4
   have hrf4:rowF ((famB vs (byC d.cells)++famB us (byW (d.dirty.take j)))++[uAr u2 d.dirty[j].bytes]):=rowF.app (by first|assumption|exact rowF.nil) hF4
   refine vq 7 (rd (x:=.agg [vI _ _,vV _]) (rd_build rfl ty.sa123 rfl rfl rfl) rfl)<|vst 8 rfl (zS 2040 [[.v (.int .i64 d.dirty[j].at_),.v u2]] ty.el32 ty.ze123 rfl (by intro r hr;simp at hr;subst hr;rfl)) (.inr rfl)<|vst 9 rfl (zP 2 ty.el32 ty.ze123 ty.by123 rfl (Src.own rfl rfl) (by first|(simp[rowsCV_len,rowsW_len];done)|(simp[rowsCV_len,rowsW_len];omega))) (.inl rfl)<|vq 10 (rf 1 ty.F34_1 rfl)<|vst 11 rfl (zB 2003 ty.co32 ty.inf32 rfl) (.inl rfl)<|fD<|gB<|gT<|aL<|lgI Z<|lmI Z<|nG ?_
   refine⟨(j+1,us++[u2]),⟨hj,by rw[List.length_append,hul];rfl⟩,by show d.dirty.length-(j+1)<d.dirty.length-j;omega,⟨(iq rfl),trivial⟩,⟨(congrArg (AO.arr 123 2) (rowsWV_succ hj hul)),trivial⟩,⟨rfl,rfl,rfl,rfl,trivial⟩,⟨rfl,rfl,rfl,rfl,trivial⟩,(by rw[famW_succ hj hul];exact tlp)⟩
  ·intro h2
   refine aE<|eT<|eT<|eB<|gT<|aS ?_
   have hje:j=d.dirty.length:=by have h:=h2;simp only[decide_eq_false_iff_not]at h;omega
   subst hje
   rw[List.take_length]at hfr2 hfl2 ⊢
   have hfrD:rowF (famD vs us d):=famD_row
   refine aL<|loX (.agg [.own _,.own _]) ty.kd34 Z<|lst (zB 2002 ty.co34 ty.inf34 Z) Z ?_
   refine lTt ((famD vs us d)) [2] [1,2,2001,2002,2003] ?_
   refine nG<|aR ?_
   skip
   refine end_nret (F1:=(famD vs us d)) (oDisk) (obD vs us d) ?_ (by have:=hs.lc;have:=hs.lw;unfold famD;rw[List.length_append];omega) rfl rfl ⟨rfl,rfl,trivial⟩ tlp
   exact⟨vs,us,hvl,hul,rfl,rfl,rfl⟩
theorem copyDisk_c(d:Disk)(hs:DkS d):GN Try.prog 78 [diskV d] [] ([]) (cellRel d):=by
 refine GN.intro (rs:=[.cell 2 34 (some 2)]) Try.func78 rfl Try.ntmps78 (Nat.le_of_ble_eq_true rfl) ⟨rfl,rfl,ty.kd34,trivial⟩ rfl ?_
 intro L O w0
 refine sL<|lst (zX 2001 Z) Z<|lst (zA 2002 ty.ze34 Z) Z<|nA<|lst (zA 2003 ty.ze34 Z) Z<|nG<|aS<|aS ?_
 refine AW.adoptB 1 2003 0 115 1 rfl (by decide) rfl ?_
 refine AW.adoptB 2 2003 1 123 2 rfl (by decide) rfl ?_
 refine aL<|lf 0 ty.F34_0 Z<|loL ty.kd31 Z<|lnI ty.sl31 Z ?_
 refine AL.slot 10 (int (d.cells.length:Int)) (congrArg (fun n:Nat=>int (n:Int)) (rowsC_len _)) ?_
 refine lmI Z<|nG<|aB ?_
 refine AW.loopT (D:=Nat×List Value) [(1,.ptr 2001 _ 0),(2,.ptr 2002 _ 0),(3,.ptr 2003 _ 0),(9,vL _ _ _),(10,vI _ _)] [(2,.arr _ _ _),(2001,.box _ _ [vL _ _ _,vL _ _ _]),(2002,.box _ _ [vV _,vV _]),(2003,.box _ _ [.own _,.own _])] (fun a=>[(11,int (a.1:Int))]) (fun a=>[(1,.arr 115 1 (rowsCV a.2))]) (fun a=>famB a.2 (byC (d.cells.take a.1))) (fun a=>a.1≤d.cells.length∧a.2.length=a.1) (fun a=>d.cells.length-a.1) ((0,[])) (⟨Nat.zero_le _,rfl⟩) ⟨rfl,trivial⟩ ⟨rfl,trivial⟩ ⟨rfl,rfl,rfl,rfl,rfl,trivial⟩ ⟨rfl,rfl,rfl,rfl,trivial⟩ (by rw[List.take_zero];exact tlp) ?_
 intro ⟨k,vs⟩ hI
 obtain⟨hkl,hvl⟩:=hI
 replace hkl:k≤d.cells.length:=hkl
 replace hvl:vs.length=k:=hvl
 have hfr:rowF (famB vs (byC (d.cells.take k))):=famB_row
 have hfl:(famB vs (byC (d.cells.take k))).length=k:=by rw[famB_len (by rw[List.length_map,List.length_take];omega),List.length_map,List.length_take];omega
 refine sL<|lbB Z<|nG<|aS ?_
 refine AW.cond rfl ?_ ?_
 ·intro h1
  refine aK<|gT<|aS<|aB<|aS ?_
  have hk:k<d.cells.length:=by have h:=h1;simp only[decide_eq_true_eq]at h;omega
  have hlc:=hs.lc
  refine aL<|li k ty.el31 Z (rowsC_at hk)<|lrX (.agg [vL _ _ _]) ty.kd115 Z<|lst (zA 2005 ty.ze115 Z) Z<|lst (zB 2005 ty.co115 ty.inf115 Z) Z<|nG<|aF [7,9]<|pq 0 (qf 0 ty.F34_0 Z)<|sq 1 (roO ty.kd31 Z)<|vq 2 (rf 0 ty.F115_0 Z)<|vq 3 (roL ty.kd56 Z) ?_
  refine AF.stx (i:=4) rfl (by kernel_rfl) (StX.callN (F:=famB vs (byC (d.cells.take k))) [] [] [] (famB vs (byC (d.cells.take k))).length Try.func99 (copyBytes_n d.cells[k].bytes (hs.bc _ (List.getElem_mem hk))) tlp List.drop_length List.take_length (Nat.le_refl _) (by first|(rw[List.length_append,hfl,hfl2];omega)|(rw[hfl];omega)|(rw[List.nil_append,famD_len hvl hul];omega)) (fun _ _ _ _=>trivial) rfl rfl) (.inr rfl) rfl ?_
  rintro _ _ ⟨xz2,oz2,Fz2,hz2,hF2,hM2,rfl,rfl⟩
  obtain⟨u1,rfl,rfl,rfl⟩:=hz2
  have hrf2:rowF (famB vs (byC (d.cells.take k))++[uAr u1 d.cells[k].bytes]):=rowF.app (by first|assumption|exact rowF.nil) hF2
  refine fTt ((famB vs (byC (d.cells.take k))++[uAr u1 d.cells[k].bytes])) [1,2,3,9,10,11,16,19] [1,2,2001,2002,2003,2005] ?_
  refine vq 5 (rd (x:=.agg [vV _]) (rd_build rfl ty.sa115 rfl rfl rfl) rfl)<|vst 6 rfl (zS 2021 [[.v u1]] ty.el31 ty.ze115 rfl (by intro r hr;simp at hr;subst hr;rfl)) (.inr rfl)<|vst 7 rfl (zP 1 ty.el31 ty.ze115 ty.by115 rfl (Src.own rfl rfl) (by first|(simp[rowsCV_len,rowsW_len];done)|(simp[rowsCV_len,rowsW_len];omega))) (.inl rfl)<|vq 8 (rf 0 ty.F34_0 rfl)<|vst 9 rfl (zB 2003 ty.co31 ty.inf31 rfl) (.inl rfl)<|fD<|gB<|gT<|aL<|lgI Z<|lmI Z<|nG ?_
  refine⟨(k+1,vs++[u1]),⟨hk,by rw[List.length_append,hvl];rfl⟩,by show d.cells.length-(k+1)<d.cells.length-k;omega,⟨(iq rfl),trivial⟩,⟨(congrArg (AO.arr 115 1) rowsCV_app.symm),trivial⟩,⟨rfl,rfl,rfl,rfl,rfl,trivial⟩,⟨rfl,rfl,rfl,rfl,trivial⟩,(by rw[famC_succ hk hvl];exact tlp)⟩
 ·intro h1
  refine aE<|eT<|eT<|eB<|gT<|aS<|aS ?_
  have hke:k=d.cells.length:=by have h:=h1;simp only[decide_eq_false_iff_not]at h;omega
  subst hke
  rw[List.take_length]at hfr hfl ⊢
  refine aL<|lf 1 ty.F34_1 Z<|loL ty.kd32 Z<|lnI ty.sl32 Z ?_
  refine AL.slot 27 (int (d.dirty.length:Int)) (congrArg (fun n:Nat=>int (n:Int)) (rowsW_len _)) ?_
  refine lmI Z<|nG<|aB ?_
  refine AW.loopT (D:=Nat) [(2,.ptr 2002 _ 0),(3,.ptr 2003 _ 0),(26,vL _ _ _),(27,vI _ _)] [(1,.arr _ _ _),(2001,.box _ _ [vL _ _ _,vL _ _ _]),(2002,.box _ _ [vV _,vV _]),(2003,.box _ _ [.own _,.own _])] (fun a=>[(28,int (a:Int))]) (fun a=>[(2,.arr 123 2 (rowsW (d.dirty.take a)))]) (fun a=>famB vs (byC d.cells)) (fun a=>a≤d.dirty.length) (fun a=>d.dirty.length-a) (0) (Nat.zero_le _) ⟨rfl,trivial⟩ ⟨rfl,trivial⟩ ⟨rfl,rfl,rfl,rfl,trivial⟩ ⟨rfl,rfl,rfl,rfl,trivial⟩ tlp ?_
  intro j hI
  have hjl:j≤d.dirty.length:=hI
  refine sL<|lbB Z<|nG<|aS ?_
  refine AW.cond rfl ?_ ?_
  ·intro h2
   refine aK<|gT<|aS<|aB<|aS ?_
   have hj:j<d.dirty.length:=by have h:=h2;simp only[decide_eq_true_eq]at h;omega
   have hlw:=hs.lw
   have hlc:=hs.lc
   refine aL<|li j ty.el32 Z (rowsW_at hj)<|lrX (.agg [vI _ _,vL _ _ _]) ty.kd123 Z<|lst (zA 2007 ty.ze123 Z) Z ?_
   refine lTt (famB vs (byC d.cells)) [2,3,7,26,27,28,31] [1,2,2001,2002,2003,2007] ?_
   refine lst (zB 2007 ty.co123 ty.inf123 rfl) Z<|nG<|aF [9,11]<|pq 0 (qf 1 ty.F34_1 rfl)<|sq 1 (roO ty.kd32 rfl)<|pq 2 (qf 0 ty.F123_0 rfl)<|sq 3 (roI ty.kd3 rfl)<|vq 4 (rf 1 ty.F123_1 rfl)<|vq 5 (roL ty.kd56 rfl)<|vst 6 rfl (zC [] [] [] Try.func99 (copyBytes_f d.dirty[j].bytes (hs.bw _ (List.getElem_mem hj))) (trivial) rfl rfl) (.inr rfl)<|vq 7 (rd (x:=.agg [vI _ _,vL _ _ _]) (rd_build rfl ty.sa123 rfl rfl rfl) rfl)<|vst 8 rfl (zS 2040 [[.v (.int .i64 d.dirty[j].at_),lstB d.dirty[j].bytes]] ty.el32 ty.ze123 rfl (by intro r hr;simp at hr;subst hr;rfl)) (.inr rfl)<|vst 9 rfl (zP 2 ty.el32 ty.ze123 ty.by123 rfl (Src.own rfl rfl) (by first|(simp[rowsCV_len,rowsW_len];done)|(simp[rowsCV_len,rowsW_len];omega))) (.inl rfl)<|vq 10 (rf 1 ty.F34_1 rfl)<|vst 11 rfl (zB 2003 ty.co32 ty.inf32 rfl) (.inl rfl)<|fD<|gB<|gT<|aL<|lgI Z<|lmI Z<|nG ?_
   refine⟨(j+1),hj,by show d.dirty.length-(j+1)<d.dirty.length-j;omega,⟨(iq rfl),trivial⟩,⟨(congrArg (AO.arr 123 2) (rowsW_succ hj)),trivial⟩,⟨rfl,rfl,rfl,rfl,trivial⟩,⟨rfl,rfl,rfl,rfl,trivial⟩,tlp⟩
  ·intro h2
   refine aE<|eT<|eT<|eB<|gT<|aS ?_
   have hje:j=d.dirty.length:=by have h:=h2;simp only[decide_eq_false_iff_not]at h;omega
   subst hje
   rw[List.take_length]
   refine aL<|loX (.agg [.own _,.own _]) ty.kd34 Z<|lst (zB 2002 ty.co34 ty.inf34 Z) Z ?_
   refine lTt (famB vs (byC d.cells)) [2] [1,2,2001,2002,2003] ?_
   refine nG<|aR ?_
   skip
   refine end_nret (F1:=famB vs (byC d.cells)) (oDisk) (obC vs d) ?_ (by have:=hs.lc;have:=hs.lw;omega) rfl rfl ⟨rfl,rfl,trivial⟩ tlp
   exact⟨vs,hvl,rfl,rfl,rfl⟩
theorem rdDisk{H:Nat→AO}{F:List AO}{a b:Nat}{pa pb:Option Value}{vs us:List Value}{d:Disk}{s:Nat}(hT:Tl H F)(ha:H a=.arr ⟨115,pa⟩ 1 (rowsCV vs))(hb:H b=.arr ⟨123,pb⟩ 2 (rowsWV us d.dirty))(hv:vs.length=d.cells.length)(hu:us.length=d.dirty.length)(hF:∀i,i<(famD vs us d).length→F[s+i]? = (famD vs us d)[i]?):Reads H (.agg [.own a,.own b]) (diskV d):=by
 have l1:(famB vs (byC d.cells)).length=d.cells.length:=by rw[famB_len (by simpa using hv),List.length_map]
 have l2:(famB us (byW d.dirty)).length=d.dirty.length:=by rw[famB_len (by simpa using hu),List.length_map]
 have k1:∀i,i<d.cells.length→F[s+i]? = (famB vs (byC d.cells))[i]?:=fun i hi=>by
  rw[hF i (by unfold famD;rw[List.length_append];omega)];unfold famD;rw[List.getElem?_append_left (by omega)]
 have k2:∀i,i<d.dirty.length→F[s+d.cells.length+i]? = (famB us (byW d.dirty))[i]?:=fun i hi=>by
  rw[Nat.add_assoc,hF (d.cells.length+i) (by unfold famD;rw[List.length_append];omega)];unfold famD;rw[List.getElem?_append_right (by omega)];congr 1;omega
 intro L ρ w c hob hx
 exact Reads.agg (.cons (Reads.own ha (deepCV hT hv k1)) (.cons (Reads.own hb (deepWV hT hu k2)) .nil)) hob hx
theorem famD_len{vs us:List Value}{d:Disk}(hv:vs.length=d.cells.length)(hu:us.length=d.dirty.length):(famD vs us d).length=d.cells.length+d.dirty.length:=by
 unfold famD
 rw[List.length_append,famB_len (by simpa using hv),famB_len (by simpa using hu),List.length_map,List.length_map]
theorem famD_w{vs us:List Value}{u:Value}{d:Disk}{i:Nat}{b:List Int}(hu:us.length=d.dirty.length):famD vs us d++[uAr u b]=famD vs (us++[u]) (diskW d i b):=by
 unfold famD diskW
 rw[List.append_assoc]
 exact congrArg (famB vs (byC d.cells)++·) (by unfold byW;rw[List.map_append];exact(famB_app (by simpa using hu)).symm)
theorem rowsW_w{us:List Value}{u:Value}{d:Disk}{i:Nat}{b:List Int}(hu:us.length=d.dirty.length):rowsWV us d.dirty++[[.v (.int .i64 (i:Int)),.v u]]=rowsWV (us++[u]) (diskW d i b).dirty:=(rowsWV_app (w:=⟨i,b⟩) hu).symm
theorem dok_diskW{d:Disk}{i:Nat}{b:List Int}(hd:diskOk d=true)(hi:i<d.cells.length)(hw:d.dirty.length<600)(hb:b.length=128):diskOk (diskW d i b)=true:=by
 obtain⟨h1,h2,h3⟩:=dok_iff hd
 refine dok_y (by unfold diskW;simp;omega) h2 ?_
 show (d.dirty++[(⟨(i:Int),b⟩:Write)]).all (wrOk d.cells.length)=true
 rw[List.all_append,h3]
 unfold wrOk inB
 simp[hb]
 omega
theorem diskRel_f{f:FuncId}{args:List AV}{d:Disk}(h:GN Try.prog f args [] [] (diskRel d)):GC Try.prog f args [] (diskV d) []:=
 (GX.frozen (Z:=fun y=>y=diskV d) (show GX Try.prog f args [] _ from h) fun x ob ⟨l1,F1,hs,hF,hM,e,⟨vs,us,hv,hu,e1,e2,e3⟩⟩=>by
   subst e e1 e2 e3
   refine⟨diskV d,?_,rfl⟩
   have hT:Tl (ofO (obD vs us d++famL 1000000 (famD vs us d))) (famD vs us d):=by rw[ofO_fam rfl];exact Tl.tl hF
   have l1:(famB vs (byC d.cells)).length=d.cells.length:=by rw[famB_len (by simpa using hv),List.length_map]
   exact Still.agg (H:=ofO (obD vs us d++famL 1000000 (famD vs us d))) (.cons (Still.own (id:=1) (e:=⟨115,none⟩) (sz:=1) (rows:=rowsCV vs) rfl (deepCV hT hv (s:=0) fun i hi=>by unfold famD;rw[Nat.zero_add,List.getElem?_append_left (by omega)]))
    (.cons (Still.own (id:=2) (e:=⟨123,none⟩) (sz:=2) (rows:=rowsWV us d.dirty) rfl (deepWV hT hu (s:=d.cells.length) fun i hi=>by unfold famD;rw[List.getElem?_append_right (by omega)];congr 1;omega)) .nil))).mono fun y o ⟨e1,e2⟩=>⟨e2,e1⟩
def wrRel(d:Disk):AV→List (Nat×AO)→List AO→Prop:=fun y l1 F1=>∃vs us:List Value,vs.length=d.cells.length∧us.length=d.dirty.length∧y=.tup [oDisk,boo true]∧l1=obD vs us d∧F1=famD vs us d
theorem diskWrite_n(d:Disk)(i:Nat)(b:List Int)(hd:diskOk d=true)(hi:i<d.cells.length)(hw:d.dirty.length<600)(hb:b.length=128):GN Try.prog 51 [diskV d,int (i:Int),byV b] [] ([]) (wrRel (diskW d i b)):=by
 refine GN.intro (rs:=[.cell 6 34 (some 2),.tmp 7]) Try.func51 rfl Try.ntmps51 (Nat.le_of_ble_eq_true rfl) ⟨rfl,rfl,ty.kd34,rfl,trivial⟩ rfl ?_
 intro L O w0
 refine sL<|lst (zX 2003 Z) Z<|lst (zA 2006 ty.ze34 Z) Z<|laZ Z<|nG<|aS<|aS ?_
 have hsz:=(dok_iff hd).1
 refine aL<|loX (.agg [vL _ _ _,vL _ _ _]) ty.kd34 Z<|lst (zC [] [] [] Try.func46 (diskOk_e d) (trivial) Z Z) Z<|lsB 10 true Z (hd)<|luZ Z<|nG<|aN Z<|aK<|gA<|loX (.agg [vL _ _ _,vL _ _ _]) ty.kd34 Z ?_
 refine AL.stx (StX.callN (F:=[]) [(1,1),(2,2)] [1,2] [] ([]).length Try.func78 (copyDisk_n d (dok_s hd)) tlp List.drop_length List.take_length (Nat.le_refl _) (by first|(simp;done)|(simp[famB_len, *];omega)) (fun _ _ _ _=>trivial) rfl rfl) rfl ?_
 rintro _ _ ⟨xz1,oz1,Fz1,hz1,hF1,hM1,rfl,rfl⟩
 obtain⟨vs,us,hvl,hul,rfl,rfl,rfl⟩:=hz1
 have hrf1:rowF ([]++famD vs us d):=rowF.app (by first|assumption|exact rowF.nil) hF1
 refine lst (zA 2008 ty.ze34 Z) Z<|lst (zB 2008 ty.co34 ty.inf34 Z) Z<|nG<|aS<|aF [7,9]<|pq 0 (qf 1 ty.F34_1 Z)<|sq 1 (roO ty.kd32 Z)<|pq 2 (qmX (vI _ _) Z)<|vq 3 (rmL Z) ?_
 refine AF.stx (i:=4) rfl (by kernel_rfl) (StX.callN (F:=([]++famD vs us d)) [] [] [] (([]++famD vs us d)).length Try.func99 (copyBytes_n b (by omega)) tlp List.drop_length List.take_length (Nat.le_refl _) (by first|(rw[List.length_append,hfl,hfl2];omega)|(rw[hfl];omega)|(rw[List.nil_append,famD_len hvl hul];omega)) (fun _ _ _ _=>trivial) rfl rfl) (.inr rfl) rfl ?_
 rintro _ _ ⟨xz3,oz3,Fz3,hz3,hF3,hM3,rfl,rfl⟩
 obtain⟨u3,rfl,rfl,rfl⟩:=hz3
 have hrf3:rowF (([]++famD vs us d)++[uAr u3 b]):=rowF.app (by first|assumption|exact rowF.nil) hF3
 refine fTt ((([]++famD vs us d)++[uAr u3 b])) [6,7,8,16,17,19] [1,2,2003,2006,2008] ?_
 refine vq 5 (rd (x:=.agg [vI _ _,vV _]) (rd_build rfl ty.sa123 rfl rfl rfl) rfl)<|vst 6 rfl (zS 2021 [[.v (.int .i64 (i:Int)),.v u3]] ty.el32 ty.ze123 rfl (by intro r hr;simp at hr;subst hr;rfl)) (.inr rfl)<|vst 7 rfl (zP 2 ty.el32 ty.ze123 ty.by123 rfl (Src.own rfl rfl) (by first|(simp[rowsWV_len hul];done)|(simp[rowsWV_len hul];omega))) (.inl rfl)<|vq 8 (rf 1 ty.F34_1 rfl)<|vst 9 rfl (zB 2008 ty.co32 ty.inf32 rfl) (.inl rfl)<|fD<|gT<|aS<|aS ?_
 rw[List.nil_append,famD_w (i:=i) (b:=b) hul]
 have hrfw:rowF (famD vs (us++[u3]) (diskW d i b)):=famD_row
 refine AW.obj 2 (.arr 123 2 (rowsWV (us++[u3]) (diskW d i b).dirty)) (congrArg (AO.arr 123 2) (rowsW_w hul)) ?_
 refine aL<|loX (.agg [.own _,.own _]) ty.kd34 Z<|lst (zLN Try.func46 (diskOk_e (diskW d i b)) rfl (.cons (rdDisk (vs:=vs) (us:=us++[u3]) (d:=(diskW d i b)) (s:=0) tlp rfl rfl hvl (by rw[List.length_append,hul];unfold diskW;rw[List.length_append];rfl) (fun j _=>by rw[Nat.zero_add])) .nil)) Z<|lsB 25 true rfl (dok_diskW hd hi hw hb)<|luZ Z<|nG<|aN Z<|aK<|gA<|loX (.agg [.own _,.own _]) ty.kd34 Z<|lst (zB 2006 ty.co34 ty.inf34 rfl) Z<|laT Z<|nG<|aR ?_
 skip
 refine end_nret (F1:=(famD vs (us++[u3]) (diskW d i b))) (.tup [oDisk,boo true]) (obD vs (us++[u3]) (diskW d i b)) ?_ (by unfold famD diskW;rw[List.length_append,famB_len (by simpa using hvl),famB_len (by simpa using hul)];simp;omega) rfl rfl ⟨rfl,rfl,trivial⟩ tlp
 exact⟨vs,us++[u3],hvl,by rw[List.length_append,hul];unfold diskW;rw[List.length_append];rfl,rfl,rfl,rfl⟩
def synK(d:Disk)(k:Nat):List Cell:=(d.dirty.take k).foldl syncStep d.cells
theorem synK_succ{d:Disk}{k:Nat}(hk:k<d.dirty.length):synK d (k+1)=syncStep (synK d k) d.dirty[k]:=by
 unfold synK
 rw[List.take_succ_eq_append_getElem hk,List.foldl_append];rfl
theorem syncs_len:∀(l:List Write) (cs:List Cell),(l.foldl syncStep cs).length=cs.length
 |[],_=>rfl
 |w::l,cs=>by rw[List.foldl_cons,syncs_len l];exact List.length_set ..
theorem synK_len(d:Disk)(k:Nat):(synK d k).length=d.cells.length:=syncs_len _ _
theorem diskS_y{d:Disk}(h:diskOk d=true):diskS d=⟨synK d d.dirty.length,[]⟩:=by unfold diskS synK;rw[if_pos h,List.take_length]
theorem famB_set{vs:List Value}{bs:List (List Int)}{i:Nat}{u:Value}{b:List Int}(h:vs.length=bs.length):famB (vs.set i u) (bs.set i b)=(famB vs bs).set i (uAr u b):=by
 unfold famB
 refine List.ext_getElem? fun j=>?_
 rw[List.getElem?_zipWith,List.getElem?_set,List.getElem?_set,List.getElem?_set,List.length_zipWith,←h,Nat.min_self,List.getElem?_zipWith]
 by_cases q:i=j
 ·subst q
  simp only[if_true]
  by_cases z:i<vs.length
  ·rw[if_pos z,if_pos z,if_pos z]
  ·rw[if_neg z,if_neg z,if_neg z]
 ·rw[if_neg q,if_neg q,if_neg q]
theorem famC_set{vs:List Value}{cs:List Cell}{w:Write}{u:Value}(h:vs.length=cs.length):(famB vs (byC cs)).set w.at_.toNat (uAr u w.bytes)=famB (vs.set w.at_.toNat u) (byC (syncStep cs w)):=by
 unfold syncStep byC
 rw[List.map_set]
 exact(famB_set (by simpa using h)).symm
theorem rowsCV_set{vs:List Value}{i:Nat}{u:Value}:(rowsCV vs).set i [.v u]=rowsCV (vs.set i u):=by unfold rowsCV;rw[List.map_set]
theorem dok_at{d:Disk}(h:diskOk d=true){j:Nat}(hj:j<d.dirty.length):0≤d.dirty[j].at_∧d.dirty[j].at_.toNat<d.cells.length:=by
 have:=List.all_eq_true.1 (dok_iff h).2.2 _ (List.getElem_mem hj)
 unfold wrOk inB at this
 simp only[Bool.and_eq_true,decide_eq_true_eq]at this
 omega
theorem famD_0{vs:List Value}{cs:List Cell}:famB vs (byC cs)=famD vs [] ⟨cs,[]⟩:=(List.append_nil _).symm
theorem diskSync_n(d:Disk)(hd:diskOk d=true):GN Try.prog 65 [diskV d] [] ([]) (diskRel (diskS d)):=by
 refine GN.intro (rs:=[.cell 2 34 (some 2)]) Try.func65 rfl Try.ntmps65 (Nat.le_of_ble_eq_true rfl) ⟨rfl,rfl,ty.kd34,trivial⟩ rfl ?_
 intro L O w0
 refine sL<|lst (zX 2001 Z) Z<|lst (zA 2002 ty.ze34 Z) Z<|nG<|aS<|aS ?_
 have hsz:=(dok_iff hd).1
 refine aL<|loX (.agg [vL _ _ _,vL _ _ _]) ty.kd34 Z<|lst (zC [] [] [] Try.func46 (diskOk_e d) (trivial) Z Z) Z<|lsB 7 true Z (hd)<|luZ Z<|nG<|aN Z<|aK<|gA<|loX (.agg [vL _ _ _,vL _ _ _]) ty.kd34 Z ?_
 refine AL.stx (StX.callN (F:=[]) [(1,1),(2,2)] [1,2] [] ([]).length Try.func78 (copyDisk_c d (dok_s hd)) tlp List.drop_length List.take_length (Nat.le_refl _) (by first|(simp;done)|(simp[famB_len, *];omega)) (fun _ _ _ _=>trivial) rfl rfl) rfl ?_
 rintro _ _ ⟨xz1,oz1,Fz1,hz1,hF1,hM1,rfl,rfl⟩
 obtain⟨vs,hvl,rfl,rfl,rfl⟩:=hz1
 have hrf1:rowF ([]++famB vs (byC d.cells)):=rowF.app (by first|assumption|exact rowF.nil) hF1
 refine lst (zA 2003 ty.ze34 Z) Z<|lst (zB 2003 ty.co34 ty.inf34 Z) Z<|nG<|aS<|aS ?_
 rw[List.nil_append]
 have hfr0:rowF (famB vs (byC d.cells)):=famB_row
 refine aL<|lf 1 ty.F34_1 Z<|loO ty.kd32 Z<|lnI ty.sl32 Z ?_
 refine AL.slot 14 (int (d.dirty.length:Int)) (congrArg (fun n:Nat=>int (n:Int)) (rowsW_len _)) ?_
 refine lmI Z<|nG<|aB ?_
 refine AW.loopT (D:=Nat×List Value) [(2,.ptr 2002 _ 0),(3,.ptr 2003 _ 0),(13,.own _),(14,vI _ _)] [(2,.arr _ _ _),(2001,.box _ _ [vL _ _ _,vL _ _ _]),(2002,.box _ _ [vV _,vV _]),(2003,.box _ _ [.own _,.own _])] (fun a=>[(15,int (a.1:Int))]) (fun a=>[(1,.arr 115 1 (rowsCV a.2))]) (fun a=>famB a.2 (byC (synK d a.1))) (fun a=>a.1≤d.dirty.length∧a.2.length=d.cells.length) (fun a=>d.dirty.length-a.1) ((0,vs)) (⟨Nat.zero_le _,hvl⟩) ⟨rfl,trivial⟩ ⟨rfl,trivial⟩ ⟨rfl,rfl,rfl,rfl,trivial⟩ ⟨rfl,rfl,rfl,rfl,trivial⟩ (by rw[show synK d 0=d.cells from rfl];exact tlp) ?_
 intro ⟨k,vs⟩ hI
 clear hvl
 obtain⟨hkl,hvl⟩:=hI
 replace hkl:k≤d.dirty.length:=hkl
 replace hvl:vs.length=d.cells.length:=hvl
 have hfr:rowF (famB vs (byC (synK d k))):=famB_row
 have hfl:(famB vs (byC (synK d k))).length=d.cells.length:=by rw[famB_len (by rw[List.length_map,synK_len];exact hvl),List.length_map,synK_len]
 refine sL<|lbB Z<|nG<|aS ?_
 refine AW.cond rfl ?_ ?_
 ·intro h1
  refine aK<|gT<|aS<|aB<|aS ?_
  have hk:k<d.dirty.length:=by have h:=h1;simp only[decide_eq_true_eq]at h;omega
  have hat:=dok_at hd hk
  refine aL<|lq (rj k ty.el32 rfl (by rw[rowsW_len];exact hk))<|lq (rd (x:=.agg [vI _ _,vL _ _ _]) (rd_load_arr rfl ty.kd123 rfl rfl rfl (rowsW_at hk) rfl) rfl)<|lst (zA 2005 ty.ze123 rfl) rfl ?_
  refine lTt (famB vs (byC (synK d k))) [2,3,5,13,14,15,18] [1,2,2001,2002,2003,2005] ?_
  refine lst (zB 2005 ty.co123 ty.inf123 Z) Z<|nG<|aF [9]<|pq 0 (qf 0 ty.F34_0 Z)<|sq 1 (roO ty.kd31 Z)<|pq 2 (qf 0 ty.F123_0 Z)<|sq 3 (roI ty.kd3 Z)<|vq 4 (rf 1 ty.F123_1 Z)<|vq 5 (roL ty.kd56 Z) ?_
  refine AF.stx (i:=6) rfl (by kernel_rfl) (StX.callN (F:=famB vs (byC (synK d k))) [] [] [] (famB vs (byC (synK d k))).length Try.func99 (copyBytes_n d.dirty[k].bytes (by rw[dok_w hd hk];decide)) tlp List.drop_length List.take_length (Nat.le_refl _) (by first|(rw[List.length_append,hfl,hfl2];omega)|(rw[hfl];omega)|(rw[List.nil_append,famD_len hvl hul];omega)) (fun _ _ _ _=>trivial) rfl rfl) (.inr rfl) rfl ?_
  rintro _ _ ⟨xz3,oz3,Fz3,hz3,hF3,hM3,rfl,rfl⟩
  obtain⟨u1,rfl,rfl,rfl⟩:=hz3
  have hrf3:rowF (famB vs (byC (synK d k))++[uAr u1 d.dirty[k].bytes]):=rowF.app (by first|assumption|exact rowF.nil) hF3
  refine vq 7 (rd (x:=.ptr 1 _ 0) (rd_iaddr_own (i:=d.dirty[k].at_.toNat) rfl ty.el31 rfl rfl rfl ?hn1 (by rw[rowsCV_len,hvl];exact hat.2)) rfl) ?_
  case hn1=>exact(Int.toNat_of_nonneg hat.1).symm
  refine vq 8 (rf 0 ty.F115_0 rfl)<|vst 9 rfl (zQ 1 [.v u1] ty.co56 ty.inf56 rfl (rowsCV_at (by rw[hvl];exact hat.2))) (.inl rfl)<|fD<|gB<|gT ?_
  refine aTt ((famB vs (byC (synK d k))++[uAr u1 d.dirty[k].bytes])) [2,3,13,14,15] [1,2,2001,2002,2003,2005] ?_
  refine AW.moveIn d.dirty[k].at_.toNat rfl hrf3 (by rw[hfl];exact hat.2) ?_
  have hrs:rowF ((famB vs (byC (synK d k))).set d.dirty[k].at_.toNat (uAr u1 d.dirty[k].bytes)):=by rw[famC_set (by rw[synK_len];exact hvl)];exact famB_row
  refine aL<|lgI Z<|lmI Z<|nG ?_
  refine⟨(k+1,vs.set d.dirty[k].at_.toNat u1),⟨hk,by rw[List.length_set];exact hvl⟩,by show d.dirty.length-(k+1)<d.dirty.length-k;omega,⟨(iq rfl),trivial⟩,⟨(congrArg (AO.arr 115 1) rowsCV_set),trivial⟩,⟨rfl,rfl,rfl,rfl,trivial⟩,⟨rfl,rfl,rfl,rfl,trivial⟩,(by rw[synK_succ hk,←famC_set (by rw[synK_len];exact hvl)];exact tlp)⟩
 ·intro h1
  refine aE<|eT<|eT<|eB<|gT<|aS ?_
  have hke:k=d.dirty.length:=by have h:=h1;simp only[decide_eq_false_iff_not]at h;omega
  subst hke
  refine aL<|lf 1 ty.F34_1 Z<|lst (zB 2003 ty.co32 ty.inf32 Z) Z<|nG<|aS ?_
  refine aTt ((famB vs (byC (synK d d.dirty.length)))) [2,3] [1,2001,2002,2003] ?_
  refine AW.adoptB 2 2003 1 123 2 rfl (by decide) rfl ?_
  rw[famD_0]
  have hfrD:rowF (famD vs [] ⟨synK d d.dirty.length,[]⟩):=famD_row
  refine aL<|loX (.agg [.own _,.own _]) ty.kd34 Z<|lst (zB 2002 ty.co34 ty.inf34 Z) Z<|nG<|aR ?_
  rw[diskS_y hd]
  refine end_nret (F1:=(famD vs [] ⟨synK d d.dirty.length,[]⟩)) (oDisk) (obD vs [] ⟨synK d d.dirty.length,[]⟩) ?_ (by unfold famD;rw[List.length_append,hfl];simp[famB];omega) rfl rfl ⟨rfl,rfl,trivial⟩ tlp
  exact⟨vs,[],by rw[synK_len];exact hvl,rfl,rfl,rfl,rfl⟩

theorem lg1{d:Disk}(h:diskOk d=false∨d.dirty.length≠0):lgOpC d=1:=by
 unfold lgOpC
 rcases h with h|h
 ·rw[h];rfl
 ·rw[show (diskOk d&&decide (d.dirty.length=0))=false by simp[h]];rfl
theorem lg2{d:Disk}(h:diskOk d=true)(h0:d.dirty.length=0)(h2:(logR d).length=d.cells.length∨16000000≤logTop d):lgOpC d=2:=by
 unfold lgOpC
 rw[h,h0,if_pos (by simp),if_pos h2]
theorem lg0{d:Disk}(h:diskOk d=true)(h0:d.dirty.length=0)(h2:¬((logR d).length=d.cells.length∨16000000≤logTop d)):lgOpC d=0:=by
 unfold lgOpC
 rw[h,h0,if_pos (by simp),if_neg h2]
theorem lgL_n{d:Disk}(h:lgOpC d≠0):lgOpL d=⟨⟨[],[]⟩,0,0⟩:=if_neg h
theorem lgL_y{d:Disk}(h:lgOpC d=0):lgOpL d=⟨diskS (diskW d (logR d).length (secB ⟨(logR d).length,logTop d+1,[66]⟩)),(logR d).length+1,logTop d+1⟩:=if_pos h
theorem lgE_n{d:Disk}(h:lgOpC d≠0):lgOpE d=[]:=if_neg h
theorem lgE_y{d:Disk}(h:lgOpC d=0):lgOpE d=logE d:=if_pos h
theorem ad1{l:Log}{e:Event}(h:diskOk l.disk=false∨inB l.next 0 l.disk.cells.length=false∨inB l.epoch 1 16000000=false∨eventOk e=false):lgAddC l e=1:=by
 unfold lgAddC
 rw[if_neg]
 rcases h with h|h|h|h<;>simp[h]
theorem ad2{l:Log}{e:Event}(h1:diskOk l.disk=true)(h2:inB l.next 0 l.disk.cells.length=true)(h3:inB l.epoch 1 16000000=true)(h4:eventOk e=true)(h5:l.next=l.disk.cells.length∨600≤l.disk.dirty.length):lgAddC l e=2:=by
 unfold lgAddC
 rw[h1,h2,h3,h4,if_pos (by simp),if_pos h5]
theorem ad0{l:Log}{e:Event}(h1:diskOk l.disk=true)(h2:inB l.next 0 l.disk.cells.length=true)(h3:inB l.epoch 1 16000000=true)(h4:eventOk e=true)(h5:¬(l.next=l.disk.cells.length∨600≤l.disk.dirty.length)):lgAddC l e=0:=by
 unfold lgAddC
 rw[h1,h2,h3,h4,if_pos (by simp),if_neg h5]
theorem adL_n{l:Log}{e:Event}(h:lgAddC l e≠0):lgAddL l e=⟨⟨[],[]⟩,0,0⟩:=if_neg h
theorem adL_y{l:Log}{e:Event}(h:lgAddC l e=0):lgAddL l e=⟨diskW l.disk l.next.toNat (secB ⟨l.next,l.epoch,evB e⟩),l.next+1,l.epoch⟩:=if_pos h
theorem sy_n{l:Log}(h:diskOk l.disk=false):lgSyL l=⟨⟨[],[]⟩,0,0⟩:=if_neg (by simp[h])
theorem sy_y{l:Log}(h:diskOk l.disk=true):lgSyL l=⟨diskS l.disk,l.next,l.epoch⟩:=if_pos h
theorem secR_bd(b:List Int):0≤(secR b).epoch∧(secR b).epoch≤16000000:=by
 cases h:secF b with
 |true=>rw[secR_yes h];have:=(secOk_iff.1 (secF_iff.1 h).2.2.1).2.1;omega
 |false=>rw[secR_no h];exact⟨Int.le_refl _,by decide⟩
theorem top_bd:∀(l:List (List Int)) (t:Int),0≤t∧t≤16000000→0≤l.foldl (fun t b=>max t (secR b).epoch) t∧l.foldl (fun t b=>max t (secR b).epoch) t≤16000000
 |[],t,h=>h
 |b::l,t,h=>by rw[List.foldl_cons];exact top_bd l _ (by have:=secR_bd b;omega)
theorem logTop_bd(d:Disk):0≤logTop d∧logTop d≤16000000:=by
 unfold logTop
 split
 ·exact top_bd _ 0 (by decide)
 ·decide
theorem logR_le{d:Disk}(h:diskOk d=true):(logR d).length≤d.cells.length:=by
 rw[logR_y h]
 have:=run_len (bs:=views d) (acc:=[])
 rw[views_len]at this
 simpa using this
theorem logE_len(d:Disk):(logE d).length≤600:=by
 have h1:=evs_len (logR d)
 have h2:=logR_len d
 unfold logE
 omega
theorem bSec{d:Disk}(h:diskOk d=true)(h2:(logR d).length<d.cells.length)(h3:logTop d<16000000):secOk ⟨(logR d).length,logTop d+1,[66]⟩=true:=secOk_iff.2 (by
 have:=(dok_iff h).1
 have:=logTop_bd d
 simp
 omega)
theorem inB_iff{n a b:Int}:inB n a b=true↔a≤n∧n≤b:=by unfold inB;simp
theorem adSec{l:Log}{e:Event}(h1:diskOk l.disk=true)(h2:inB l.next 0 l.disk.cells.length=true)(h3:inB l.epoch 1 16000000=true)(h5:l.next≠l.disk.cells.length):secOk ⟨l.next,l.epoch,evB e⟩=true:=secOk_iff.2 (by
 have:=(dok_iff h1).1
 have:=inB_iff.1 h2
 have:=inB_iff.1 h3
 rw[evB_length]
 simp only
 omega)
def lgAdRel(l:Log)(c:Int):AV→List (Nat×AO)→List AO→Prop:=fun y l1 F1=>∃vs us:List Value,vs.length=l.disk.cells.length∧us.length=l.disk.dirty.length∧y=.tup [.agg [.own 1,.own 2,int l.next,int l.epoch],int c]∧l1=obD vs us l.disk∧F1=famD vs us l.disk
def lgRel(l:Log):AV→List (Nat×AO)→List AO→Prop:=fun y l1 F1=>∃vs us:List Value,vs.length=l.disk.cells.length∧us.length=l.disk.dirty.length∧y=.agg [.own 1,.own 2,int l.next,int l.epoch]∧l1=obD vs us l.disk∧F1=famD vs us l.disk
theorem logAdd_n(l:Log)(e:Event):GN Try.prog 13 [logV l,evV e] [] ([]) (lgAdRel (lgAddL l e) (lgAddC l e)):=by
 refine GN.intro (rs:=[.cell 4 36 (some 4),.tmp 5]) Try.func13 rfl Try.ntmps13 (Nat.le_of_ble_eq_true rfl) ⟨rfl,rfl,ty.kd36,rfl,trivial⟩ rfl ?_
 intro L O w0
 refine sL<|lst (zX 2002 Z) Z<|lst (zX 2003 Z) Z<|lst (zA 2004 ty.ze36 Z) Z<|laI Z<|nG<|aS<|sL<|lf 0 ty.F36_0 Z<|loX (.agg [vL _ _ _,vL _ _ _]) ty.kd34 Z<|lst (zC [] [] [] Try.func46 (diskOk_e l.disk) (trivial) Z Z) Z<|luB Z<|lmB Z ?_
 refine AL.bool (t:=16) rfl ?_ ?_
 ·intro h1
  refine lno Z<|lno Z<|lno Z<|lno Z<|lno Z<|lno Z<|lno Z<|lno Z<|lkT Z<|lmT Z<|lno Z<|lno Z<|lno Z<|lno Z<|lkT Z<|lmT Z<|lno Z<|lno Z<|lno Z<|lkT Z<|nG<|aY Z<|sL<|lq (rd (x:=.agg [vV _,vV _,vI _ _,vI _ _]) (rd_build Z ty.sa36 Z Z Z) Z)<|lst (zB 2004 ty.co36 ty.inf36 Z) Z ?_
  refine lTt ([]) [2,3,4,5] [2002,2003,2004] ?_
  refine laI Z<|nG ?_
  refine AW.adoptB 1 2004 0 115 1 rfl (by decide) rfl ?_
  refine AW.adoptB 2 2004 1 123 2 rfl (by decide) rfl ?_
  refine aR<|rT ?_
  have hc:lgAddC l e=1:=ad1 (by first|exact .inl (by simpa using h1)|exact .inr (.inl (by simpa using h1))|exact .inr (.inr (.inl (by simpa using h1)))|exact .inr (.inr (.inr (by simpa using h1))))
  have hL:=adL_n (l:=l) (e:=e) (by rw[hc];decide)
  rw[hc,hL]
  refine end_nret (F1:=[]) (.tup [.agg [.own 1,.own 2,int 0,int 0],int 1]) (obD [] [] ⟨[],[]⟩) ?_ (by decide) rfl rfl ⟨rfl,rfl,trivial⟩ tlp
  exact⟨[],[],rfl,rfl,rfl,rfl,rfl⟩
 ·intro h1
  refine lf 2 ty.F36_1 Z<|loI ty.kd3 Z<|lf 0 ty.F36_0 Z<|lf 0 ty.F34_0 Z<|loL ty.kd31 Z<|lnI ty.sl31 Z ?_
  refine AL.slot 22 (int (l.disk.cells.length:Int)) (congrArg (fun n:Nat=>int (n:Int)) (rowsC_len _)) ?_
  refine lst (zL Try.func47 (in_e _ _ _) Z) Z<|luB Z<|lkB Z<|lmB Z ?_
  refine AL.bool (t:=26) rfl ?_ ?_
  ·intro h2
   refine lno Z<|lno Z<|lno Z<|lno Z<|lkT Z<|lmT Z<|lno Z<|lno Z<|lno Z<|lkT Z<|nG<|aY Z<|sL<|lq (rd (x:=.agg [vV _,vV _,vI _ _,vI _ _]) (rd_build Z ty.sa36 Z Z Z) Z)<|lst (zB 2004 ty.co36 ty.inf36 Z) Z ?_
   refine lTt ([]) [2,3,4,5] [2002,2003,2004] ?_
   refine laI Z<|nG ?_
   refine AW.adoptB 1 2004 0 115 1 rfl (by decide) rfl ?_
   refine AW.adoptB 2 2004 1 123 2 rfl (by decide) rfl ?_
   refine aR<|rT ?_
   have hc:lgAddC l e=1:=ad1 (by first|exact .inl (by simpa using h2)|exact .inr (.inl (by simpa using h2))|exact .inr (.inr (.inl (by simpa using h2)))|exact .inr (.inr (.inr (by simpa using h2)))|exact .inl (by simpa using h1)|exact .inr (.inl (by simpa using h1))|exact .inr (.inr (.inl (by simpa using h1)))|exact .inr (.inr (.inr (by simpa using h1))))
   have hL:=adL_n (l:=l) (e:=e) (by rw[hc];decide)
   rw[hc,hL]
   refine end_nret (F1:=[]) (.tup [.agg [.own 1,.own 2,int 0,int 0],int 1]) (obD [] [] ⟨[],[]⟩) ?_ (by decide) rfl rfl ⟨rfl,rfl,trivial⟩ tlp
   exact⟨[],[],rfl,rfl,rfl,rfl,rfl⟩
  ·intro h2
   refine lf 3 ty.F36_2 Z<|loI ty.kd3 Z<|lst (zL Try.func47 (in_e _ _ _) Z) Z<|luB Z<|lkB Z<|lmB Z ?_
   refine AL.bool (t:=32) rfl ?_ ?_
   ·intro h3
    refine lno Z<|lno Z<|lno Z<|lkT Z<|nG<|aY Z<|sL<|lq (rd (x:=.agg [vV _,vV _,vI _ _,vI _ _]) (rd_build Z ty.sa36 Z Z Z) Z)<|lst (zB 2004 ty.co36 ty.inf36 Z) Z<|laI Z<|nG ?_
    refine AW.adoptB 1 2004 0 115 1 rfl (by decide) rfl ?_
    refine AW.adoptB 2 2004 1 123 2 rfl (by decide) rfl ?_
    refine aR<|rT ?_
    have hc:lgAddC l e=1:=ad1 (by first|exact .inl (by simpa using h3)|exact .inr (.inl (by simpa using h3))|exact .inr (.inr (.inl (by simpa using h3)))|exact .inr (.inr (.inr (by simpa using h3)))|exact .inl (by simpa using h2)|exact .inr (.inl (by simpa using h2))|exact .inr (.inr (.inl (by simpa using h2)))|exact .inr (.inr (.inr (by simpa using h2)))|exact .inl (by simpa using h1)|exact .inr (.inl (by simpa using h1))|exact .inr (.inr (.inl (by simpa using h1)))|exact .inr (.inr (.inr (by simpa using h1))))
    have hL:=adL_n (l:=l) (e:=e) (by rw[hc];decide)
    rw[hc,hL]
    refine end_nret (F1:=[]) (.tup [.agg [.own 1,.own 2,int 0,int 0],int 1]) (obD [] [] ⟨[],[]⟩) ?_ (by decide) rfl rfl ⟨rfl,rfl,trivial⟩ tlp
    exact⟨[],[],rfl,rfl,rfl,rfl,rfl⟩
   ·intro h3
    refine loX (.agg [vI _ _,vI _ _,vI _ _,vI _ _,vI _ _,vI _ _,vB _]) ty.kd40 Z<|lst (zC [] [] [] Try.func48 (eventOk_e e) (trivial) Z Z) Z<|luB Z<|lkB Z<|nG ?_
    refine AW.cond rfl ?_ ?_
    ·intro h4
     refine sL<|lq (rd (x:=.agg [vV _,vV _,vI _ _,vI _ _]) (rd_build Z ty.sa36 Z Z Z) Z)<|lst (zB 2004 ty.co36 ty.inf36 Z) Z ?_
     refine lTt ([]) [2,3,4,5] [2002,2003,2004] ?_
     refine laI Z<|nG ?_
     refine AW.adoptB 1 2004 0 115 1 rfl (by decide) rfl ?_
     refine AW.adoptB 2 2004 1 123 2 rfl (by decide) rfl ?_
     refine aR<|rT ?_
     have hc:lgAddC l e=1:=ad1 (by first|exact .inl (by simpa using h4)|exact .inr (.inl (by simpa using h4))|exact .inr (.inr (.inl (by simpa using h4)))|exact .inr (.inr (.inr (by simpa using h4)))|exact .inl (by simpa using h3)|exact .inr (.inl (by simpa using h3))|exact .inr (.inr (.inl (by simpa using h3)))|exact .inr (.inr (.inr (by simpa using h3)))|exact .inl (by simpa using h2)|exact .inr (.inl (by simpa using h2))|exact .inr (.inr (.inl (by simpa using h2)))|exact .inr (.inr (.inr (by simpa using h2)))|exact .inl (by simpa using h1)|exact .inr (.inl (by simpa using h1))|exact .inr (.inr (.inl (by simpa using h1)))|exact .inr (.inr (.inr (by simpa using h1))))
     have hL:=adL_n (l:=l) (e:=e) (by rw[hc];decide)
     rw[hc,hL]
     refine end_nret (F1:=[]) (.tup [.agg [.own 1,.own 2,int 0,int 0],int 1]) (obD [] [] ⟨[],[]⟩) ?_ (by decide) rfl rfl ⟨rfl,rfl,trivial⟩ tlp
     exact⟨[],[],rfl,rfl,rfl,rfl,rfl⟩
    ·intro h4
     refine aK<|gT<|aS<|aS ?_
     have hd:diskOk l.disk=true:=by first|(have h:=h4;simpa using h;done)|(have h:=h3;simpa using h;done)|(have h:=h2;simpa using h;done)|(have h:=h1;simpa using h;done)
     have hi:inB l.next 0 l.disk.cells.length=true:=by first|(have h:=h4;simpa using h;done)|(have h:=h3;simpa using h;done)|(have h:=h2;simpa using h;done)|(have h:=h1;simpa using h;done)
     have hp:inB l.epoch 1 16000000=true:=by first|(have h:=h4;simpa using h;done)|(have h:=h3;simpa using h;done)|(have h:=h2;simpa using h;done)|(have h:=h1;simpa using h;done)
     have he:eventOk e=true:=by first|(have h:=h4;simpa using h;done)|(have h:=h3;simpa using h;done)|(have h:=h2;simpa using h;done)|(have h:=h1;simpa using h;done)
     have hsz:=(dok_iff hd).1
     have hi2:=inB_iff.1 hi
     refine aL<|lf 2 ty.F36_1 Z<|loI ty.kd3 Z<|lf 0 ty.F36_0 Z<|lf 0 ty.F34_0 Z<|loL ty.kd31 Z<|lnI ty.sl31 Z ?_
     refine AL.slot 43 (int (l.disk.cells.length:Int)) (congrArg (fun n:Nat=>int (n:Int)) (rowsC_len _)) ?_
     refine lbB Z<|lmB Z ?_
     refine AL.bool (t:=45) rfl ?_ ?_
     ·intro h5
      refine lno Z<|lno Z<|lno Z<|lno Z<|lno Z<|lkT Z<|nG<|aY Z<|sL<|lq (rd (x:=.agg [vV _,vV _,vI _ _,vI _ _]) (rd_build Z ty.sa36 Z Z Z) Z)<|lst (zB 2004 ty.co36 ty.inf36 Z) Z<|laI Z<|nG ?_
      refine AW.adoptB 1 2004 0 115 1 rfl (by decide) rfl ?_
      refine AW.adoptB 2 2004 1 123 2 rfl (by decide) rfl ?_
      refine aR<|rT ?_
      have hc:lgAddC l e=2:=ad2 hd hi hp he (by first|exact .inl (by have h:=h5;simp only[decide_eq_true_eq]at h;omega)|exact .inr (by have h:=h5;simp only[ge_iff_le,decide_eq_true_eq]at h;omega)|exact .inl (by have h:=h4;simp only[decide_eq_true_eq]at h;omega)|exact .inr (by have h:=h4;simp only[ge_iff_le,decide_eq_true_eq]at h;omega)|exact .inl (by have h:=h3;simp only[decide_eq_true_eq]at h;omega)|exact .inr (by have h:=h3;simp only[ge_iff_le,decide_eq_true_eq]at h;omega)|exact .inl (by have h:=h2;simp only[decide_eq_true_eq]at h;omega)|exact .inr (by have h:=h2;simp only[ge_iff_le,decide_eq_true_eq]at h;omega)|exact .inl (by have h:=h1;simp only[decide_eq_true_eq]at h;omega)|exact .inr (by have h:=h1;simp only[ge_iff_le,decide_eq_true_eq]at h;omega))
      have hL:=adL_n (l:=l) (e:=e) (by rw[hc];decide)
      rw[hc,hL]
      refine end_nret (F1:=[]) (.tup [.agg [.own 1,.own 2,int 0,int 0],int 2]) (obD [] [] ⟨[],[]⟩) ?_ (by decide) rfl rfl ⟨rfl,rfl,trivial⟩ tlp
      exact⟨[],[],rfl,rfl,rfl,rfl,rfl⟩
     ·intro h5
      refine lf 0 ty.F36_0 Z<|lf 1 ty.F34_1 Z<|loL ty.kd32 Z<|lnI ty.sl32 Z ?_
      refine AL.slot 49 (int (l.disk.dirty.length:Int)) (congrArg (fun n:Nat=>int (n:Int)) (rowsW_len _)) ?_
      refine lbB Z<|lkB Z<|nG ?_
      refine AW.cond rfl ?_ ?_
      ·intro h6
       refine sL<|lq (rd (x:=.agg [vV _,vV _,vI _ _,vI _ _]) (rd_build Z ty.sa36 Z Z Z) Z)<|lst (zB 2004 ty.co36 ty.inf36 Z) Z ?_
       refine lTt ([]) [2,3,4,5] [2002,2003,2004] ?_
       refine laI Z<|nG ?_
       refine AW.adoptB 1 2004 0 115 1 rfl (by decide) rfl ?_
       refine AW.adoptB 2 2004 1 123 2 rfl (by decide) rfl ?_
       refine aR<|rT ?_
       have hc:lgAddC l e=2:=ad2 hd hi hp he (by first|exact .inl (by have h:=h6;simp only[decide_eq_true_eq]at h;omega)|exact .inr (by have h:=h6;simp only[ge_iff_le,decide_eq_true_eq]at h;omega)|exact .inl (by have h:=h5;simp only[decide_eq_true_eq]at h;omega)|exact .inr (by have h:=h5;simp only[ge_iff_le,decide_eq_true_eq]at h;omega)|exact .inl (by have h:=h4;simp only[decide_eq_true_eq]at h;omega)|exact .inr (by have h:=h4;simp only[ge_iff_le,decide_eq_true_eq]at h;omega)|exact .inl (by have h:=h3;simp only[decide_eq_true_eq]at h;omega)|exact .inr (by have h:=h3;simp only[ge_iff_le,decide_eq_true_eq]at h;omega)|exact .inl (by have h:=h2;simp only[decide_eq_true_eq]at h;omega)|exact .inr (by have h:=h2;simp only[ge_iff_le,decide_eq_true_eq]at h;omega)|exact .inl (by have h:=h1;simp only[decide_eq_true_eq]at h;omega)|exact .inr (by have h:=h1;simp only[ge_iff_le,decide_eq_true_eq]at h;omega))
       have hL:=adL_n (l:=l) (e:=e) (by rw[hc];decide)
       rw[hc,hL]
       refine end_nret (F1:=[]) (.tup [.agg [.own 1,.own 2,int 0,int 0],int 2]) (obD [] [] ⟨[],[]⟩) ?_ (by decide) rfl rfl ⟨rfl,rfl,trivial⟩ tlp
       exact⟨[],[],rfl,rfl,rfl,rfl,rfl⟩
      ·intro h6
       refine aK<|gT<|aS ?_
       have hn:¬(l.next=l.disk.cells.length∨600≤l.disk.dirty.length):=by
        have h1:=h5
        have h2:=h6
        simp only[ge_iff_le,decide_eq_false_iff_not]at h1 h2
        omega
       have hS:=adSec (e:=e) hd hi hp (by omega)
       have hBl:(secB (⟨l.next,l.epoch,evB e⟩:Sector)).length=128:=secB_length (by rw[show ((⟨l.next,l.epoch,evB e⟩:Sector)).body=evB e from rfl,evB_length];decide)
       refine aL<|loX (.agg [vI _ _,vI _ _,vI _ _,vI _ _,vI _ _,vI _ _,vB _]) ty.kd40 Z<|lst (zC [] [] [] Try.func49 (eventBody_e e) (trivial) Z Z) Z ?_
       refine AL.slot 55 (.tup [byV (evB e),boo true]) (Eq.trans (b:=AV.tup [byV (evX e),boo (eventOk e)]) rfl (by rw[evX_y he,he])) ?_
       refine lmX (.tup [vL _ _ _,vB _]) Z<|lxL Z<|lxB Z<|laL Z<|laB Z<|nA<|lf 2 ty.F36_1 Z<|loI ty.kd3 Z<|lf 3 ty.F36_2 Z<|loI ty.kd3 Z<|lmL Z<|lq (rd (x:=.agg [vI _ _,vI _ _,vL _ _ _]) (rd_build Z ty.sa92 Z Z Z) Z) ?_
       refine lst (zC [] [] [] Try.func50 (sectorBytes_e (⟨l.next,l.epoch,evB e⟩:Sector)) (trivial) rfl rfl) rfl ?_
       refine AL.slot 65 (.tup [byV (secB (⟨l.next,l.epoch,evB e⟩:Sector)),boo true]) (Eq.trans (b:=AV.tup [byV (secX (⟨l.next,l.epoch,evB e⟩:Sector)),boo (secOk (⟨l.next,l.epoch,evB e⟩:Sector))]) rfl (by rw[secX_y hS,hS])) ?_
       refine lTt ([]) [2,4,5,65] [2002,2003,2004] ?_
       refine lmX (.tup [vL _ _ _,vB _]) Z<|lxL Z<|lxB Z<|laL Z<|laB Z<|nA<|lf 0 ty.F36_0 Z<|loX (.agg [vL _ _ _,vL _ _ _]) ty.kd34 Z<|lf 2 ty.F36_1 Z<|loI ty.kd3 Z<|lsN 72 ((l.next.toNat:Nat):Int) rfl (by omega)<|lmL rfl ?_
       refine AL.stx (StX.callN (F:=[]) [(1,1),(2,2)] [1,2] [] ([]).length Try.func51 (diskWrite_n l.disk l.next.toNat (secB (⟨l.next,l.epoch,evB e⟩:Sector)) hd (by omega) (by omega) hBl) tlp List.drop_length List.take_length (Nat.le_refl _) ((by simp)) (fun _ _ _ _=>trivial) rfl rfl) rfl ?_
       rintro _ _ ⟨xz1,oz1,Fz1,hz1,hF1,hM1,rfl,rfl⟩
       obtain⟨vs,us,hvl,hul,rfl,rfl,rfl⟩:=hz1
       have hrf1:rowF ([]++famD vs us (diskW l.disk l.next.toNat (secB (⟨l.next,l.epoch,evB e⟩:Sector)))):=rowF.app (by first|assumption|exact rowF.nil) hF1
       refine lmX (.tup [.agg [.own _,.own _],vB true]) Z<|lxX (.agg [.own _,.own _]) Z<|lxX (vB true) Z<|lst (zA 2010 ty.ze34 Z) Z ?_
       refine lTt (([]++famD vs us (diskW l.disk l.next.toNat (secB (⟨l.next,l.epoch,evB e⟩:Sector))))) [2,4,5,10,75,76] [1,2,2002,2003,2004,2010] ?_
       refine lst (zB 2010 ty.co34 ty.inf34 Z) Z<|laT Z<|nA<|loX (.agg [.own _,.own _]) ty.kd34 Z<|lf 2 ty.F36_1 Z<|loI ty.kd3 Z<|lgI Z<|lf 3 ty.F36_2 Z<|loI ty.kd3 Z<|lq (rd (x:=.agg [.own _,.own _,vI _ _,vI _ _]) (rd_build Z ty.sa36 Z Z Z) Z)<|lst (zB 2004 ty.co36 ty.inf36 Z) Z<|laI Z<|nG<|aR ?_
       have hc:lgAddC l e=0:=ad0 hd hi hp he hn
       have hL:=adL_y hc
       have hrfD:rowF (famD vs us (diskW l.disk l.next.toNat (secB (⟨l.next,l.epoch,evB e⟩:Sector)))):=famD_row
       rw[List.nil_append,hc,hL]
       refine end_nret (F1:=(famD vs us (diskW l.disk l.next.toNat (secB (⟨l.next,l.epoch,evB e⟩:Sector))))) (.tup [.agg [.own 1,.own 2,int (l.next+1),int l.epoch],int 0]) (obD vs us (diskW l.disk l.next.toNat (secB (⟨l.next,l.epoch,evB e⟩:Sector)))) ?_ (by rw[famD_len hvl hul];unfold diskW;simp;omega) rfl rfl ⟨rfl,rfl,trivial⟩ tlp
       exact⟨vs,us,hvl,hul,rfl,rfl,rfl⟩
theorem logSync_n(l:Log):GN Try.prog 35 [logV l] [] ([]) (lgRel (lgSyL l)):=by
 refine GN.intro (rs:=[.cell 2 36 (some 4)]) Try.func35 rfl Try.ntmps35 (Nat.le_of_ble_eq_true rfl) ⟨rfl,rfl,ty.kd36,trivial⟩ rfl ?_
 intro L O w0
 refine sL<|lst (zX 2001 Z) Z<|lst (zA 2002 ty.ze36 Z) Z<|nG<|aS<|sL<|lf 0 ty.F36_0 Z<|loX (.agg [vL _ _ _,vL _ _ _]) ty.kd34 Z<|lst (zC [] [] [] Try.func46 (diskOk_e l.disk) (trivial) Z Z) Z<|luB Z<|nG ?_
 refine AW.cond rfl ?_ ?_
 ·intro h1
  refine sL<|lq (rd (x:=.agg [vV _,vV _,vI _ _,vI _ _]) (rd_build Z ty.sa36 Z Z Z) Z)<|lst (zB 2002 ty.co36 ty.inf36 Z) Z<|nG ?_
  refine AW.adoptB 1 2002 0 115 1 rfl (by decide) rfl ?_
  refine AW.adoptB 2 2002 1 123 2 rfl (by decide) rfl ?_
  refine aR<|rT ?_
  have hd:diskOk l.disk=false:=by first|(have h:=h1;simpa using h;done)
  rw[sy_n hd]
  refine end_nret (F1:=[]) (.agg [.own 1,.own 2,int 0,int 0]) (obD [] [] ⟨[],[]⟩) ?_ (by decide) rfl rfl ⟨rfl,rfl,trivial⟩ tlp
  exact⟨[],[],rfl,rfl,rfl,rfl,rfl⟩
 ·intro h1
  refine aK<|gT<|aS ?_
  have hd:diskOk l.disk=true:=by first|(have h:=h1;simpa using h;done)
  have hsz:=(dok_iff hd).1
  refine aF [8]<|pq 0 (qf 0 ty.F36_0 Z)<|sq 1 (roX (.agg [vL _ _ _,vL _ _ _]) ty.kd34 Z)<|pq 3 (qf 2 ty.F36_1 Z)<|sq 4 (roI ty.kd3 Z)<|pq 5 (qf 3 ty.F36_2 Z)<|sq 6 (roI ty.kd3 Z) ?_
  refine AF.stx (i:=2) rfl (by kernel_rfl) (StX.callN (F:=[]) [(1,1),(2,2)] [1,2] [] ([]).length Try.func65 (diskSync_n l.disk hd) tlp List.drop_length List.take_length (Nat.le_refl _) ((by simp)) (fun _ _ _ _=>trivial) rfl rfl) (.inr rfl) rfl ?_
  rintro _ _ ⟨xz2,oz2,Fz2,hz2,hF2,hM2,rfl,rfl⟩
  obtain⟨vs,us,hvl,hul,rfl,rfl,rfl⟩:=hz2
  have hrf2:rowF ([]++famD vs us (diskS l.disk)):=rowF.app (by first|assumption|exact rowF.nil) hF2
  refine fTt (([]++famD vs us (diskS l.disk))) [2,10,12,14] [1,2,2001,2002] ?_
  refine vq 7 (rd (x:=.agg [.own _,.own _,vI _ _,vI _ _]) (rd_build Z ty.sa36 Z Z Z) Z)<|vst 8 Z (zB 2002 ty.co36 ty.inf36 Z) (.inl Z)<|fD<|gT<|aR ?_
  have hrfD:rowF (famD vs us (diskS l.disk)):=famD_row
  rw[List.nil_append,sy_y hd]
  refine end_nret (F1:=(famD vs us (diskS l.disk))) (.agg [.own 1,.own 2,int l.next,int l.epoch]) (obD vs us (diskS l.disk)) ?_ (by rw[famD_len hvl hul,diskS_y hd,synK_len];show l.disk.cells.length+0≤_;omega) rfl rfl ⟨rfl,rfl,trivial⟩ tlp
  exact⟨vs,us,hvl,hul,rfl,rfl,rfl⟩

def A50(n:Int):Prop:=-1125899906842624≤n∧n≤1125899906842624
structure BookSm(x:Book):Prop where
 tick:A50 x.tick
 next:A50 x.next
 wallet:A50 x.wallet
 chans:∀c∈x.chans,A50 c.loc∧A50 c.remote∧A50 c.score∧A50 c.base∧A50 c.ppm
 htlcs:∀h∈x.htlcs,A50 h.amtIn∧A50 h.amtOut∧0≤h.age∧h.age≤1125899906842624∧0≤h.amtOut
 circles:∀c∈x.circles,A50 c.amt∧A50 c.fee
 lc:x.chans.length≤20
 lh:x.htlcs.length≤60
 li:x.circles.length≤20
structure EvSm(e:Event):Prop where
 amt:A50 e.amt
 fee:A50 e.fee
theorem BookSm.hs{x:Book}(h:BookSm x):SmallH x.htlcs:=⟨h.lh,fun y hy=>⟨(h.htlcs y hy).2.2.2.2,(h.htlcs y hy).2.1.2⟩⟩

structure BookFi(x:Book):Prop where
 sm:BookSm x
 ids:x.chans.Pairwise fun a b=>a.id≠b.id
 hks:x.htlcs.Pairwise fun a b=>a.key≠b.key
 iks:x.circles.Pairwise fun a b=>a.key≠b.key
 hch:∀h∈x.htlcs,0≤chanAt x.chans h.inn∧0≤chanAt x.chans h.out∧h.inn≠h.out
 ich:∀h∈x.circles,0≤chanAt x.chans h.frm∧0≤chanAt x.chans h.to∧h.frm≠h.to

def encKey(n:Int):List Value:=[.int .i64 n]
end Go.Proofs.Yteblcdnhnckkaaa

