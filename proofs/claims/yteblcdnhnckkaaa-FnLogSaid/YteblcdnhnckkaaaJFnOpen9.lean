/- Texts of the proof of FnFnOpen, joined: EP1, Cur1, ED1, ED2, ED3, E34. -/
import Derived.Test.YteblcdnhnckkaaaJFnOpen8
import Derived.Test.YteblcdnhnckkaaaJFnOpen4
import Derived.Test.YteblcdnhnckkaaaKNum
import Derived.Test.YteblcdnhnckkaaaJFnOpen5
namespace Go.Proofs.Yteblcdnhnckkaaa
open Go.RowKit
set_option maxHeartbeats 16000000
set_option maxRecDepth 100000
set_option linter.unusedSimpArgs false
set_option linter.unusedVariables false
abbrev obF(d:Disk):List (Nat×AO):=[(1,.arr 115 1 (rowsC d.cells)),(2,.arr 123 2 (rowsW d.dirty))]
abbrev obFL(d:Disk)(es:List Event):List (Nat×AO):=[(1,.arr 115 1 (rowsC d.cells)),(2,.arr 123 2 (rowsW d.dirty)),(3,eAr es)]
abbrev inV(l:List Int):AV:=.p (.lst 3 1 (rowsOf encKey l))
abbrev kAr(l:List Int):AO:=.arr 3 1 (rowsOf encKey l)
theorem rowsC_succ{cs:List Cell}{k:Nat}(hk:k<cs.length):rowsC (cs.take k)++[[lstB cs[k].bytes]]=rowsC (cs.take (k+1)):=by
 rw[List.take_succ_eq_append_getElem hk];unfold rowsC;rw[List.map_append];rfl
theorem rowsC_set{cs:List Cell}{i:Nat}{b:List Int}:(rowsC cs).set i [lstB b]=rowsC (cs.set i ⟨b⟩):=by unfold rowsC;rw[List.map_set]
theorem GC.disk{f:FuncId}{args:List AV}{d:Disk}(h:GC Try.prog f args [] oDisk (obF d)):GC Try.prog f args [] (diskV d) []:=
 (GX.frozen (Z:=fun y=>y=diskV d) h fun x ob ⟨h1,h2⟩=>by
   subst h1 h2
   exact⟨_,Still.agg (.cons (Still.row (e:=⟨115,none⟩) (sz:=1) (rows:=rowsC d.cells) rfl) (.cons (Still.row (e:=⟨123,none⟩) (sz:=2) (rows:=rowsW d.dirty) rfl) .nil)),rfl⟩).mono fun y o ⟨e1,e2⟩=>⟨e2,e1⟩
theorem GC.diskT{f:FuncId}{args:List AV}{d:Disk}{b:Bool}(h:GC Try.prog f args [] (.tup [oDisk,boo b]) (obF d)):GC Try.prog f args [] (.tup [diskV d,boo b]) []:=
 (GX.frozen (Z:=fun y=>y=.tup [diskV d,boo b]) h fun x ob ⟨h1,h2⟩=>by
   subst h1 h2
   exact⟨_,Still.tup (.cons (Still.agg (.cons (Still.row (e:=⟨115,none⟩) (sz:=1) (rows:=rowsC d.cells) rfl) (.cons (Still.row (e:=⟨123,none⟩) (sz:=2) (rows:=rowsW d.dirty) rfl) .nil))) (.cons (Still.p _) .nil)),rfl⟩).mono fun y o ⟨e1,e2⟩=>⟨e2,e1⟩
theorem sl03Copy_o(d:Disk)(hs:DkS d):GC Try.prog 93 [diskV d] [] (oDisk) (obF d):=by
 refine GC.intro (rs:=[.cell 2 34 (some 2)]) Try.func93 rfl Try.ntmps93 (Nat.le_of_ble_eq_true rfl) ⟨rfl,rfl,ty.kd34,trivial⟩ ?_
 intro L O w0
 refine sL<|lst (zX 2001 Z) Z<|lst (zA 2002 ty.ze34 Z) Z<|nA<|lq (rd (x:=.agg [vV _,vV _]) (rd_build Z ty.sa34 Z Z Z) Z)<|lst (zA 2003 ty.ze34 Z) Z<|lst (zB 2003 ty.co34 ty.inf34 Z) Z<|nG<|aS<|aS ?_
 refine AW.adoptB 1 2003 0 115 1 rfl (by decide) rfl ?_
 refine AW.adoptB 2 2003 1 123 2 rfl (by decide) rfl ?_
 refine aL<|lf 0 ty.F34_0 Z<|loL ty.kd31 Z<|lnI ty.sl31 Z ?_
 refine AL.slot 11 (int (d.cells.length:Int)) (congrArg (fun n:Nat=>int (n:Int)) (rowsC_len _)) ?_
 refine lmI Z<|nG<|aB ?_
 refine aW [1,2,3,10,11] [2,2001,2002,2003] (D:=Nat) (fun a=>[(12,int (a:Int))]) (fun a=>[(1,.arr 115 1 (rowsC (d.cells.take a)))]) (fun a=>a≤d.cells.length) (fun a=>d.cells.length-a) (0) (Nat.zero_le _) ⟨rfl,trivial⟩ ⟨rfl,trivial⟩ ?_
 intro k hI
 have hkl:k≤d.cells.length:=hI
 refine sL<|lbB Z<|nG<|aS ?_
 refine AW.cond rfl ?_ ?_
 ·intro h1
  refine aK<|gT<|aS<|aB<|aS ?_
  have hk:k<d.cells.length:=by have h:=h1;simp only[decide_eq_true_eq]at h;omega
  have hlc:=hs.lc
  refine aL<|li k ty.el31 Z (rowsC_at hk)<|lrX (.agg [vL _ _ _]) ty.kd115 Z<|lst (zA 2005 ty.ze115 Z) Z<|lst (zB 2005 ty.co115 ty.inf115 Z) Z<|lT [1,2,3,5,10,11,12] [1,2,2001,2002,2003,2005] ?_
  refine nG<|aG 10 [1,2018]<|tq 0 (rf 0 ty.F34_0 rfl)<|tq 1 (roO ty.kd31 rfl)<|tq 3 (rf 0 ty.F115_0 rfl)<|tq 4 (roL ty.kd56 rfl)<|yst 2 rfl (zS 2018 (rowsOf encU []) ty.el56 ty.ze5 rfl (by intro r hr;cases hr))<|yst 5 rfl (zP 2018 ty.el56 ty.ze5 ty.by5 rfl (Src.p rfl) (by have:=hs.bc _ (List.getElem_mem hk);simp[rowsOf];omega)) ?_
  refine AG.freeze 2018 rfl ?_
  refine yq 6 (rd (x:=.agg [vL _ _ _]) (rd_build rfl ty.sa115 rfl rfl rfl) rfl)<|yst 7 rfl (zS 2023 [[lstB d.cells[k].bytes]] ty.el31 ty.ze115 rfl (by intro r hr;simp at hr;subst hr;rfl))<|yst 8 rfl (zP 1 ty.el31 ty.ze115 ty.by115 rfl (Src.own rfl rfl) (by first|(simp[rowsC_len,rowsW_len];done)|(simp[rowsC_len,rowsW_len];omega)))<|yq 9 (rf 0 ty.F34_0 rfl)<|yl rfl (zB 2003 ty.co31 ty.inf31 rfl)<|gB<|gT<|aL<|lgI Z<|lmI Z<|nG ?_
  refine⟨(k+1),hk,by show d.cells.length-(k+1)<d.cells.length-k;omega,⟨(iq rfl),trivial⟩,⟨(congrArg (AO.arr 115 1) (rowsC_succ hk)),trivial⟩,rfl,rfl⟩
 ·intro h1
  refine aE<|eT<|eT<|eB<|gT<|aS<|aS ?_
  have hke:k=d.cells.length:=by have h:=h1;simp only[decide_eq_false_iff_not]at h;omega
  subst hke
  rw[List.take_length]
  refine aL<|lf 1 ty.F34_1 Z<|loL ty.kd32 Z<|lnI ty.sl32 Z ?_
  refine AL.slot 29 (int (d.dirty.length:Int)) (congrArg (fun n:Nat=>int (n:Int)) (rowsW_len _)) ?_
  refine lmI Z<|nG<|aB ?_
  refine aW [2,3,28,29] [1,2001,2002,2003] (D:=Nat) (fun a=>[(30,int (a:Int))]) (fun a=>[(2,.arr 123 2 (rowsW (d.dirty.take a)))]) (fun a=>a≤d.dirty.length) (fun a=>d.dirty.length-a) (0) (Nat.zero_le _) ⟨rfl,trivial⟩ ⟨rfl,trivial⟩ ?_
  intro j hI
  have hjl:j≤d.dirty.length:=hI
  refine sL<|lbB Z<|nG<|aS ?_
  refine AW.cond rfl ?_ ?_
  ·intro h2
   refine aK<|gT<|aS<|aB<|aS ?_
   have hj:j<d.dirty.length:=by have h:=h2;simp only[decide_eq_true_eq]at h;omega
   have hlw:=hs.lw
   refine aL<|li j ty.el32 Z (rowsW_at hj)<|lrX (.agg [vI _ _,vL _ _ _]) ty.kd123 Z<|lst (zA 2007 ty.ze123 Z) Z<|lT [2,3,7,28,29,30,33] [1,2,2001,2002,2003,2007] ?_
   refine lst (zB 2007 ty.co123 ty.inf123 rfl) Z<|nG<|aG 12 [2,2038]<|tq 0 (rf 1 ty.F34_1 rfl)<|tq 1 (roO ty.kd32 rfl)<|tq 2 (rf 0 ty.F123_0 rfl)<|tq 3 (roI ty.kd3 rfl)<|tq 5 (rf 1 ty.F123_1 rfl)<|tq 6 (roL ty.kd56 rfl)<|yst 4 rfl (zS 2038 (rowsOf encU []) ty.el56 ty.ze5 rfl (by intro r hr;cases hr))<|yst 7 rfl (zP 2038 ty.el56 ty.ze5 ty.by5 rfl (Src.p rfl) (by have:=hs.bw _ (List.getElem_mem hj);simp[rowsOf];omega)) ?_
   refine AG.freeze 2038 rfl ?_
   refine yq 8 (rd (x:=.agg [vI _ _,vL _ _ _]) (rd_build rfl ty.sa123 rfl rfl rfl) rfl)<|yst 9 rfl (zS 2043 [[.v (.int .i64 d.dirty[j].at_),lstB d.dirty[j].bytes]] ty.el32 ty.ze123 rfl (by intro r hr;simp at hr;subst hr;rfl))<|yst 10 rfl (zP 2 ty.el32 ty.ze123 ty.by123 rfl (Src.own rfl rfl) (by first|(simp[rowsC_len,rowsW_len];done)|(simp[rowsC_len,rowsW_len];omega)))<|yq 11 (rf 1 ty.F34_1 rfl)<|yl rfl (zB 2003 ty.co32 ty.inf32 rfl)<|gB<|gT<|aL<|lgI Z<|lmI Z<|nG ?_
   refine⟨(j+1),hj,by show d.dirty.length-(j+1)<d.dirty.length-j;omega,⟨(iq rfl),trivial⟩,⟨(congrArg (AO.arr 123 2) (rowsW_succ hj)),trivial⟩,rfl,rfl⟩
  ·intro h2
   refine aE<|eT<|eT<|eB<|gT<|aS ?_
   have hje:j=d.dirty.length:=by have h:=h2;simp only[decide_eq_false_iff_not]at h;omega
   subst hje
   rw[List.take_length]
   refine aL<|loX (.agg [.own _,.own _]) ty.kd34 Z<|lst (zB 2002 ty.co34 ty.inf34 Z) Z<|lT [2] [1,2,2001,2002,2003] ?_
   refine nG<|aR ?_
   refine end_ret ?_ ⟨rfl,rfl,trivial⟩
   rfl
theorem sdiskWrite_o(d:Disk)(i:Nat)(b:List Int)(hd:diskOk d=true)(hi:i<d.cells.length)(hw:d.dirty.length<600)(hb:b.length=128):GC Try.prog 45 [diskV d,int (i:Int),byV b] [] (.tup [oDisk,boo true]) (obF (diskW d i b)):=by
 refine GC.intro (rs:=[.cell 6 34 (some 2),.tmp 7]) Try.func45 rfl Try.ntmps45 (Nat.le_of_ble_eq_true rfl) ⟨rfl,rfl,ty.kd34,rfl,trivial⟩ ?_
 intro L O w0
 refine sL<|lst (zX 2003 Z) Z<|lst (zA 2006 ty.ze34 Z) Z<|laZ Z<|nG<|aS<|aS ?_
 have hsz:=(dok_iff hd).1
 refine aL<|loX (.agg [vL _ _ _,vL _ _ _]) ty.kd34 Z<|lst (zC [] [] [] Try.func41 (sdiskOk_e d) (trivial) rfl rfl) Z<|lsB 10 true rfl (hd)<|luZ Z<|nG<|aN Z<|aK<|gA<|loX (.agg [vL _ _ _,vL _ _ _]) ty.kd34 Z<|lst (zC [(1,1),(2,2)] [1,2] [] Try.func93 (sl03Copy_o d (dok_s hd)) (trivial) rfl rfl) Z<|lst (zA 2008 ty.ze34 rfl) Z<|lst (zB 2008 ty.co34 ty.inf34 rfl) Z<|nG<|aS<|aG 10 [2,2018]<|tq 0 (rf 1 ty.F34_1 rfl)<|tq 1 (roO ty.kd32 rfl)<|tq 2 (rmI rfl)<|tq 4 (rmL rfl)<|yst 3 rfl (zS 2018 (rowsOf encU []) ty.el56 ty.ze5 rfl (by intro r hr;cases hr))<|gX [6,7,8,16,17,18,19] [1,2,2003,2006,2008,2018] ?_
 refine yst 5 rfl (zP 2018 ty.el56 ty.ze5 ty.by5 rfl (Src.p rfl) (by have:=hb;simp[rowsOf];omega)) ?_
 refine AG.freeze 2018 rfl ?_
 refine yq 6 (rd (x:=.agg [vI _ _,vL _ _ _]) (rd_build rfl ty.sa123 rfl rfl rfl) rfl)<|yst 7 rfl (zS 2022 [[.v (.int .i64 (i:Int)),lstB b]] ty.el32 ty.ze123 rfl (by intro r hr;simp at hr;subst hr;rfl))<|yst 8 rfl (zP 2 ty.el32 ty.ze123 ty.by123 rfl (Src.own rfl rfl) (by first|(simp[rowsC_len,rowsW_len];done)|(simp[rowsC_len,rowsW_len];omega)))<|yq 9 (rf 1 ty.F34_1 rfl)<|yl rfl (zB 2008 ty.co32 ty.inf32 rfl)<|gT<|aS<|aS ?_
 refine AW.obj 2 (.arr 123 2 (rowsW (diskW d i b).dirty)) (congrArg (AO.arr 123 2) (show rowsW d.dirty++[[.v (.int .i64 (i:Int)),lstB b]]=_ by unfold rowsW diskW;rw[List.map_append];rfl)) ?_
 refine aL<|loX (.agg [.own _,.own _]) ty.kd34 Z<|lst (zL Try.func41 (sdiskOk_e (diskW d i b)) Z) Z<|lsB 26 true Z (dok_diskW hd hi hw hb)<|luZ Z<|nG<|aN Z<|aK<|gA<|loX (.agg [.own _,.own _]) ty.kd34 Z<|lst (zB 2006 ty.co34 ty.inf34 Z) Z<|laT Z<|nG<|aR ?_
 refine end_ret ?_ ⟨rfl,rfl,trivial⟩
 rfl
theorem sdiskWrite_f(d:Disk)(i:Nat)(b:List Int)(hd:diskOk d=true)(hi:i<d.cells.length)(hw:d.dirty.length<600)(hb:b.length=128):GC Try.prog 45 [diskV d,int (i:Int),byV b] [] (.tup [diskV (diskW d i b),boo true]) []:=(sdiskWrite_o d i b hd hi hw hb).diskT
theorem crash_go{keep:List Int}{ws:List Write}{k:Nat}{cs:List Cell}(hk:k<ws.length):crashGo keep (ws.drop k) k cs=crashGo keep (ws.drop (k+1)) (k+1) (crashStep keep cs k ws[k]):=by
 rw[List.drop_eq_getElem_cons hk];rfl
theorem crash_0{keep:List Int}{k:Nat}{cs:List Cell}{w:Write}(h:(keep[k]?).getD 0<1):crashStep keep cs k w=cs:=if_pos (by unfold crashK;omega)
theorem crash_n{keep:List Int}{k m:Nat}{cs:List Cell}{w:Write}(h:¬(keep[k]?).getD 0<1)(h1:(m:Int)≤(keep[k]?).getD 0)(h2:m≤128)(h3:(keep[k]?).getD 0≤m∨128≤m)(hc:w.at_.toNat<cs.length):crashStep keep cs k w=cs.set w.at_.toNat ⟨torn (cs[w.at_.toNat]).bytes w.bytes m⟩:=by
 have e:crashK keep k=m:=by unfold crashK;omega
 unfold crashStep
 rw[e,if_neg (by omega),List.getElem?_eq_getElem hc];rfl
theorem torn_len{old new:List Int}{m:Nat}(h1:(fullB old).length=128)(h2:new.length=128)(hm:m≤128):(torn old new m).length=128:=by
 unfold torn;rw[List.length_append,List.length_take,List.length_drop];omega
theorem full_len{c:Cell}(h:cellOk c=true):(fullB c.bytes).length=128:=by
 unfold cellOk at h
 unfold fullB
 split
 ·simp
 ·simp_all
theorem torn_succ{old new:List Int}{m:Nat}(h1:(fullB old).length=128)(h2:new.length=128)(hm:m<128):(torn old new m).set m (new[m]'(by omega))=torn old new (m+1):=by
 unfold torn
 rw[List.set_append_right _ _ (by rw[List.length_take];omega),List.take_succ_eq_append_getElem (by omega),List.append_assoc,List.length_take,show m-min m new.length=0 by omega,List.drop_eq_getElem_cons (show m<(fullB old).length by omega)]
 rfl
theorem torn_0{old new:List Int}:torn old new 0=fullB old:=by unfold torn;simp
theorem torn_all{old new:List Int}(h1:(fullB old).length=128)(h2:new.length=128):torn old new 128=new:=by
 unfold torn;rw[List.take_of_length_le (by omega),List.drop_eq_nil_of_le (by omega),List.append_nil]
theorem rowsU_set{l:List Int}{i:Nat}{x:Int}:(rowsOf encU l).set i [.v (.int .u8 x)]=rowsOf encU (l.set i x):=by unfold rowsOf;rw[List.map_set];rfl
theorem cells_set{cs:List Cell}{i:Nat}{b:List Int}(h:cs.all cellOk=true)(hb:b.length=128):(cs.set i ⟨b⟩).all cellOk=true:=by
 rw[List.all_eq_true]at *
 intro x hx
 rcases List.mem_or_eq_of_mem_set hx with q|rfl
 ·exact h x q
 ·unfold cellOk;simp[hb]
theorem diskC_y{d:Disk}{keep:List Int}(h:diskOk d=true):diskC d keep=⟨crashGo keep d.dirty 0 d.cells,[]⟩:=if_pos h
theorem cell_at{cs:List Cell}(h:cs.all cellOk=true){i:Nat}(hi:i<cs.length):cellOk cs[i]=true:=List.all_eq_true.1 h _ (List.getElem_mem hi)
theorem cell_len{c:Cell}(h:cellOk c=true):c.bytes.length≤128:=by unfold cellOk at h;simp only[Bool.or_eq_true,decide_eq_true_eq]at h;omega
theorem sdiskCrash_o(d:Disk)(keep:List Int)(hd:diskOk d=true):GC Try.prog 67 [diskV d,inV keep] [] (oDisk) (obF (diskC d keep)):=by
 refine GC.intro (rs:=[.cell 4 34 (some 2)]) Try.func67 rfl Try.ntmps67 (Nat.le_of_ble_eq_true rfl) ⟨rfl,rfl,ty.kd34,trivial⟩ ?_
 intro L O w0
 refine sL<|lst (zX 2002 Z) Z<|lst (zA 2004 ty.ze34 Z) Z<|nG<|aS<|aS ?_
 have hsz:=(dok_iff hd).1
 refine aL<|loX (.agg [vL _ _ _,vL _ _ _]) ty.kd34 Z<|lst (zC [] [] [] Try.func41 (sdiskOk_e d) (trivial) Z Z) Z<|lsB 12 true Z (hd)<|luZ Z<|nG<|aN Z<|aK<|gA<|loX (.agg [vL _ _ _,vL _ _ _]) ty.kd34 Z<|lst (zC [(1,1),(2,2)] [1,2] [] Try.func93 (sl03Copy_o d (dok_s hd)) (trivial) Z Z) Z<|lst (zA 2005 ty.ze34 Z) Z<|lst (zB 2005 ty.co34 ty.inf34 Z) Z<|nA<|lf 1 ty.F34_1 Z<|lst (zB 2005 ty.co32 ty.inf32 Z) Z<|nG<|aS<|sL<|lf 1 ty.F34_1 Z<|loL ty.kd32 Z<|lnI ty.sl32 Z ?_
 refine AL.slot 20 (int (d.dirty.length:Int)) (congrArg (fun n:Nat=>int (n:Int)) (rowsW_len _)) ?_
 refine lmI Z<|nG<|aB ?_
 refine aW [1,4,5,19,20] [2002,2004,2005] (D:=Nat×List Cell) (fun a=>[(21,int (a.1:Int))]) (fun a=>[(1,.arr 115 1 (rowsC a.2))]) (fun a=>a.1≤d.dirty.length∧a.2.length=d.cells.length∧a.2.all cellOk=true∧crashGo keep (d.dirty.drop a.1) a.1 a.2=crashGo keep d.dirty 0 d.cells) (fun a=>d.dirty.length-a.1) ((0,d.cells)) (⟨Nat.zero_le _,rfl,(dok_iff hd).2.1,rfl⟩) ⟨rfl,trivial⟩ ⟨rfl,trivial⟩ ?_
 intro ⟨k,cs⟩ hI
 obtain⟨hkl,hcl,hco,hgo⟩:=hI
 replace hkl:k≤d.dirty.length:=hkl
 replace hcl:cs.length=d.cells.length:=hcl
 replace hco:cs.all cellOk=true:=hco
 replace hgo:crashGo keep (d.dirty.drop k) k cs=crashGo keep d.dirty 0 d.cells:=hgo
 refine sL<|lbB Z<|nG<|aS ?_
 refine AW.cond rfl ?_ ?_
 ·intro h1
  refine aK<|gT<|aS<|aB<|aS ?_
  have hk:k<d.dirty.length:=by have h:=h1;simp only[decide_eq_true_eq]at h;omega
  have hat:=dok_at hd hk
  have hat2:d.dirty[k].at_.toNat<cs.length:=by omega
  refine aL<|lmI Z<|li k ty.el32 Z (rowsW_at hk)<|lrX (.agg [vI _ _,vL _ _ _]) ty.kd123 Z<|lst (zA 2007 ty.ze123 Z) Z<|lT [1,4,5,7,19,20,21,23,25] [1,2002,2004,2005,2007] ?_
  refine laI Z<|lst (zB 2007 ty.co123 ty.inf123 Z) Z<|nA<|laI Z<|nG ?_
  refine aJ [1,4,5,7,19,20,21] [1,2002,2004,2005,2007] (D:=Unit) (fun jd=>[(8,int ((keep[k]?).getD 0))]) (fun jd=>[]) (fun jd=>True) ?_ ?_
  ·refine sL<|lmI Z<|lmL Z<|lnI ty.sl112 Z<|lbB Z<|nG ?_
   refine AW.cond rfl ?_ ?_
   ·intro h2
    have hkk:k<keep.length:=by have h:=h2;simp only[length_rowsOf,decide_eq_true_eq]at h;omega
    refine aL<|lmL Z<|lmI Z<|li k ty.el112 Z (row_map hkk)<|lrI ty.kd3 Z<|laI Z<|nG ?_
    refine⟨(),trivial,⟨(Eq.trans (b:=int _) rfl (congrArg int (show keep[k]=((keep[k]?).getD 0) by rw[List.getElem?_eq_getElem hkk];rfl))),trivial⟩,trivial,rfl,rfl⟩
   ·intro h2
    refine aK<|gT ?_
    refine⟨(),trivial,⟨(Eq.trans (b:=int _) rfl (congrArg int (show (0:Int)=((keep[k]?).getD 0) by rw[List.getElem?_eq_none (by have h:=h2;simp only[length_rowsOf,decide_eq_false_iff_not]at h;omega)];rfl))),trivial⟩,trivial,rfl,rfl⟩
  ·intro jd hJ
   refine aS<|sL<|lmI Z<|lbB Z<|nG ?_
   refine AW.cond rfl ?_ ?_
   ·intro h3
    refine aE<|eT<|eB<|gT ?_
    have hlow:((keep[k]?).getD 0)<1:=by have h:=h3;simpa using h
    refine aL<|lgI Z<|lmI Z<|nG ?_
    refine⟨(k+1,cs),⟨hk,hcl,hco,by rw[←hgo,crash_go hk,crash_0 hlow]⟩,by show d.dirty.length-(k+1)<d.dirty.length-k;omega,⟨(iq rfl),trivial⟩,⟨rfl,trivial⟩,rfl,rfl⟩
   ·intro h3
    refine aK<|gT<|aS ?_
    have hlow:¬((keep[k]?).getD 0)<1:=by have h:=h3;simpa using h
    have hfo:=full_len (cell_at hco hat2)
    refine aL<|lf 0 ty.F34_0 Z<|loO ty.kd31 Z<|lf 0 ty.F123_0 Z<|loI ty.kd3 Z<|lq (rd (x:=.ptr 1 _ 0) (rd_iaddr_own (i:=d.dirty[k].at_.toNat) rfl ty.el31 rfl rfl rfl ?hn1 (by rw[rowsC_len];exact hat2)) rfl) ?_
    case hn1=>exact(Int.toNat_of_nonneg hat.1).symm
    refine lf 0 ty.F115_0 Z<|lq (rd (x:=vL _ _ _) (rd_load_arr rfl ty.kd56 rfl rfl rfl (rowsC_at hat2) rfl) rfl)<|lst (zC [(1,2043)] [2043] [] Try.func111 (sfull_o cs[d.dirty[k].at_.toNat].bytes (Nat.le_trans (cell_len (cell_at hco hat2)) (by decide))) (trivial) rfl rfl) Z<|laO Z<|nG<|aS<|sL<|laI Z<|nG<|aB ?_
    refine aW [1,4,5,7,8,9,19,20,21] [1,2002,2004,2005,2007] (D:=Nat) (fun b=>[(10,int (b:Int))]) (fun b=>[(2043,yAr (torn cs[d.dirty[k].at_.toNat].bytes d.dirty[k].bytes b))]) (fun b=>b≤128∧(b:Int)≤((keep[k]?).getD 0)) (fun b=>128-b) (0) (⟨Nat.zero_le _,by omega⟩) ⟨rfl,trivial⟩ ⟨(Eq.trans (b:=yAr (fullB cs[d.dirty[k].at_.toNat].bytes)) rfl (congrArg yAr torn_0.symm)),trivial⟩ ?_
    intro m hI
    obtain⟨hm1,hm2⟩:=hI
    replace hm1:m≤128:=hm1
    replace hm2:(m:Int)≤((keep[k]?).getD 0):=hm2
    refine aS<|sL<|lmI Z<|lmI Z<|lbB Z<|lmB Z ?_
    refine AL.bool (t:=47) rfl ?_ ?_
    ·intro h4
     refine lmI Z<|lbB Z<|lkB Z<|nG ?_
     refine AW.cond rfl ?_ ?_
     ·intro h5
      refine aK<|gT<|aS<|aB ?_
      have hm:(m:Int)<((keep[k]?).getD 0)∧m<128:=by
       have h1:=h4
       have h2:=h5
       simp only[decide_eq_true_eq]at h1 h2
       omega
      have hwl:=dok_w hd hk
      have htl:=torn_len (m:=m) hfo hwl (by omega)
      refine aL<|lmO Z<|lmI Z<|lf 1 ty.F123_1 Z<|loL ty.kd56 Z<|lmI Z<|li m ty.el56 rfl (row_map (by omega))<|lrI ty.kd5 Z<|lq (rj m ty.el56 rfl (by rw[length_rowsOf];omega))<|lst (zQ 2043 [.v (.int .u8 (d.dirty[k].bytes[m]'(by omega)))] ty.co5 ty.inf5 rfl (row_map (by omega))) Z<|lT [1,4,5,7,8,9,10,19,20,21] [1,2002,2004,2005,2007,2043] ?_
      refine lN<|gB<|gT<|aL<|lmI Z<|lgI Z<|laI Z<|nG ?_
      refine⟨(m+1),⟨by omega,by omega⟩,by show 128-(m+1)<128-m;omega,⟨(iq rfl),trivial⟩,⟨(Eq.trans (congrArg (AO.arr 5 1) rowsU_set) (congrArg yAr (torn_succ hfo (dok_w hd hk) (by omega)))),trivial⟩,rfl,rfl⟩
     ·intro h5
      refine aE<|eT<|eT<|eB<|gT ?_
      have hend:((keep[k]?).getD 0)≤m∨128≤m:=by first|(have h:=h5;simp only[decide_eq_false_iff_not]at h;omega)|(have h:=h4;simp only[decide_eq_false_iff_not]at h;omega)|(have h:=h3;simp only[decide_eq_false_iff_not]at h;omega)|(have h:=h1;simp only[decide_eq_false_iff_not]at h;omega)
      refine aL<|lf 0 ty.F34_0 Z<|loO ty.kd31 Z<|lf 0 ty.F123_0 Z<|loI ty.kd3 Z<|lmO Z<|lq (rd (x:=.ptr 1 _ 0) (rd_iaddr_own (i:=d.dirty[k].at_.toNat) rfl ty.el31 rfl rfl rfl ?hn2 (by rw[rowsC_len];exact hat2)) rfl) ?_
      case hn2=>exact(Int.toNat_of_nonneg hat.1).symm
      refine lf 0 ty.F115_0 rfl ?_
      refine AL.freeze 2043 rfl ?_
      refine lst (zQ 1 [lstB (torn cs[d.dirty[k].at_.toNat].bytes d.dirty[k].bytes m)] ty.co56 ty.inf56 Z (rowsC_at hat2)) Z<|lN<|gB<|gT<|aL<|lgI Z<|lmI Z<|nG ?_
      refine⟨(k+1,cs.set d.dirty[k].at_.toNat ⟨torn cs[d.dirty[k].at_.toNat].bytes d.dirty[k].bytes m⟩),⟨hk,by rw[List.length_set];exact hcl,cells_set hco (torn_len hfo (dok_w hd hk) (by omega)),by rw[←hgo,crash_go hk,crash_n hlow (by omega) (by omega) hend hat2]⟩,by show d.dirty.length-(k+1)<d.dirty.length-k;omega,⟨(iq rfl),trivial⟩,⟨(congrArg (AO.arr 115 1) rowsC_set),trivial⟩,rfl,rfl⟩
    ·intro h4
     refine lno Z<|lno Z<|lkZ Z<|nG<|aN Z<|aE<|eT<|eT<|eB<|gT ?_
     have hend:((keep[k]?).getD 0)≤m∨128≤m:=by first|(have h:=h4;simp only[decide_eq_false_iff_not]at h;omega)|(have h:=h3;simp only[decide_eq_false_iff_not]at h;omega)|(have h:=h1;simp only[decide_eq_false_iff_not]at h;omega)
     refine aL<|lf 0 ty.F34_0 Z<|loO ty.kd31 Z<|lf 0 ty.F123_0 Z<|loI ty.kd3 Z<|lmO Z<|lq (rd (x:=.ptr 1 _ 0) (rd_iaddr_own (i:=d.dirty[k].at_.toNat) rfl ty.el31 rfl rfl rfl ?hn3 (by rw[rowsC_len];exact hat2)) rfl) ?_
     case hn3=>exact(Int.toNat_of_nonneg hat.1).symm
     refine lf 0 ty.F115_0 rfl ?_
     refine AL.freeze 2043 rfl ?_
     refine lst (zQ 1 [lstB (torn cs[d.dirty[k].at_.toNat].bytes d.dirty[k].bytes m)] ty.co56 ty.inf56 Z (rowsC_at hat2)) Z<|lT [1,4,5,19,20,21] [1,2002,2004,2005,2007] ?_
     refine lN<|gB<|gT<|aL<|lgI Z<|lmI Z<|nG ?_
     refine⟨(k+1,cs.set d.dirty[k].at_.toNat ⟨torn cs[d.dirty[k].at_.toNat].bytes d.dirty[k].bytes m⟩),⟨hk,by rw[List.length_set];exact hcl,cells_set hco (torn_len hfo (dok_w hd hk) (by omega)),by rw[←hgo,crash_go hk,crash_n hlow (by omega) (by omega) hend hat2]⟩,by show d.dirty.length-(k+1)<d.dirty.length-k;omega,⟨(iq rfl),trivial⟩,⟨(congrArg (AO.arr 115 1) rowsC_set),trivial⟩,rfl,rfl⟩
 ·intro h1
  refine aE<|eT<|eT<|eB<|gT<|aS ?_
  have hke:k=d.dirty.length:=by have h:=h1;simp only[decide_eq_false_iff_not]at h;omega
  have hfin:cs=crashGo keep d.dirty 0 d.cells:=by rw[←hgo,hke,List.drop_length];rfl
  refine aT [4,5] [1,2002,2004,2005] ?_
  refine AW.adoptB 2 2005 1 123 2 rfl (by decide) rfl ?_
  refine aL<|loX (.agg [.own _,.own _]) ty.kd34 Z<|lst (zB 2004 ty.co34 ty.inf34 Z) Z<|nG<|aR ?_
  rw[diskC_y hd,←hfin]
  refine end_ret ?_ ⟨rfl,rfl,trivial⟩
  rfl
theorem crash_all{keep:List Int}:∀(ws:List Write) (k:Nat) (cs:List Cell),(∀j,k≤j→j<k+ws.length→keep[j]? = some 128)→(∀w∈ws,w.bytes.length=128∧w.at_.toNat<cs.length)→cs.all cellOk=true→crashGo keep ws k cs=ws.foldl syncStep cs
 |[],_,_,_,_,_=>rfl
 |w::ws,k,cs,hk,hw,hc=>by
  have h1:=hw w (by simp)
  have hkk:=hk k (Nat.le_refl _) (by simp)
  have e:crashStep keep cs k w=syncStep cs w:=by
   rw[crash_n (m:=128) (by rw[hkk];decide) (by rw[hkk];decide) (by omega) (.inr (by omega)) h1.2,torn_all (full_len (cell_at hc h1.2)) h1.1];rfl
  show crashGo keep ws (k+1) (crashStep keep cs k w)=_
  rw[e,List.foldl_cons]
  refine crash_all ws (k+1) _ (fun j hj1 hj2=>hk j (by omega) (by simp;omega)) (fun x hx=>?_) (cells_set hc h1.1)
  have:=hw x (by simp[hx])
  exact⟨this.1,by unfold syncStep;rw[List.length_set];exact this.2⟩
theorem diskC_sync{d:Disk}(h:diskOk d=true):diskC d (List.replicate d.dirty.length 128)=diskS d:=by
 rw[diskC_y h,diskS_y h]
 unfold synK
 rw[List.take_length]
 refine congrArg (fun c=>(⟨c,[]⟩:Disk)) (crash_all _ 0 _ (fun j _ hj=>by rw[List.getElem?_replicate];exact if_pos (by omega)) (fun w hw=>?_) (dok_iff h).2.1)
 obtain⟨j,hj,rfl⟩:=List.getElem_of_mem hw
 exact⟨dok_w h hj,(dok_at h hj).2⟩
theorem sdiskSync_o(d:Disk)(hd:diskOk d=true):GC Try.prog 64 [diskV d] [] (oDisk) (obF (diskS d)):=by
 refine GC.intro (rs:=[.cell 2 34 (some 2)]) Try.func64 rfl Try.ntmps64 (Nat.le_of_ble_eq_true rfl) ⟨rfl,rfl,ty.kd34,trivial⟩ ?_
 intro L O w0
 refine sL<|lst (zX 2001 Z) Z<|lst (zA 2002 ty.ze34 Z) Z<|nG<|aS ?_
 have hsz:=(dok_iff hd).1
 refine aL<|lst (zS 2004 (rowsOf encKey []) ty.el112 ty.ze3 rfl (by intro r hr;cases hr)) Z<|laO Z<|nG<|aS<|sL<|lf 1 ty.F34_1 Z<|loL ty.kd32 Z<|lnI ty.sl32 rfl ?_
 refine AL.slot 7 (int (d.dirty.length:Int)) (congrArg (fun n:Nat=>int (n:Int)) (rowsW_len _)) ?_
 refine lmI Z<|nG<|aB ?_
 refine aW [1,2,7] [2001,2002] (D:=Nat) (fun a=>[(8,int (a:Int)),(3,.own 2004)]) (fun a=>[(2004,kAr (List.replicate a 128))]) (fun a=>a≤d.dirty.length) (fun a=>d.dirty.length-a) (0) (Nat.zero_le _) ⟨rfl,rfl,trivial⟩ ⟨rfl,trivial⟩ ?_
 intro k hI
 have hkl:k≤d.dirty.length:=hI
 refine sL<|lbB Z<|nG<|aS ?_
 refine AW.cond rfl ?_ ?_
 ·intro h1
  refine aK<|gT<|aS<|aB ?_
  have hk:k<d.dirty.length:=by have h:=h1;simp only[decide_eq_true_eq]at h;omega
  refine aL<|lmO Z<|lst (zS 2011 (rowsOf encKey [128]) ty.el112 ty.ze3 rfl) Z<|lst (zP 2004 ty.el112 ty.ze3 ty.by3 rfl (Src.own rfl rfl) (by simp[rowsOf];omega)) Z<|laO Z<|lN<|gB<|gT<|aL<|lgI Z<|lmI Z<|nG ?_
  refine⟨(k+1),hk,by show d.dirty.length-(k+1)<d.dirty.length-k;omega,⟨(iq rfl),rfl,trivial⟩,⟨(Eq.trans (b:=AO.arr 3 1 (rowsOf encKey (List.replicate k 128)++rowsOf encKey [128])) rfl (congrArg (AO.arr 3 1) (by rw[←oapp,←List.replicate_succ']))),trivial⟩,rfl,rfl⟩
 ·intro h1
  refine aE<|eT<|eT<|eB<|gT<|aS ?_
  have hke:k=d.dirty.length:=by have h:=h1;simp only[decide_eq_false_iff_not]at h;omega
  refine aL<|loX (.agg [vL _ _ _,vL _ _ _]) ty.kd34 Z<|lmO Z ?_
  refine AL.freeze 2004 rfl ?_
  refine lst (zC [(1,1),(2,2)] [1,2] [] Try.func67 (sdiskCrash_o d (List.replicate k 128) hd) (trivial) Z Z) Z<|lT [2,16] [1,2,2001,2002] ?_
  refine lst (zB 2002 ty.co34 ty.inf34 Z) Z<|nG<|aR ?_
  rw[←diskC_sync hd,←hke]
  refine end_ret ?_ ⟨rfl,rfl,trivial⟩
  rfl
theorem sdiskCrash_f(d:Disk)(keep:List Int)(hd:diskOk d=true):GC Try.prog 67 [diskV d,inV keep] [] (diskV (diskC d keep)) []:=(sdiskCrash_o d keep hd).disk
theorem slogOpen_o(d:Disk)(hb:DkB d):GC Try.prog 26 [diskV d] [] (.tup [.agg [.own 1,.own 2,int (lgOpL d).next,int (lgOpL d).epoch],.own 3,int (lgOpC d)]) (obFL (lgOpL d).disk (lgOpE d)):=by
 refine GC.intro (rs:=[.cell 2 36 (some 4),.tmp 3,.tmp 4]) Try.func26 rfl Try.ntmps26 (Nat.le_of_ble_eq_true rfl) ⟨rfl,rfl,ty.kd36,rfl,rfl,trivial⟩ ?_
 intro L O w0
 refine sL<|lst (zX 2001 Z) Z<|lst (zA 2002 ty.ze36 Z) Z<|laV Z<|laI Z<|nG<|aS<|sL<|loX (.agg [vL _ _ _,vL _ _ _]) ty.kd34 Z<|lst (zC [] [] [] Try.func41 (sdiskOk_e d) (trivial) Z Z) Z<|luB Z<|lmB Z ?_
 refine AL.bool (t:=15) rfl ?_ ?_
 ·intro h1
  refine lno Z<|lno Z<|lno Z<|lno Z<|lkT Z<|nG<|aY Z<|sL<|lq (rd (x:=.agg [vV _,vV _,vI _ _,vI _ _]) (rd_build Z ty.sa36 Z Z Z) Z)<|lst (zB 2002 ty.co36 ty.inf36 Z) Z<|laV Z<|laI Z<|nG ?_
  refine AW.adoptB 1 2002 0 115 1 rfl (by decide) rfl ?_
  refine AW.adoptB 2 2002 1 123 2 rfl (by decide) rfl ?_
  refine AW.adoptT 3 3 40 7 rfl ?_
  refine aR<|rT ?_
  have hc:lgOpC d=1:=lg1 (by first|exact .inl (by simpa using h1)|exact .inr (by have h:=h1;simp only[gt_iff_lt,decide_eq_true_eq]at h;omega))
  have hL:=lgL_n (d:=d) (by rw[hc];decide)
  have hE:=lgE_n (d:=d) (by rw[hc];decide)
  rw[hc,hL,hE]
  refine end_ret ?_ ⟨rfl,rfl,rfl,trivial⟩
  rfl
 ·intro h1
  refine lf 1 ty.F34_1 Z<|loL ty.kd32 Z<|lnI ty.sl32 Z ?_
  refine AL.slot 18 (int (d.dirty.length:Int)) (congrArg (fun n:Nat=>int (n:Int)) (rowsW_len _)) ?_
  refine lbB Z<|lkB Z<|nG ?_
  refine AW.cond rfl ?_ ?_
  ·intro h2
   refine sL<|lq (rd (x:=.agg [vV _,vV _,vI _ _,vI _ _]) (rd_build Z ty.sa36 Z Z Z) Z)<|lst (zB 2002 ty.co36 ty.inf36 Z) Z<|lT [1,2,3,4] [2001,2002] ?_
   refine laV Z<|laI Z<|nG ?_
   refine AW.adoptB 1 2002 0 115 1 rfl (by decide) rfl ?_
   refine AW.adoptB 2 2002 1 123 2 rfl (by decide) rfl ?_
   refine AW.adoptT 3 3 40 7 rfl ?_
   refine aR<|rT ?_
   have hc:lgOpC d=1:=lg1 (by first|exact .inl (by simpa using h2)|exact .inr (by have h:=h2;simp only[gt_iff_lt,decide_eq_true_eq]at h;omega)|exact .inl (by simpa using h1)|exact .inr (by have h:=h1;simp only[gt_iff_lt,decide_eq_true_eq]at h;omega))
   have hL:=lgL_n (d:=d) (by rw[hc];decide)
   have hE:=lgE_n (d:=d) (by rw[hc];decide)
   rw[hc,hL,hE]
   refine end_ret ?_ ⟨rfl,rfl,rfl,trivial⟩
   rfl
  ·intro h2
   refine aK<|gT<|aS ?_
   have hd:diskOk d=true:=by first|(have h:=h2;simpa using h;done)|(have h:=h1;simpa using h;done)
   have hw0:d.dirty.length=0:=by first|(have h:=h2;simp only[gt_iff_lt,decide_eq_false_iff_not]at h;omega;done)|(have h:=h1;simp only[gt_iff_lt,decide_eq_false_iff_not]at h;omega;done)
   have hle:=logR_le hd
   have hsz:=(dok_iff hd).1
   obtain⟨ht0,ht1⟩:=logTop_bd d
   refine aL<|loX (.agg [vL _ _ _,vL _ _ _]) ty.kd34 Z<|lst (zC [] [] [] Try.func32 (slogRead_e d hb) (trivial) Z Z) Z<|lmX (.tup [vL _ _ _,vI _ _]) Z<|lxL Z<|lxI Z<|laL Z<|laI Z<|nA<|loX (.agg [vL _ _ _,vL _ _ _]) ty.kd34 Z<|lst (zC [] [] [] Try.func33 (slogTop_e d hb) (trivial) Z Z) Z<|laI Z<|nG<|aS<|sL<|lmI Z<|lf 0 ty.F34_0 Z<|loL ty.kd31 Z<|lnI ty.sl31 Z ?_
   refine AL.slot 32 (int (d.cells.length:Int)) (congrArg (fun n:Nat=>int (n:Int)) (rowsC_len _)) ?_
   refine lbB Z<|lmB Z ?_
   refine AL.bool (t:=34) rfl ?_ ?_
   ·intro h3
    refine lno Z<|lno Z<|lkT Z<|nG<|aY Z<|sL<|lq (rd (x:=.agg [vV _,vV _,vI _ _,vI _ _]) (rd_build Z ty.sa36 Z Z Z) Z)<|lst (zB 2002 ty.co36 ty.inf36 Z) Z<|lT [1,2,3,4,6,7] [2001,2002] ?_
    refine laV Z<|laI Z<|nG ?_
    refine AW.adoptB 1 2002 0 115 1 rfl (by decide) rfl ?_
    refine AW.adoptB 2 2002 1 123 2 rfl (by decide) rfl ?_
    refine AW.adoptT 3 3 40 7 rfl ?_
    refine aR<|rT ?_
    have hc:lgOpC d=2:=lg2 hd hw0 (by first|exact .inl (by have h:=h3;simp only[decide_eq_true_eq]at h;omega)|exact .inr (by have h:=h3;simp only[decide_eq_true_eq]at h;omega)|exact .inl (by have h:=h2;simp only[decide_eq_true_eq]at h;omega)|exact .inr (by have h:=h2;simp only[decide_eq_true_eq]at h;omega)|exact .inl (by have h:=h1;simp only[decide_eq_true_eq]at h;omega)|exact .inr (by have h:=h1;simp only[decide_eq_true_eq]at h;omega))
    have hL:=lgL_n (d:=d) (by rw[hc];decide)
    have hE:=lgE_n (d:=d) (by rw[hc];decide)
    rw[hc,hL,hE]
    refine end_ret ?_ ⟨rfl,rfl,rfl,trivial⟩
    rfl
   ·intro h3
    refine lmI Z<|lbB Z<|lkB Z<|nG ?_
    refine AW.cond rfl ?_ ?_
    ·intro h4
     refine sL<|lq (rd (x:=.agg [vV _,vV _,vI _ _,vI _ _]) (rd_build Z ty.sa36 Z Z Z) Z)<|lst (zB 2002 ty.co36 ty.inf36 Z) Z<|laV Z<|laI Z<|nG ?_
     refine AW.adoptB 1 2002 0 115 1 rfl (by decide) rfl ?_
     refine AW.adoptB 2 2002 1 123 2 rfl (by decide) rfl ?_
     refine AW.adoptT 3 3 40 7 rfl ?_
     refine aR<|rT ?_
     have hc:lgOpC d=2:=lg2 hd hw0 (by first|exact .inl (by have h:=h4;simp only[decide_eq_true_eq]at h;omega)|exact .inr (by have h:=h4;simp only[decide_eq_true_eq]at h;omega)|exact .inl (by have h:=h3;simp only[decide_eq_true_eq]at h;omega)|exact .inr (by have h:=h3;simp only[decide_eq_true_eq]at h;omega)|exact .inl (by have h:=h2;simp only[decide_eq_true_eq]at h;omega)|exact .inr (by have h:=h2;simp only[decide_eq_true_eq]at h;omega)|exact .inl (by have h:=h1;simp only[decide_eq_true_eq]at h;omega)|exact .inr (by have h:=h1;simp only[decide_eq_true_eq]at h;omega))
     have hL:=lgL_n (d:=d) (by rw[hc];decide)
     have hE:=lgE_n (d:=d) (by rw[hc];decide)
     rw[hc,hL,hE]
     refine end_ret ?_ ⟨rfl,rfl,rfl,trivial⟩
     rfl
    ·intro h4
     refine aK<|gT<|aS ?_
     have hn:¬((logR d).length=d.cells.length∨16000000≤logTop d):=by
      have h1:=h3
      have h2:=h4
      simp only[decide_eq_false_iff_not]at h1 h2
      omega
     have hlt:(logR d).length<d.cells.length:=by omega
     have hS:=bSec hd hlt (by omega)
     have hBl:(secB ⟨(logR d).length,logTop d+1,[66]⟩).length=128:=secB_length (Nat.le_of_ble_eq_true rfl)
     refine aL<|lmI Z<|lmI Z<|lgI Z<|lst (zS 2043 (rowsOf encU [66]) ty.el56 ty.ze5 Z) Z<|lq (rd (x:=.agg [vI _ _,vI _ _,.own _]) (rd_build Z ty.sa92 Z Z Z) Z) ?_
     refine AL.freeze 2043 rfl ?_
     refine lst (zC [] [] [] Try.func44 (ssectorBytes_e (⟨(logR d).length,logTop d+1,[66]⟩:Sector)) (trivial) rfl rfl) rfl ?_
     refine AL.slot 45 (.tup [byV (secB (⟨(logR d).length,logTop d+1,[66]⟩:Sector)),boo true]) (Eq.trans (b:=AV.tup [byV (secX (⟨(logR d).length,logTop d+1,[66]⟩:Sector)),boo (secOk (⟨(logR d).length,logTop d+1,[66]⟩:Sector))]) rfl (by rw[secX_y hS,hS])) ?_
     refine lT [1,2,3,4,6,7,45] [2001,2002] ?_
     refine lmX (.tup [vL _ _ _,vB _]) Z<|lxL Z<|lxB Z<|laL Z<|laB Z<|nA<|loX (.agg [vL _ _ _,vL _ _ _]) ty.kd34 Z<|lmI Z<|lmL Z ?_
     refine lst (zC [] [] [] Try.func45 (sdiskWrite_f d (logR d).length (secB (⟨(logR d).length,logTop d+1,[66]⟩:Sector)) hd hlt (by omega) hBl) (trivial) rfl rfl) Z<|lmX (.tup [.agg [vL _ _ _,vL _ _ _],vB _]) Z<|lxX (.agg [vL _ _ _,vL _ _ _]) Z<|lxB Z<|lst (zA 2010 ty.ze34 rfl) Z<|lst (zB 2010 ty.co34 ty.inf34 rfl) Z<|lT [1,2,3,4,6,7,10,54] [2001,2002,2010] ?_
     refine laB Z<|nG<|aS<|aF [9]<|sq 0 (roX (.agg [vL _ _ _,vL _ _ _]) ty.kd34 rfl)<|pq 2 (qmX (vI _ _) rfl)<|sq 3 (rgI rfl (by unfold i64;omega))<|pq 4 (qmX (vI _ _) rfl)<|sq 5 (rgI rfl (by unfold i64;omega))<|sq 7 (roX (.agg [vL _ _ _,vL _ _ _]) ty.kd34 rfl) ?_
     refine vst 1 rfl (zC [(1,1),(2,2)] [1,2] [] Try.func64 (sdiskSync_o (diskW d (logR d).length (secB ⟨(logR d).length,logTop d+1,[66]⟩)) (dok_diskW hd hlt (by omega) hBl)) (trivial) rfl rfl) (.inr rfl)<|sq 6 (rd (x:=.agg [.own _,.own _,vI _ _,vI _ _]) (rd_build rfl ty.sa36 rfl rfl rfl) rfl)<|vst 8 rfl (zC [(1,3)] [3] [] Try.func18 (slogEvents_o d hb) (trivial) rfl rfl) (.inr rfl)<|vst 9 rfl (zB 2002 ty.co36 ty.inf36 rfl) (.inl rfl)<|vq 10 (raO rfl)<|vq 11 (raI rfl)<|fD<|gT<|aR ?_
     have hc:lgOpC d=0:=lg0 hd hw0 hn
     have hL:=lgL_y hc
     have hE:=lgE_y hc
     rw[hc,hL,hE]
     refine end_ret ?_ ⟨rfl,rfl,rfl,trivial⟩
     rfl
theorem inB_n{n a b:Int}(h:¬(a≤n∧n≤b)):inB n a b=false:=Bool.eq_false_iff.2 fun q=>h (inB_iff.1 q)
theorem slogAdd_o(l:Log)(e:Event):GC Try.prog 10 [logV l,evV e] [] (.tup [.agg [.own 1,.own 2,int (lgAddL l e).next,int (lgAddL l e).epoch],int (lgAddC l e)]) (obF (lgAddL l e).disk):=by
 refine GC.intro (rs:=[.cell 4 36 (some 4),.tmp 5]) Try.func10 rfl Try.ntmps10 (Nat.le_of_ble_eq_true rfl) ⟨rfl,rfl,ty.kd36,rfl,trivial⟩ ?_
 intro L O w0
 refine sL<|lst (zX 2002 Z) Z<|lst (zX 2003 Z) Z<|lst (zA 2004 ty.ze36 Z) Z<|laI Z<|nG<|aS<|sL<|lf 0 ty.F36_0 Z<|loX (.agg [vL _ _ _,vL _ _ _]) ty.kd34 Z<|lst (zC [] [] [] Try.func41 (sdiskOk_e l.disk) (trivial) Z Z) Z<|luB Z<|lmB Z ?_
 refine AL.bool (t:=16) rfl ?_ ?_
 ·intro h1
  refine lno Z<|lno Z<|lno Z<|lkT Z<|lmT Z<|lno Z<|lno Z<|lno Z<|lno Z<|lno Z<|lno Z<|lno Z<|lkT Z<|lmT Z<|lno Z<|lno Z<|lno Z<|lkT Z<|lmT Z<|lno Z<|lno Z<|lno Z<|lkT Z<|lmT Z<|lno Z<|lno Z<|lno Z<|lkT Z<|nG ?_
  refine aY Z<|sL<|lq (rd (x:=.agg [vV _,vV _,vI _ _,vI _ _]) (rd_build Z ty.sa36 Z Z Z) Z)<|lst (zB 2004 ty.co36 ty.inf36 Z) Z<|lT [2,3,4,5] [2002,2003,2004] ?_
  refine laI Z<|nG ?_
  refine AW.adoptB 1 2004 0 115 1 rfl (by decide) rfl ?_
  refine AW.adoptB 2 2004 1 123 2 rfl (by decide) rfl ?_
  refine aR<|rT ?_
  have hc:lgAddC l e=1:=ad1 (by first|exact .inl (by simpa using h1)|exact .inr (.inl (inB_n (by have h:=h1;simp only[gt_iff_lt,decide_eq_true_eq]at h;omega)))|exact .inr (.inr (.inl (inB_n (by have h:=h1;simp only[gt_iff_lt,decide_eq_true_eq]at h;omega))))|exact .inr (.inr (.inr (by simpa using h1))))
  have hL:=adL_n (l:=l) (e:=e) (by rw[hc];decide)
  rw[hc,hL]
  refine end_ret ?_ ⟨rfl,rfl,trivial⟩
  rfl
 ·intro h1
  refine lf 2 ty.F36_1 Z<|loI ty.kd3 Z<|lbB Z<|lkB Z<|lmB Z ?_
  refine AL.bool (t:=21) rfl ?_ ?_
  ·intro h2
   refine lno Z<|lno Z<|lno Z<|lno Z<|lno Z<|lno Z<|lno Z<|lkT Z<|lmT Z<|lno Z<|lno Z<|lno Z<|lkT Z<|lmT Z<|lno Z<|lno Z<|lno Z<|lkT Z<|lmT Z<|lno Z<|lno Z<|lno Z<|lkT Z<|nG<|aY Z<|sL<|lq (rd (x:=.agg [vV _,vV _,vI _ _,vI _ _]) (rd_build Z ty.sa36 Z Z Z) Z)<|lst (zB 2004 ty.co36 ty.inf36 Z) Z ?_
   refine lT [2,3,4,5] [2002,2003,2004] ?_
   refine laI Z<|nG ?_
   refine AW.adoptB 1 2004 0 115 1 rfl (by decide) rfl ?_
   refine AW.adoptB 2 2004 1 123 2 rfl (by decide) rfl ?_
   refine aR<|rT ?_
   have hc:lgAddC l e=1:=ad1 (by first|exact .inl (by simpa using h2)|exact .inr (.inl (inB_n (by have h:=h2;simp only[gt_iff_lt,decide_eq_true_eq]at h;omega)))|exact .inr (.inr (.inl (inB_n (by have h:=h2;simp only[gt_iff_lt,decide_eq_true_eq]at h;omega))))|exact .inr (.inr (.inr (by simpa using h2)))|exact .inl (by simpa using h1)|exact .inr (.inl (inB_n (by have h:=h1;simp only[gt_iff_lt,decide_eq_true_eq]at h;omega)))|exact .inr (.inr (.inl (inB_n (by have h:=h1;simp only[gt_iff_lt,decide_eq_true_eq]at h;omega))))|exact .inr (.inr (.inr (by simpa using h1))))
   have hL:=adL_n (l:=l) (e:=e) (by rw[hc];decide)
   rw[hc,hL]
   refine end_ret ?_ ⟨rfl,rfl,trivial⟩
   rfl
  ·intro h2
   refine lf 2 ty.F36_1 Z<|loI ty.kd3 Z<|lf 0 ty.F36_0 Z<|lf 0 ty.F34_0 Z<|loL ty.kd31 Z<|lnI ty.sl31 Z ?_
   refine AL.slot 27 (int (l.disk.cells.length:Int)) (congrArg (fun n:Nat=>int (n:Int)) (rowsC_len _)) ?_
   refine lbB Z<|lkB Z<|lmB Z ?_
   refine AL.bool (t:=30) rfl ?_ ?_
   ·intro h3
    refine lno Z<|lno Z<|lno Z<|lkT Z<|lmT Z<|lno Z<|lno Z<|lno Z<|lkT Z<|lmT Z<|lno Z<|lno Z<|lno Z<|lkT Z<|nG<|aY Z<|sL<|lq (rd (x:=.agg [vV _,vV _,vI _ _,vI _ _]) (rd_build Z ty.sa36 Z Z Z) Z)<|lst (zB 2004 ty.co36 ty.inf36 Z) Z<|lT [2,3,4,5] [2002,2003,2004] ?_
    refine laI Z<|nG ?_
    refine AW.adoptB 1 2004 0 115 1 rfl (by decide) rfl ?_
    refine AW.adoptB 2 2004 1 123 2 rfl (by decide) rfl ?_
    refine aR<|rT ?_
    have hc:lgAddC l e=1:=ad1 (by first|exact .inl (by simpa using h3)|exact .inr (.inl (inB_n (by have h:=h3;simp only[gt_iff_lt,decide_eq_true_eq]at h;omega)))|exact .inr (.inr (.inl (inB_n (by have h:=h3;simp only[gt_iff_lt,decide_eq_true_eq]at h;omega))))|exact .inr (.inr (.inr (by simpa using h3)))|exact .inl (by simpa using h2)|exact .inr (.inl (inB_n (by have h:=h2;simp only[gt_iff_lt,decide_eq_true_eq]at h;omega)))|exact .inr (.inr (.inl (inB_n (by have h:=h2;simp only[gt_iff_lt,decide_eq_true_eq]at h;omega))))|exact .inr (.inr (.inr (by simpa using h2)))|exact .inl (by simpa using h1)|exact .inr (.inl (inB_n (by have h:=h1;simp only[gt_iff_lt,decide_eq_true_eq]at h;omega)))|exact .inr (.inr (.inl (inB_n (by have h:=h1;simp only[gt_iff_lt,decide_eq_true_eq]at h;omega))))|exact .inr (.inr (.inr (by simpa using h1))))
    have hL:=adL_n (l:=l) (e:=e) (by rw[hc];decide)
    rw[hc,hL]
    refine end_ret ?_ ⟨rfl,rfl,trivial⟩
    rfl
   ·intro h3
    refine lf 3 ty.F36_2 Z<|loI ty.kd3 Z<|lbB Z<|lkB Z<|lmB Z ?_
    refine AL.bool (t:=35) rfl ?_ ?_
    ·intro h4
     refine lno Z<|lno Z<|lno Z<|lkT Z<|lmT Z<|lno Z<|lno Z<|lno Z<|lkT Z<|nG<|aY Z<|sL<|lq (rd (x:=.agg [vV _,vV _,vI _ _,vI _ _]) (rd_build Z ty.sa36 Z Z Z) Z)<|lst (zB 2004 ty.co36 ty.inf36 Z) Z<|laI Z<|nG ?_
     refine AW.adoptB 1 2004 0 115 1 rfl (by decide) rfl ?_
     refine AW.adoptB 2 2004 1 123 2 rfl (by decide) rfl ?_
     refine aR<|rT ?_
     have hc:lgAddC l e=1:=ad1 (by first|exact .inl (by simpa using h4)|exact .inr (.inl (inB_n (by have h:=h4;simp only[gt_iff_lt,decide_eq_true_eq]at h;omega)))|exact .inr (.inr (.inl (inB_n (by have h:=h4;simp only[gt_iff_lt,decide_eq_true_eq]at h;omega))))|exact .inr (.inr (.inr (by simpa using h4)))|exact .inl (by simpa using h3)|exact .inr (.inl (inB_n (by have h:=h3;simp only[gt_iff_lt,decide_eq_true_eq]at h;omega)))|exact .inr (.inr (.inl (inB_n (by have h:=h3;simp only[gt_iff_lt,decide_eq_true_eq]at h;omega))))|exact .inr (.inr (.inr (by simpa using h3)))|exact .inl (by simpa using h2)|exact .inr (.inl (inB_n (by have h:=h2;simp only[gt_iff_lt,decide_eq_true_eq]at h;omega)))|exact .inr (.inr (.inl (inB_n (by have h:=h2;simp only[gt_iff_lt,decide_eq_true_eq]at h;omega))))|exact .inr (.inr (.inr (by simpa using h2)))|exact .inl (by simpa using h1)|exact .inr (.inl (inB_n (by have h:=h1;simp only[gt_iff_lt,decide_eq_true_eq]at h;omega)))|exact .inr (.inr (.inl (inB_n (by have h:=h1;simp only[gt_iff_lt,decide_eq_true_eq]at h;omega))))|exact .inr (.inr (.inr (by simpa using h1))))
     have hL:=adL_n (l:=l) (e:=e) (by rw[hc];decide)
     rw[hc,hL]
     refine end_ret ?_ ⟨rfl,rfl,trivial⟩
     rfl
    ·intro h4
     refine lf 3 ty.F36_2 Z<|loI ty.kd3 Z<|lbB Z<|lkB Z<|lmB Z ?_
     refine AL.bool (t:=40) rfl ?_ ?_
     ·intro h5
      refine lno Z<|lno Z<|lno Z<|lkT Z<|nG<|aY Z<|sL<|lq (rd (x:=.agg [vV _,vV _,vI _ _,vI _ _]) (rd_build Z ty.sa36 Z Z Z) Z)<|lst (zB 2004 ty.co36 ty.inf36 Z) Z<|lT [2,3,4,5] [2002,2003,2004] ?_
      refine laI Z<|nG ?_
      refine AW.adoptB 1 2004 0 115 1 rfl (by decide) rfl ?_
      refine AW.adoptB 2 2004 1 123 2 rfl (by decide) rfl ?_
      refine aR<|rT ?_
      have hc:lgAddC l e=1:=ad1 (by first|exact .inl (by simpa using h5)|exact .inr (.inl (inB_n (by have h:=h5;simp only[gt_iff_lt,decide_eq_true_eq]at h;omega)))|exact .inr (.inr (.inl (inB_n (by have h:=h5;simp only[gt_iff_lt,decide_eq_true_eq]at h;omega))))|exact .inr (.inr (.inr (by simpa using h5)))|exact .inl (by simpa using h4)|exact .inr (.inl (inB_n (by have h:=h4;simp only[gt_iff_lt,decide_eq_true_eq]at h;omega)))|exact .inr (.inr (.inl (inB_n (by have h:=h4;simp only[gt_iff_lt,decide_eq_true_eq]at h;omega))))|exact .inr (.inr (.inr (by simpa using h4)))|exact .inl (by simpa using h3)|exact .inr (.inl (inB_n (by have h:=h3;simp only[gt_iff_lt,decide_eq_true_eq]at h;omega)))|exact .inr (.inr (.inl (inB_n (by have h:=h3;simp only[gt_iff_lt,decide_eq_true_eq]at h;omega))))|exact .inr (.inr (.inr (by simpa using h3)))|exact .inl (by simpa using h2)|exact .inr (.inl (inB_n (by have h:=h2;simp only[gt_iff_lt,decide_eq_true_eq]at h;omega)))|exact .inr (.inr (.inl (inB_n (by have h:=h2;simp only[gt_iff_lt,decide_eq_true_eq]at h;omega))))|exact .inr (.inr (.inr (by simpa using h2)))|exact .inl (by simpa using h1)|exact .inr (.inl (inB_n (by have h:=h1;simp only[gt_iff_lt,decide_eq_true_eq]at h;omega)))|exact .inr (.inr (.inl (inB_n (by have h:=h1;simp only[gt_iff_lt,decide_eq_true_eq]at h;omega))))|exact .inr (.inr (.inr (by simpa using h1))))
      have hL:=adL_n (l:=l) (e:=e) (by rw[hc];decide)
      rw[hc,hL]
      refine end_ret ?_ ⟨rfl,rfl,trivial⟩
      rfl
     ·intro h5
      refine loX (.agg [vI _ _,vI _ _,vI _ _,vI _ _,vI _ _,vI _ _,vB _]) ty.kd40 Z<|lst (zC [] [] [] Try.func42 (seventOk_e e) (trivial) Z Z) Z<|luB Z<|lkB Z<|nG ?_
      refine AW.cond rfl ?_ ?_
      ·intro h6
       refine sL<|lq (rd (x:=.agg [vV _,vV _,vI _ _,vI _ _]) (rd_build Z ty.sa36 Z Z Z) Z)<|lst (zB 2004 ty.co36 ty.inf36 Z) Z<|laI Z<|nG ?_
       refine AW.adoptB 1 2004 0 115 1 rfl (by decide) rfl ?_
       refine AW.adoptB 2 2004 1 123 2 rfl (by decide) rfl ?_
       refine aR<|rT ?_
       have hc:lgAddC l e=1:=ad1 (by first|exact .inl (by simpa using h6)|exact .inr (.inl (inB_n (by have h:=h6;simp only[gt_iff_lt,decide_eq_true_eq]at h;omega)))|exact .inr (.inr (.inl (inB_n (by have h:=h6;simp only[gt_iff_lt,decide_eq_true_eq]at h;omega))))|exact .inr (.inr (.inr (by simpa using h6)))|exact .inl (by simpa using h5)|exact .inr (.inl (inB_n (by have h:=h5;simp only[gt_iff_lt,decide_eq_true_eq]at h;omega)))|exact .inr (.inr (.inl (inB_n (by have h:=h5;simp only[gt_iff_lt,decide_eq_true_eq]at h;omega))))|exact .inr (.inr (.inr (by simpa using h5)))|exact .inl (by simpa using h4)|exact .inr (.inl (inB_n (by have h:=h4;simp only[gt_iff_lt,decide_eq_true_eq]at h;omega)))|exact .inr (.inr (.inl (inB_n (by have h:=h4;simp only[gt_iff_lt,decide_eq_true_eq]at h;omega))))|exact .inr (.inr (.inr (by simpa using h4)))|exact .inl (by simpa using h3)|exact .inr (.inl (inB_n (by have h:=h3;simp only[gt_iff_lt,decide_eq_true_eq]at h;omega)))|exact .inr (.inr (.inl (inB_n (by have h:=h3;simp only[gt_iff_lt,decide_eq_true_eq]at h;omega))))|exact .inr (.inr (.inr (by simpa using h3)))|exact .inl (by simpa using h2)|exact .inr (.inl (inB_n (by have h:=h2;simp only[gt_iff_lt,decide_eq_true_eq]at h;omega)))|exact .inr (.inr (.inl (inB_n (by have h:=h2;simp only[gt_iff_lt,decide_eq_true_eq]at h;omega))))|exact .inr (.inr (.inr (by simpa using h2)))|exact .inl (by simpa using h1)|exact .inr (.inl (inB_n (by have h:=h1;simp only[gt_iff_lt,decide_eq_true_eq]at h;omega)))|exact .inr (.inr (.inl (inB_n (by have h:=h1;simp only[gt_iff_lt,decide_eq_true_eq]at h;omega))))|exact .inr (.inr (.inr (by simpa using h1))))
       have hL:=adL_n (l:=l) (e:=e) (by rw[hc];decide)
       rw[hc,hL]
       refine end_ret ?_ ⟨rfl,rfl,trivial⟩
       rfl
      ·intro h6
       refine aK<|gT<|aS<|aS ?_
       have hd:diskOk l.disk=true:=by first|(have h:=h6;simpa using h;done)|(have h:=h5;simpa using h;done)|(have h:=h4;simpa using h;done)|(have h:=h3;simpa using h;done)|(have h:=h2;simpa using h;done)|(have h:=h1;simpa using h;done)
       have hi:inB l.next 0 l.disk.cells.length=true:=inB_iff.2 (by
        have h1:=h2
        have h2:=h3
        simp only[decide_eq_false_iff_not]at h1 h2
        omega)
       have hp:inB l.epoch 1 16000000=true:=inB_iff.2 (by
        have h1:=h4
        have h2:=h5
        simp only[decide_eq_false_iff_not]at h1 h2
        omega)
       have he:eventOk e=true:=by first|(have h:=h6;simpa using h;done)|(have h:=h5;simpa using h;done)|(have h:=h4;simpa using h;done)|(have h:=h3;simpa using h;done)|(have h:=h2;simpa using h;done)|(have h:=h1;simpa using h;done)
       have hsz:=(dok_iff hd).1
       have hi2:=inB_iff.1 hi
       refine aL<|lf 2 ty.F36_1 Z<|loI ty.kd3 Z<|lf 0 ty.F36_0 Z<|lf 0 ty.F34_0 Z<|loL ty.kd31 Z<|lnI ty.sl31 Z ?_
       refine AL.slot 51 (int (l.disk.cells.length:Int)) (congrArg (fun n:Nat=>int (n:Int)) (rowsC_len _)) ?_
       refine lbB Z<|lmB Z ?_
       refine AL.bool (t:=53) rfl ?_ ?_
       ·intro h7
        refine lno Z<|lno Z<|lno Z<|lno Z<|lno Z<|lkT Z<|nG<|aY Z<|sL<|lq (rd (x:=.agg [vV _,vV _,vI _ _,vI _ _]) (rd_build Z ty.sa36 Z Z Z) Z)<|lst (zB 2004 ty.co36 ty.inf36 Z) Z<|lT [2,3,4,5] [2002,2003,2004] ?_
        refine laI Z<|nG ?_
        refine AW.adoptB 1 2004 0 115 1 rfl (by decide) rfl ?_
        refine AW.adoptB 2 2004 1 123 2 rfl (by decide) rfl ?_
        refine aR<|rT ?_
        have hc:lgAddC l e=2:=ad2 hd hi hp he (by first|exact .inl (by have h:=h7;simp only[decide_eq_true_eq]at h;omega)|exact .inr (by have h:=h7;simp only[ge_iff_le,decide_eq_true_eq]at h;omega)|exact .inl (by have h:=h6;simp only[decide_eq_true_eq]at h;omega)|exact .inr (by have h:=h6;simp only[ge_iff_le,decide_eq_true_eq]at h;omega)|exact .inl (by have h:=h5;simp only[decide_eq_true_eq]at h;omega)|exact .inr (by have h:=h5;simp only[ge_iff_le,decide_eq_true_eq]at h;omega)|exact .inl (by have h:=h4;simp only[decide_eq_true_eq]at h;omega)|exact .inr (by have h:=h4;simp only[ge_iff_le,decide_eq_true_eq]at h;omega)|exact .inl (by have h:=h3;simp only[decide_eq_true_eq]at h;omega)|exact .inr (by have h:=h3;simp only[ge_iff_le,decide_eq_true_eq]at h;omega)|exact .inl (by have h:=h2;simp only[decide_eq_true_eq]at h;omega)|exact .inr (by have h:=h2;simp only[ge_iff_le,decide_eq_true_eq]at h;omega)|exact .inl (by have h:=h1;simp only[decide_eq_true_eq]at h;omega)|exact .inr (by have h:=h1;simp only[ge_iff_le,decide_eq_true_eq]at h;omega))
        have hL:=adL_n (l:=l) (e:=e) (by rw[hc];decide)
        rw[hc,hL]
        refine end_ret ?_ ⟨rfl,rfl,trivial⟩
        rfl
       ·intro h7
        refine lf 0 ty.F36_0 Z<|lf 1 ty.F34_1 Z<|loL ty.kd32 Z<|lnI ty.sl32 Z ?_
        refine AL.slot 57 (int (l.disk.dirty.length:Int)) (congrArg (fun n:Nat=>int (n:Int)) (rowsW_len _)) ?_
        refine lbB Z<|lkB Z<|nG ?_
        refine AW.cond rfl ?_ ?_
        ·intro h8
         refine sL<|lq (rd (x:=.agg [vV _,vV _,vI _ _,vI _ _]) (rd_build Z ty.sa36 Z Z Z) Z)<|lst (zB 2004 ty.co36 ty.inf36 Z) Z<|laI Z<|nG ?_
         refine AW.adoptB 1 2004 0 115 1 rfl (by decide) rfl ?_
         refine AW.adoptB 2 2004 1 123 2 rfl (by decide) rfl ?_
         refine aR<|rT ?_
         have hc:lgAddC l e=2:=ad2 hd hi hp he (by first|exact .inl (by have h:=h8;simp only[decide_eq_true_eq]at h;omega)|exact .inr (by have h:=h8;simp only[ge_iff_le,decide_eq_true_eq]at h;omega)|exact .inl (by have h:=h7;simp only[decide_eq_true_eq]at h;omega)|exact .inr (by have h:=h7;simp only[ge_iff_le,decide_eq_true_eq]at h;omega)|exact .inl (by have h:=h6;simp only[decide_eq_true_eq]at h;omega)|exact .inr (by have h:=h6;simp only[ge_iff_le,decide_eq_true_eq]at h;omega)|exact .inl (by have h:=h5;simp only[decide_eq_true_eq]at h;omega)|exact .inr (by have h:=h5;simp only[ge_iff_le,decide_eq_true_eq]at h;omega)|exact .inl (by have h:=h4;simp only[decide_eq_true_eq]at h;omega)|exact .inr (by have h:=h4;simp only[ge_iff_le,decide_eq_true_eq]at h;omega)|exact .inl (by have h:=h3;simp only[decide_eq_true_eq]at h;omega)|exact .inr (by have h:=h3;simp only[ge_iff_le,decide_eq_true_eq]at h;omega)|exact .inl (by have h:=h2;simp only[decide_eq_true_eq]at h;omega)|exact .inr (by have h:=h2;simp only[ge_iff_le,decide_eq_true_eq]at h;omega)|exact .inl (by have h:=h1;simp only[decide_eq_true_eq]at h;omega)|exact .inr (by have h:=h1;simp only[ge_iff_le,decide_eq_true_eq]at h;omega))
         have hL:=adL_n (l:=l) (e:=e) (by rw[hc];decide)
         rw[hc,hL]
         refine end_ret ?_ ⟨rfl,rfl,trivial⟩
         rfl
        ·intro h8
         refine aK<|gT<|aS ?_
         have hn:¬(l.next=l.disk.cells.length∨600≤l.disk.dirty.length):=by
          have h1:=h7
          have h2:=h8
          simp only[ge_iff_le,decide_eq_false_iff_not]at h1 h2
          omega
         have hS:=adSec (e:=e) hd hi hp (by omega)
         have hBl:(secB (⟨l.next,l.epoch,evB e⟩:Sector)).length=128:=secB_length (by rw[show ((⟨l.next,l.epoch,evB e⟩:Sector)).body=evB e from rfl,evB_length];decide)
         refine aL<|loX (.agg [vI _ _,vI _ _,vI _ _,vI _ _,vI _ _,vI _ _,vB _]) ty.kd40 Z<|lst (zC [] [] [] Try.func43 (seventBody_e e) (trivial) Z Z) Z ?_
         refine AL.slot 63 (.tup [byV (evB e),boo true]) (Eq.trans (b:=AV.tup [byV (evX e),boo (eventOk e)]) rfl (by rw[evX_y he,he])) ?_
         refine lmX (.tup [vL _ _ _,vB _]) Z<|lxL Z<|lxB Z<|laL Z<|laB Z<|nA<|lf 2 ty.F36_1 Z<|loI ty.kd3 Z<|lf 3 ty.F36_2 Z<|loI ty.kd3 Z<|lmL Z<|lq (rd (x:=.agg [vI _ _,vI _ _,vL _ _ _]) (rd_build Z ty.sa92 Z Z Z) Z) ?_
         refine lst (zC [] [] [] Try.func44 (ssectorBytes_e (⟨l.next,l.epoch,evB e⟩:Sector)) (trivial) rfl rfl) rfl ?_
         refine AL.slot 73 (.tup [byV (secB (⟨l.next,l.epoch,evB e⟩:Sector)),boo true]) (Eq.trans (b:=AV.tup [byV (secX (⟨l.next,l.epoch,evB e⟩:Sector)),boo (secOk (⟨l.next,l.epoch,evB e⟩:Sector))]) rfl (by rw[secX_y hS,hS])) ?_
         refine lT [2,4,5,73] [2002,2003,2004] ?_
         refine lmX (.tup [vL _ _ _,vB _]) Z<|lxL Z<|lxB Z<|laL Z<|laB Z<|nA<|lf 0 ty.F36_0 Z<|loX (.agg [vL _ _ _,vL _ _ _]) ty.kd34 Z<|lf 2 ty.F36_1 Z<|loI ty.kd3 Z<|lsN 80 ((l.next.toNat:Nat):Int) rfl (by omega)<|lmL rfl ?_
         refine lst (zC [(1,1),(2,2)] [1,2] [] Try.func45 (sdiskWrite_o l.disk l.next.toNat (secB (⟨l.next,l.epoch,evB e⟩:Sector)) hd (by omega) (by omega) hBl) (trivial) rfl rfl) Z<|lmX (.tup [.agg [.own _,.own _],vB true]) Z<|lxX (.agg [.own _,.own _]) Z<|lxX (vB true) Z<|lst (zA 2010 ty.ze34 rfl) Z<|lT [2,4,5,10,83,84] [1,2,2002,2003,2004,2010] ?_
         refine lst (zB 2010 ty.co34 ty.inf34 Z) Z<|laT Z<|nA<|loX (.agg [.own _,.own _]) ty.kd34 Z<|lf 2 ty.F36_1 Z<|loI ty.kd3 Z<|lgI Z<|lf 3 ty.F36_2 Z<|loI ty.kd3 Z<|lq (rd (x:=.agg [.own _,.own _,vI _ _,vI _ _]) (rd_build Z ty.sa36 Z Z Z) Z)<|lst (zB 2004 ty.co36 ty.inf36 Z) Z<|laI Z<|nG<|aR ?_
         have hc:lgAddC l e=0:=ad0 hd hi hp he hn
         have hL:=adL_y hc
         rw[hc,hL]
         refine end_ret ?_ ⟨rfl,rfl,trivial⟩
         rfl
theorem slogSync_o(l:Log):GC Try.prog 113 [logV l] [] (.agg [.own 1,.own 2,int (lgSyL l).next,int (lgSyL l).epoch]) (obF (lgSyL l).disk):=by
 refine GC.intro (rs:=[.cell 2 36 (some 4)]) Try.func113 rfl Try.ntmps113 (Nat.le_of_ble_eq_true rfl) ⟨rfl,rfl,ty.kd36,trivial⟩ ?_
 intro L O w0
 refine sL<|lst (zX 2001 Z) Z<|lst (zA 2002 ty.ze36 Z) Z<|nG<|aS<|sL<|lf 0 ty.F36_0 Z<|loX (.agg [vL _ _ _,vL _ _ _]) ty.kd34 Z<|lst (zC [] [] [] Try.func41 (sdiskOk_e l.disk) (trivial) Z Z) Z<|luB Z<|nG ?_
 refine AW.cond rfl ?_ ?_
 ·intro h1
  refine sL<|lq (rd (x:=.agg [vV _,vV _,vI _ _,vI _ _]) (rd_build Z ty.sa36 Z Z Z) Z)<|lst (zB 2002 ty.co36 ty.inf36 Z) Z<|nG ?_
  refine AW.adoptB 1 2002 0 115 1 rfl (by decide) rfl ?_
  refine AW.adoptB 2 2002 1 123 2 rfl (by decide) rfl ?_
  refine aR<|rT ?_
  have hd:diskOk l.disk=false:=by first|(have h:=h1;simpa using h;done)
  rw[sy_n hd]
  refine end_ret ?_ ⟨rfl,rfl,trivial⟩
  rfl
 ·intro h1
  refine aK<|gT<|aS ?_
  have hd:diskOk l.disk=true:=by first|(have h:=h1;simpa using h;done)
  have hsz:=(dok_iff hd).1
  refine aF [8]<|pq 0 (qf 0 ty.F36_0 Z)<|sq 1 (roX (.agg [vL _ _ _,vL _ _ _]) ty.kd34 Z)<|pq 3 (qf 2 ty.F36_1 Z)<|sq 4 (roI ty.kd3 Z)<|pq 5 (qf 3 ty.F36_2 Z)<|sq 6 (roI ty.kd3 Z)<|vst 2 Z (zC [(1,1),(2,2)] [1,2] [] Try.func64 (sdiskSync_o l.disk hd) (trivial) Z Z) (.inr Z)<|fT [2,10,12,14] [1,2,2001,2002] ?_
  refine vq 7 (rd (x:=.agg [.own _,.own _,vI _ _,vI _ _]) (rd_build Z ty.sa36 Z Z Z) Z)<|vst 8 Z (zB 2002 ty.co36 ty.inf36 Z) (.inl Z)<|fD<|gT<|aR ?_
  rw[sy_y hd]
  refine end_ret ?_ ⟨rfl,rfl,trivial⟩
  rfl

theorem bits_and_le(x:Int)(m:Nat)(hm:m<9223372036854775808):0≤bits BinOp.and IntKind.i64 x (m:Int)∧bits BinOp.and IntKind.i64 x (m:Int)≤m:=by
 have h1:(BitVec.ofInt 64 x &&& BitVec.ofInt 64 (m:Int)).toNat≤m:=by
  rw[BitVec.toNat_and]
  have h2:(BitVec.ofInt 64 (m:Int)).toNat=m:=by
   rw[BitVec.toNat_ofInt]
   omega
  rw[h2]
  exact Nat.and_le_right
 have h3:bits BinOp.and IntKind.i64 x (m:Int)=IntKind.i64.wrap ((BitVec.ofInt 64 x &&& BitVec.ofInt 64 (m:Int)).toNat:Int):=rfl
 rw[h3]
 generalize (BitVec.ofInt 64 x &&& BitVec.ofInt 64 (m:Int)).toNat=z at *
 have h4:IntKind.i64.wrap (z:Int)=z:=by
  simp[IntKind.wrap,IntKind.bits,IntKind.signed]
  omega
 rw[h4]
 omega
abbrev encU8(b:Int):List Value:=[.int .u8 b]
abbrev curO(g:Value)(code:List Int)(i:Nat)(h:Int):AO:=.box 160 (some g) [.p (.lst 5 1 (rowsOf encU8 code)),int (i:Int),int h]
def CurOk(code:List Int)(i:Nat):Prop:=i≤code.length∧code.length≤1048576
def DrR(g:Value)(code:List Int)(R:AV→Prop):AV→List (Nat×AO)→Prop:=fun x ob=>∃i h,CurOk code i∧R x∧ob=[(0,curO g code i h)]
def DrI(R:Int→Prop):AV→Prop:=fun x=>∃n,R n∧x=int n
theorem pins_cur{g:Value}{code:List Int}{i:Nat}{h:Int}{R:AV→Prop}:∀x ob1,DrR g code R x ob1→pins [(0,curO g code i h)] ob1 [0]:=fun x ob1 ⟨_,_,_,_,e⟩=>by
 subst e
 exact⟨stays.box (Eq.refl 3),trivial⟩
theorem and_bd(x:Int)(m:Nat)(hm:m<9223372036854775808):0≤bits .and .i64 x (m:Int)∧bits .and .i64 x (m:Int)≤m:=bits_and_le x m hm
theorem tmod_bd{n m:Int}(h0:0≤n)(hm:1≤m):0≤n.tmod m∧n.tmod m<m:=⟨Int.tmod_nonneg _ h0,Int.tmod_lt_of_pos _ (by omega)⟩

theorem l01New_e(code:List Int)(hm:code.length≤1048576):GX Try.prog 66 [.p (.lst 5 1 (rowsOf encU8 code))] [] (fun x ob=>∃h,x=.ptr 31 0 0∧ob=[(31,.box 160 none [.p (.lst 5 1 (rowsOf encU8 code)),int ((0:Nat):Int),int h])]):=by
 refine GX.intro (rs:=[.tmp 2]) Try.func66 rfl Try.ntmps66 (Nat.le_of_ble_eq_true rfl) ⟨rfl,trivial⟩ ?_
 intro L O w0
 refine sL<|laV Z<|nA<|lmL Z<|lnI ty.sl56 Z ?_
 refine lhI rfl ⟨rfl,fits_i64 (by rw[length_rowsOf];unfold i64;omega)⟩<|laI Z<|nG<|aS<|sL<|laI Z<|nG<|aB ?_
 refine aW [0,2] [] (D:=Nat×Int) (fun d=>[(4,int (d.1:Int)),(3,int d.2)]) (fun d=>[]) (fun d=>d.1≤code.length) (fun d=>code.length-d.1) ((0,_)) (Nat.zero_le _) ⟨rfl,rfl,trivial⟩ trivial ?_
 intro ⟨j,q⟩ hI
 replace hI:j≤code.length:=hI
 refine aS<|sL<|lmI Z<|lmL Z<|lnI ty.sl56 Z<|lbB Z<|lmB Z ?_
 refine AL.bool (t:=12) rfl ?_ ?_
 ·intro h1
  refine lmI Z<|lbB Z<|lkB Z<|nG ?_
  refine AW.cond rfl ?_ ?_
  ·intro h2
   refine aK<|gT<|aS<|aB<|aL<|lmI Z<|lq (rd (x:=vI _ _) (rd_val Z Z Z (run_mulw Z) Z) Z)<|lmL Z<|lmI Z ?_
   have hj:j<code.length:=by have h:=h1;rw[length_rowsOf]at h;simp only[decide_eq_true_eq,Bool.and_eq_true]at h;omega
   refine li j ty.el56 Z (row_map hj)<|lrI ty.kd5 Z<|lq (rd (x:=vI _ _) (rd_conv Z ty.ik5 ty.ik3 Z) Z)<|lq (rd (x:=vI _ _) (rd_val Z Z Z (run_addw Z) Z) Z)<|lq (rd (x:=vI _ _) (rd_val Z Z Z (run_addw Z) Z) Z)<|lq (rd (x:=vI _ _) (rd_val Z Z Z (run_and Z) Z) Z)<|laI Z<|lN<|gB<|gT<|aL<|lmI Z<|lgI Z<|laI Z<|nG ?_
   refine⟨(j+1,_),hj,by show code.length-(j+1)<code.length-j;omega,⟨(iq rfl),rfl,trivial⟩,trivial,rfl,rfl⟩
  ·intro h2
   refine aE<|eT<|eT<|eB<|gA<|lmL Z<|lmI Z<|lT [2,28,29] [] ?_
   refine lq (rd (x:=.agg [vL _ _ _,vI _ _,vI _ _]) (rd_build Z ty.sa160 Z Z Z) Z)<|lst (zX 31 Z) Z<|laP Z<|nG<|aR ?_
   refine end_xret (.ptr 31 0 0) [(31,.box 160 none [.p (.lst 5 1 (rowsOf encU8 code)),int ((0:Nat):Int),int q])] ?_ rfl ⟨rfl,trivial⟩
   exact⟨_,rfl,rfl⟩
 ·intro h1
  refine lno Z<|lno Z<|lkZ Z<|nG<|aN Z<|aE<|eT<|eT<|eB<|gA<|lmL Z<|lmI Z<|lq (rd (x:=.agg [vL _ _ _,vI _ _,vI _ _]) (rd_build Z ty.sa160 Z Z Z) Z)<|lst (zX 31 Z) Z<|laP Z<|nG<|aR ?_
  refine end_xret (.ptr 31 0 0) [(31,.box 160 none [.p (.lst 5 1 (rowsOf encU8 code)),int ((0:Nat):Int),int q])] ?_ rfl ⟨rfl,trivial⟩
  exact⟨_,rfl,rfl⟩
theorem l01Byte_e(g:Value)(code:List Int)(i:Nat)(h:Int)(hc:CurOk code i):GX Try.prog 115 [.ptr 0 0 0] [(0,curO g code i h)] (DrR g code (DrI fun n=>0≤n∧n≤255)):=by
 refine GX.intro (rs:=[.tmp 2]) Try.func115 rfl Try.ntmps115 (Nat.le_of_ble_eq_true rfl) ⟨rfl,trivial⟩ ?_
 intro L O w0
 refine sL<|laI Z<|nA<|lmP Z<|lmP Z<|lc Z<|lf 2 ty.F160_2 Z<|loI ty.kd3 Z<|lq (rd (x:=vI _ _) (rd_val Z Z Z (run_mulw Z) Z) Z)<|lq (rd (x:=vI _ _) (rd_val Z Z Z (run_addw Z) Z) Z)<|lc Z<|lf 2 ty.F160_2 Z<|lst (zB 0 ty.co3 ty.inf3 Z) Z<|nG<|aS<|aF []<|pq 0 (qmP Z)<|pq 1 (qc Z)<|pq 2 (qf 2 ty.F160_2 Z)<|sq 3 (roI ty.kd3 Z) ?_
 refine sq 4 (rhI rfl ⟨rfl,by decide,by decide⟩)<|vq 5 (rmP rfl)<|vq 6 (rc rfl)<|vq 7 (rf 2 ty.F160_2 rfl)<|vq 8 (roI ty.kd3 rfl) ?_
 refine vq 9 (rhI rfl ⟨rfl,by decide,by decide⟩)<|vq 10 (rd (x:=vI _ _) (rd_val rfl rfl rfl (run_xor rfl) rfl) rfl)<|vq 11 (rd (x:=vI _ _) (rd_val rfl rfl rfl (run_and rfl) rfl) rfl)<|vq 12 (raI rfl)<|fD<|gT<|aS<|aS<|aF []<|pq 0 (qmP rfl)<|pq 1 (qc rfl)<|pq 2 (qf 1 ty.F160_1 rfl)<|sq 3 (roI ty.kd3 rfl)<|vq 4 (rmP rfl)<|vq 5 (rc rfl)<|fT [0,2,3,28,30] [0] ?_
 refine vq 6 (rf 0 ty.F160_0 Z)<|vq 7 (roL ty.kd56 Z)<|vq 8 (rnI ty.sl56 Z)<|vq 9 (rbB Z)<|fD<|gT ?_
 refine AW.cond rfl ?_ ?_
 ·intro h1
  refine aS<|aF []<|pq 0 (qmX (vI _ _) Z)<|pq 1 (qmP Z)<|pq 2 (qc Z)<|pq 3 (qf 0 ty.F160_0 Z)<|sq 4 (roL ty.kd56 Z)<|vq 5 (rmP Z)<|vq 6 (rc Z)<|vq 7 (rf 1 ty.F160_1 Z)<|vq 8 (roI ty.kd3 Z) ?_
  have hi:i<code.length:=by have h:=h1;rw[length_rowsOf]at h;simp only[decide_eq_true_eq]at h;omega
  refine vq 9 (ri i ty.el56 Z (row_map hi))<|vq 10 (rrI ty.kd5 Z)<|vq 11 (rd (x:=vI _ _) (rd_conv Z ty.ik5 ty.ik3 Z) Z)<|vq 12 (rd (x:=vI _ _) (rd_val Z Z Z (run_addw Z) Z) Z)<|vq 13 (rd (x:=vI _ _) (rd_val Z Z Z (run_and Z) Z) Z)<|vq 14 (raI Z)<|fD<|gT<|aL<|lmP Z<|lmP Z<|lc Z<|lf 1 ty.F160_1 Z<|loI ty.kd3 Z ?_
  refine lhI rfl ⟨rfl,fits_i64 (by unfold i64;have:=hc.2;omega)⟩<|lc Z<|lf 1 ty.F160_1 Z<|lst (zB 0 ty.co3 ty.inf3 rfl) Z<|lT [2,3] [0] ?_
  refine nA<|lmI Z<|laI Z<|nG<|aR ?_
  refine end_xret (int _) [(0,curO g code (i+1) _)] ?_ rfl ⟨(congrArg (fun z:Int=>AO.box 160 (some g) [.p (.lst 5 1 (rowsOf encU8 code)),int z,int _]) (by omega)),trivial⟩
  exact⟨i+1,_,⟨hi,hc.2⟩,⟨_,and_bd _ 255 (by decide),rfl⟩,rfl⟩
 ·intro h1
  refine aK<|gA<|lmI Z<|laI Z<|nG<|aR ?_
  refine end_xret (int _) [(0,curO g code i _)] ?_ rfl ⟨rfl,trivial⟩
  exact⟨i,_,hc,⟨_,and_bd _ 255 (by decide),rfl⟩,rfl⟩
theorem l01Below_e(g:Value)(code:List Int)(i:Nat)(h m:Int)(hc:CurOk code i):GX Try.prog 69 [.ptr 0 0 0,int m] [(0,curO g code i h)] (DrR g code (DrI fun n=>0≤n∧(n<m∨m≤0∧n=0))):=by
 refine GX.intro (rs:=[.tmp 4]) Try.func69 rfl Try.ntmps69 (Nat.le_of_ble_eq_true rfl) ⟨rfl,trivial⟩ ?_
 intro L O w0
 refine sL<|laI Z<|nG<|aS<|sL<|lmI Z<|lbB Z<|nG ?_
 refine AW.cond rfl ?_ ?_
 ·intro h1
  refine sL<|laI Z<|nG<|aR<|rT ?_
  have hm0:m≤0:=by have h:=h1;simpa using h
  refine end_xret (int 0) [(0,curO g code i h)] ?_ rfl ⟨rfl,trivial⟩
  exact⟨i,h,hc,⟨0,⟨by omega,.inr ⟨hm0,rfl⟩⟩,rfl⟩,rfl⟩
 ·intro h1
  refine aK<|gT<|aS<|sL<|lmI Z<|lbB Z<|nG ?_
  refine AW.cond rfl ?_ ?_
  ·intro h2
   refine sL<|lmP Z ?_
   refine lX [(0,0)] [] [0] Try.func115 (l01Byte_e g code _ _ hc) (⟨⟨0,rfl,rfl⟩,trivial⟩) (pins_cur) Z ?_
   intro xz1 oz1 hz1
   obtain⟨i1,q1,hc1,⟨n1,⟨na1,nb1⟩,rfl⟩,rfl⟩:=hz1
   refine lmI rfl ?_
   refine lhI rfl ⟨rfl,by have h:=h1;simp only[decide_eq_false_iff_not]at h;omega⟩<|laI Z<|nG<|aR<|rT ?_
   have hm1:1≤m:=by have h:=h1;simp only[decide_eq_false_iff_not]at h;omega
   obtain⟨z1,z2⟩:=tmod_bd (n:=n1) (m:=m) (by omega) hm1
   refine end_xret (int (n1.tmod m)) [(0,curO g code i1 q1)] ?_ rfl ⟨rfl,trivial⟩
   exact⟨i1,q1,hc1,⟨_,⟨z1,.inl z2⟩,rfl⟩,rfl⟩
  ·intro h2
   refine aK<|gA<|lmP Z ?_
   refine lX [(0,0)] [] [0] Try.func115 (l01Byte_e g code _ _ hc) (⟨⟨0,rfl,rfl⟩,trivial⟩) (pins_cur) Z ?_
   intro xz2 oz2 hz2
   obtain⟨i2,q2,hc2,⟨n2,⟨na2,nb2⟩,rfl⟩,rfl⟩:=hz2
   refine laI Z<|nA<|lmP Z ?_
   refine lX [(0,0)] [] [0] Try.func115 (l01Byte_e g code _ _ hc2) (⟨⟨0,rfl,rfl⟩,trivial⟩) (pins_cur) Z ?_
   intro xz3 oz3 hz3
   obtain⟨i3,q3,hc3,⟨n3,⟨na3,nb3⟩,rfl⟩,rfl⟩:=hz3
   refine lT [0,1,4,5,20] [0] ?_
   refine laI Z<|nA<|lmP Z ?_
   refine lX [(0,0)] [] [0] Try.func115 (l01Byte_e g code _ _ hc3) (⟨⟨0,rfl,rfl⟩,trivial⟩) (pins_cur) Z ?_
   intro xz4 oz4 hz4
   obtain⟨i4,q4,hc4,⟨n4,⟨na4,nb4⟩,rfl⟩,rfl⟩:=hz4
   refine laI Z<|nA<|lmP Z ?_
   refine lX [(0,0)] [] [0] Try.func115 (l01Byte_e g code _ _ hc4) (⟨⟨0,rfl,rfl⟩,trivial⟩) (pins_cur) Z ?_
   intro xz5 oz5 hz5
   obtain⟨i5,q5,hc5,⟨n5,⟨na5,nb5⟩,rfl⟩,rfl⟩:=hz5
   refine laI Z<|nA<|lmI Z<|lgI Z<|lmI Z<|lgI Z<|lgI Z<|lmI Z<|lgI Z<|lgI Z<|lmI Z<|lgI Z<|lmI Z ?_
   refine lhI rfl ⟨rfl,by have h:=h1;simp only[decide_eq_false_iff_not]at h;omega⟩<|laI Z<|nG<|aR ?_
   have hm1:1≤m:=by have h:=h1;simp only[decide_eq_false_iff_not]at h;omega
   obtain⟨z1,z2⟩:=tmod_bd (n:=(n2*16777216+n3*65536+n4*256+n5)) (m:=m) (by omega) hm1
   refine end_xret (int ((n2*16777216+n3*65536+n4*256+n5).tmod m)) [(0,curO g code i5 q5)] ?_ rfl ⟨rfl,trivial⟩
   exact⟨i5,q5,hc5,⟨_,⟨z1,.inl z2⟩,rfl⟩,rfl⟩
theorem shl_bd{n:Int}(h0:0≤n)(h1:n<51):0<1*(2:Int) ^ n.toNat∧1*(2:Int) ^ n.toNat≤1125899906842624:=by
 obtain⟨k,rfl⟩:=Int.eq_ofNat_of_zero_le h0
 have hk:k<51:=by omega
 have e:((k:Int)).toNat=k:=Int.toNat_natCast k
 rw[e,Int.one_mul]
 refine⟨Int.pow_pos (by decide),?_⟩
 have h2:(2:Nat) ^ k≤2 ^ 50:=Nat.pow_le_pow_right (by decide) (by omega)
 have h3:((2 ^ k:Nat):Int)≤((2 ^ 50:Nat):Int):=Int.ofNat_le.2 h2
 rw[Int.natCast_pow]at h3
 have h4:((2 ^ 50:Nat):Int)=1125899906842624:=by decide
 omega
theorem l01Raw_e(g:Value)(code:List Int)(i:Nat)(h:Int)(hc:CurOk code i):GX Try.prog 117 [.ptr 0 0 0] [(0,curO g code i h)] (DrR g code (DrI i64)):=by
 refine GX.intro (rs:=[.tmp 2]) Try.func117 rfl Try.ntmps117 (Nat.le_of_ble_eq_true rfl) ⟨rfl,trivial⟩ ?_
 intro L O w0
 refine sL<|laI Z<|nA<|lmP Z ?_
 refine lX [(0,0)] [] [0] Try.func69 (l01Below_e g code _ _ _ hc) (⟨⟨0,rfl,rfl⟩,trivial⟩) (pins_cur) Z ?_
 intro xz1 oz1 hz1
 obtain⟨i1,q1,hc1,⟨n1,⟨na1,nb1⟩,rfl⟩,rfl⟩:=hz1
 refine laI Z<|nG<|aS<|sL<|lmI Z<|lbB Z<|nG ?_
 refine AW.cond rfl ?_ ?_
 ·intro h1
  refine sL<|lmP Z ?_
  refine lX [(0,0)] [] [0] Try.func69 (l01Below_e g code _ _ _ hc1) (⟨⟨0,rfl,rfl⟩,trivial⟩) (pins_cur) Z ?_
  intro xz2 oz2 hz2
  obtain⟨i2,q2,hc2,⟨n2,⟨na2,nb2⟩,rfl⟩,rfl⟩:=hz2
  refine lgI Z<|laI Z<|nG<|aR<|rT ?_
  refine end_xret (int _) [(0,curO g code i2 q2)] ?_ rfl ⟨rfl,trivial⟩
  exact⟨i2,q2,hc2,⟨_,by unfold i64;omega,rfl⟩,rfl⟩
 ·intro h1
  refine aK<|gT<|aS<|sL<|lmI Z<|lbB Z<|nG ?_
  refine AW.cond rfl ?_ ?_
  ·intro h2
   refine sL<|lmP Z ?_
   refine lX [(0,0)] [] [0] Try.func69 (l01Below_e g code _ _ _ hc1) (⟨⟨0,rfl,rfl⟩,trivial⟩) (pins_cur) Z ?_
   intro xz3 oz3 hz3
   obtain⟨i3,q3,hc3,⟨n3,⟨na3,nb3⟩,rfl⟩,rfl⟩:=hz3
   refine lT [0,2,3,14] [0] ?_
   refine lgI Z<|laI Z<|nG<|aR<|rT ?_
   refine end_xret (int _) [(0,curO g code i3 q3)] ?_ rfl ⟨rfl,trivial⟩
   exact⟨i3,q3,hc3,⟨_,by unfold i64;omega,rfl⟩,rfl⟩
  ·intro h2
   refine aK<|gT<|aS<|sL<|lmI Z<|lbB Z<|nG ?_
   refine AW.cond rfl ?_ ?_
   ·intro h3
    refine sL<|lmP Z ?_
    refine lX [(0,0)] [] [0] Try.func69 (l01Below_e g code _ _ _ hc1) (⟨⟨0,rfl,rfl⟩,trivial⟩) (pins_cur) Z ?_
    intro xz4 oz4 hz4
    obtain⟨i4,q4,hc4,⟨n4,⟨na4,nb4⟩,rfl⟩,rfl⟩:=hz4
    refine lgI Z<|laI Z<|nG<|aR<|rT ?_
    refine end_xret (int _) [(0,curO g code i4 q4)] ?_ rfl ⟨rfl,trivial⟩
    exact⟨i4,q4,hc4,⟨_,by unfold i64;omega,rfl⟩,rfl⟩
   ·intro h3
    refine aK<|gT<|aS<|sL<|lmI Z<|lbB Z<|nG ?_
    refine AW.cond rfl ?_ ?_
    ·intro h4
     refine sL<|lmP Z ?_
     refine lX [(0,0)] [] [0] Try.func69 (l01Below_e g code _ _ _ hc1) (⟨⟨0,rfl,rfl⟩,trivial⟩) (pins_cur) Z ?_
     intro xz5 oz5 hz5
     obtain⟨i5,q5,hc5,⟨n5,⟨na5,nb5⟩,rfl⟩,rfl⟩:=hz5
     refine lgI Z<|laI Z<|nG<|aR<|rT ?_
     refine end_xret (int _) [(0,curO g code i5 q5)] ?_ rfl ⟨rfl,trivial⟩
     exact⟨i5,q5,hc5,⟨_,by unfold i64;omega,rfl⟩,rfl⟩
    ·intro h4
     refine aK<|gT<|aS<|sL<|lmI Z<|lbB Z<|nG ?_
     refine AW.cond rfl ?_ ?_
     ·intro h5
      refine sL<|lmP Z ?_
      refine lX [(0,0)] [] [0] Try.func69 (l01Below_e g code _ _ _ hc1) (⟨⟨0,rfl,rfl⟩,trivial⟩) (pins_cur) Z ?_
      intro xz6 oz6 hz6
      obtain⟨i6,q6,hc6,⟨n6,⟨na6,nb6⟩,rfl⟩,rfl⟩:=hz6
      refine lT [0,2,3,29] [0] ?_
      refine lgI Z<|laI Z<|nG<|aR<|rT ?_
      refine end_xret (int _) [(0,curO g code i6 q6)] ?_ rfl ⟨rfl,trivial⟩
      exact⟨i6,q6,hc6,⟨_,by unfold i64;omega,rfl⟩,rfl⟩
     ·intro h5
      refine aK<|gT<|aS<|sL<|lmI Z<|lbB Z<|nG ?_
      refine AW.cond rfl ?_ ?_
      ·intro h6
       refine sL<|lmP Z ?_
       refine lX [(0,0)] [] [0] Try.func69 (l01Below_e g code _ _ _ hc1) (⟨⟨0,rfl,rfl⟩,trivial⟩) (pins_cur) Z ?_
       intro xz7 oz7 hz7
       obtain⟨i7,q7,hc7,⟨n7,⟨na7,nb7⟩,rfl⟩,rfl⟩:=hz7
       refine lgI Z<|laI Z<|nG<|aR<|rT ?_
       refine end_xret (int _) [(0,curO g code i7 q7)] ?_ rfl ⟨rfl,trivial⟩
       exact⟨i7,q7,hc7,⟨_,by unfold i64;omega,rfl⟩,rfl⟩
      ·intro h6
       refine aK<|gT<|aS<|sL<|lmI Z<|lbB Z<|nG ?_
       refine AW.cond rfl ?_ ?_
       ·intro h7
        refine sL<|lmP Z ?_
        refine lX [(0,0)] [] [0] Try.func69 (l01Below_e g code _ _ _ hc1) (⟨⟨0,rfl,rfl⟩,trivial⟩) (pins_cur) Z ?_
        intro xz8 oz8 hz8
        obtain⟨i8,q8,hc8,⟨n8,⟨na8,nb8⟩,rfl⟩,rfl⟩:=hz8
        obtain⟨hs1,hs2⟩:=shl_bd (n:=n8) na8 (by omega)
        refine lhI rfl ⟨rfl,na8,by omega,by show IntKind.i64.wrap _=_;exact fits_i64 (by unfold i64;omega)⟩<|laI Z<|nG<|aR<|rT ?_
        refine end_xret (int _) [(0,curO g code i8 q8)] ?_ rfl ⟨rfl,trivial⟩
        exact⟨i8,q8,hc8,⟨_,by unfold i64;omega,rfl⟩,rfl⟩
       ·intro h7
        refine aK<|gA<|lmP Z ?_
        refine lX [(0,0)] [] [0] Try.func69 (l01Below_e g code _ _ _ hc1) (⟨⟨0,rfl,rfl⟩,trivial⟩) (pins_cur) Z ?_
        intro xz9 oz9 hz9
        obtain⟨i9,q9,hc9,⟨n9,⟨na9,nb9⟩,rfl⟩,rfl⟩:=hz9
        refine lT [0,2,42] [0] ?_
        refine lmP rfl ?_
        refine lX [(0,0)] [] [0] Try.func69 (l01Below_e g code _ _ _ hc9) (⟨⟨0,rfl,rfl⟩,trivial⟩) (pins_cur) Z ?_
        intro xz10 oz10 hz10
        obtain⟨i10,q10,hc10,⟨n10,⟨na10,nb10⟩,rfl⟩,rfl⟩:=hz10
        have hm1:0≤n9*n10:=Int.mul_nonneg na9 na10
        have hm2:n9*n10≤1000000*1000000:=Int.mul_le_mul (by omega) (by omega) na10 (by decide)
        refine lgI Z<|laI Z<|nG<|aR ?_
        refine end_xret (int _) [(0,curO g code i10 q10)] ?_ rfl ⟨rfl,trivial⟩
        exact⟨i10,q10,hc10,⟨_,by unfold i64;omega,rfl⟩,rfl⟩

def DrE:AV→Prop:=fun x=>∃e,wfEvent e∧x=evV e
abbrev evBx(T:Option Value)(a b c d e f:Int)(g:Bool):AO:=.box 40 T [int a,int b,int c,int d,int e,int f,boo g]
abbrev Ev7:=Int×Int×Int×Int×Int×Int×Bool
abbrev ev7(z:Ev7):Event:=⟨z.1,z.2.1,z.2.2.1,z.2.2.2.1,z.2.2.2.2.1,z.2.2.2.2.2.1,z.2.2.2.2.2.2⟩
theorem tmod4(x:Int):-3≤x.tmod 4∧x.tmod 4≤3:=by cases x<;>simp[Int.tmod]<;>omega
theorem l04Draw_e(g:Value)(code:List Int)(i:Nat)(h:Int)(hc:CurOk code i):GX Try.prog 114 [.ptr 0 0 0] [(0,curO g code i h)] (DrR g code DrE):=by
 refine GX.intro (rs:=[.cell 2 40 (some 7)]) Try.func114 rfl Try.ntmps114 (Nat.le_of_ble_eq_true rfl) ⟨rfl,rfl,ty.kd40,trivial⟩ ?_
 intro L O w0
 refine sL<|lst (zA 2002 ty.ze40 Z) Z<|nA<|lmP Z ?_
 refine lX [(0,0)] [] [0] Try.func69 (l01Below_e g code _ _ _ hc) (⟨⟨0,rfl,rfl⟩,trivial⟩) (pins_cur) Z ?_
 intro xz1 oz1 hz1
 obtain⟨i1,q1,hc1,⟨n1,⟨na1,nb1⟩,rfl⟩,rfl⟩:=hz1
 refine lgI Z<|laI Z<|nA<|lmI Z<|lq (rd (x:=.agg [vI _ _,vI _ _,vI _ _,vI _ _,vI _ _,vI _ _,vB false]) (rd_build Z ty.sa40 Z Z Z) Z)<|lst (zA 2004 ty.ze40 Z) Z<|lst (zB 2004 ty.co40 ty.inf40 Z) Z<|nA<|lmI Z<|lst (zC [(60,60)] [60] [] Try.func89 (shas_e _) (trivial) Z Z) Z<|laO Z<|nG ?_
 refine aJ [0,2,4,5] [60,2002] (D:=Nat×Int×Ev7) (fun d=>[]) (fun d=>[(0,curO g code d.1 d.2.1),(2004,evBx none d.2.2.1 d.2.2.2.1 d.2.2.2.2.1 d.2.2.2.2.2.1 d.2.2.2.2.2.2.1 d.2.2.2.2.2.2.2.1 d.2.2.2.2.2.2.2.2)]) (fun d=>CurOk code d.1∧wfEvent (ev7 d.2.2)) ?_ ?_
 ·refine sL<|lmO Z<|lq (rj 0 ty.el140 rfl (by show 0<6;decide))<|lq (rd (x:=vB _) (rd_load_arr rfl ty.kd4 rfl rfl rfl (rfl) rfl) rfl)<|nG ?_
  refine AW.cond rfl ?_ ?_
  ·intro h1
   refine aL<|lmP Z ?_
   refine lX [(0,0)] [] [0] Try.func69 (l01Below_e g code _ _ _ hc1) (⟨⟨0,rfl,rfl⟩,trivial⟩) (pins_cur) Z ?_
   intro xz2 oz2 hz2
   obtain⟨i2,q2,hc2,⟨n2,⟨na2,nb2⟩,rfl⟩,rfl⟩:=hz2
   refine lT [0,2,4,5,17] [0,60,2002,2004] ?_
   refine lgI Z<|lf 1 ty.F40_1 Z<|lst (zB 2004 ty.co3 ty.inf3 Z) Z<|nG ?_
   refine⟨(_,_,_,_,_,_,_,_,_),(by refine⟨by assumption,?_⟩;simp only[wfEvent,i64,ev7]at *;omega),trivial,⟨rfl,rfl,trivial⟩,rfl,rfl⟩
  ·intro h1
   refine aK<|gT ?_
   refine⟨(_,_,_,_,_,_,_,_,_),(by refine⟨by assumption,?_⟩;simp only[wfEvent,i64,ev7]at *;omega),trivial,⟨rfl,rfl,trivial⟩,rfl,rfl⟩
 ·intro ⟨iJ6,qJ6,ea6,eb6,ec6,ed6,ee6,ef6,eg6⟩ hJ6
  dsimp only
  obtain⟨hcJ6,hwJ6⟩:=hJ6
  replace hcJ6:CurOk code iJ6:=hcJ6
  unfold wfEvent i64 at hwJ6
  simp only[ev7]at hwJ6
  refine aJ [0,2,4,5] [60,2002] (D:=Nat×Int×Ev7) (fun d=>[]) (fun d=>[(0,curO g code d.1 d.2.1),(2004,evBx none d.2.2.1 d.2.2.2.1 d.2.2.2.2.1 d.2.2.2.2.2.1 d.2.2.2.2.2.2.1 d.2.2.2.2.2.2.2.1 d.2.2.2.2.2.2.2.2)]) (fun d=>CurOk code d.1∧wfEvent (ev7 d.2.2)) ?_ ?_
  ·refine sL<|lmO Z<|lq (rj 1 ty.el140 rfl (by show 1<6;decide))<|lq (rd (x:=vB _) (rd_load_arr rfl ty.kd4 rfl rfl rfl (rfl) rfl) rfl)<|nG ?_
   refine AW.cond rfl ?_ ?_
   ·intro h2
    refine aL<|lmP Z ?_
    refine lX [(0,0)] [] [0] Try.func69 (l01Below_e g code _ _ _ hcJ6) (⟨⟨0,rfl,rfl⟩,trivial⟩) (pins_cur) Z ?_
    intro xz3 oz3 hz3
    obtain⟨i3,q3,hc3,⟨n3,⟨na3,nb3⟩,rfl⟩,rfl⟩:=hz3
    refine lgI Z<|lf 2 ty.F40_2 Z<|lst (zB 2004 ty.co3 ty.inf3 Z) Z<|nG ?_
    refine⟨(_,_,_,_,_,_,_,_,_),(by refine⟨by assumption,?_⟩;simp only[wfEvent,i64,ev7]at *;omega),trivial,⟨rfl,rfl,trivial⟩,rfl,rfl⟩
   ·intro h2
    refine aK<|gT ?_
    refine⟨(_,_,_,_,_,_,_,_,_),(by refine⟨by assumption,?_⟩;simp only[wfEvent,i64,ev7]at *;omega),trivial,⟨rfl,rfl,trivial⟩,rfl,rfl⟩
  ·intro ⟨iJ8,qJ8,ea8,eb8,ec8,ed8,ee8,ef8,eg8⟩ hJ8
   dsimp only
   obtain⟨hcJ8,hwJ8⟩:=hJ8
   replace hcJ8:CurOk code iJ8:=hcJ8
   unfold wfEvent i64 at hwJ8
   simp only[ev7]at hwJ8
   refine aJ [0,2,4,5] [60,2002] (D:=Nat×Int×Ev7) (fun d=>[]) (fun d=>[(0,curO g code d.1 d.2.1),(2004,evBx none d.2.2.1 d.2.2.2.1 d.2.2.2.2.1 d.2.2.2.2.2.1 d.2.2.2.2.2.2.1 d.2.2.2.2.2.2.2.1 d.2.2.2.2.2.2.2.2)]) (fun d=>CurOk code d.1∧wfEvent (ev7 d.2.2)) ?_ ?_
   ·refine sL<|lmO Z<|lq (rj 2 ty.el140 rfl (by show 2<6;decide))<|lq (rd (x:=vB _) (rd_load_arr rfl ty.kd4 rfl rfl rfl (rfl) rfl) rfl)<|nG ?_
    refine AW.cond rfl ?_ ?_
    ·intro h3
     refine aG 8 [0]<|tq 0 (rf 2 ty.F40_2 Z)<|tq 1 (roI ty.kd3 Z)<|yq 2 (rmP Z) ?_
     refine AG.stx (i:=3) rfl (by kernel_rfl) (St.callX [(0,0)] [] [0] rfl (by intro s hs;cases hs;decide) rfl Try.func69 rfl rfl (l01Below_e g code _ _ _ hcJ8) ⟨rfl,rfl,rfl⟩ (⟨⟨0,rfl,rfl⟩,trivial⟩) (pins_cur) rfl) (exK (l:=[0]) rfl rfl) rfl ?_
     rintro _ _ ⟨xz5,oz5,hz5,rfl,rfl⟩
     obtain⟨i5,q5,hc5,⟨n5,⟨na5,nb5⟩,rfl⟩,rfl⟩:=hz5
     refine yq 4 (rd (x:=vI _ _) (rd_val rfl rfl rfl (run_addw rfl) rfl) rfl) ?_
     refine yq 5 (rhI rfl ⟨rfl,by decide⟩) ?_
     have ht4:=tmod4 (IntKind.i64.wrap (ec8+n5))
     refine yq 6 (rgI rfl (by unfold i64;omega))<|yq 7 (rf 3 ty.F40_3 rfl)<|yl rfl (zB 2004 ty.co3 ty.inf3 rfl)<|gT ?_
     refine⟨(_,_,_,_,_,_,_,_,_),(by refine⟨by assumption,?_⟩;simp only[wfEvent,i64,ev7]at *;omega),trivial,⟨rfl,rfl,trivial⟩,rfl,rfl⟩
    ·intro h3
     refine aK<|gT ?_
     refine⟨(_,_,_,_,_,_,_,_,_),(by refine⟨by assumption,?_⟩;simp only[wfEvent,i64,ev7]at *;omega),trivial,⟨rfl,rfl,trivial⟩,rfl,rfl⟩
   ·intro ⟨iJ10,qJ10,ea10,eb10,ec10,ed10,ee10,ef10,eg10⟩ hJ10
    dsimp only
    obtain⟨hcJ10,hwJ10⟩:=hJ10
    replace hcJ10:CurOk code iJ10:=hcJ10
    unfold wfEvent i64 at hwJ10
    simp only[ev7]at hwJ10
    refine aJ [0,2,4,5] [60,2002] (D:=Nat×Int×Ev7) (fun d=>[]) (fun d=>[(0,curO g code d.1 d.2.1),(2004,evBx none d.2.2.1 d.2.2.2.1 d.2.2.2.2.1 d.2.2.2.2.2.1 d.2.2.2.2.2.2.1 d.2.2.2.2.2.2.2.1 d.2.2.2.2.2.2.2.2)]) (fun d=>CurOk code d.1∧wfEvent (ev7 d.2.2)) ?_ ?_
    ·refine sL<|lmO Z<|lq (rj 3 ty.el140 rfl (by show 3<6;decide))<|lq (rd (x:=vB _) (rd_load_arr rfl ty.kd4 rfl rfl rfl (rfl) rfl) rfl)<|nG ?_
     refine AW.cond rfl ?_ ?_
     ·intro h4
      refine aL<|lmP Z ?_
      refine lX [(0,0)] [] [0] Try.func69 (l01Below_e g code _ _ _ hcJ10) (⟨⟨0,rfl,rfl⟩,trivial⟩) (pins_cur) Z ?_
      intro xz6 oz6 hz6
      obtain⟨i6,q6,hc6,⟨n6,⟨na6,nb6⟩,rfl⟩,rfl⟩:=hz6
      refine lgI Z<|lgI Z<|lf 4 ty.F40_4 Z<|lst (zB 2004 ty.co3 ty.inf3 Z) Z<|nG ?_
      refine⟨(_,_,_,_,_,_,_,_,_),(by refine⟨by assumption,?_⟩;simp only[wfEvent,i64,ev7]at *;omega),trivial,⟨rfl,rfl,trivial⟩,rfl,rfl⟩
     ·intro h4
      refine aK<|gT ?_
      refine⟨(_,_,_,_,_,_,_,_,_),(by refine⟨by assumption,?_⟩;simp only[wfEvent,i64,ev7]at *;omega),trivial,⟨rfl,rfl,trivial⟩,rfl,rfl⟩
    ·intro ⟨iJ12,qJ12,ea12,eb12,ec12,ed12,ee12,ef12,eg12⟩ hJ12
     dsimp only
     obtain⟨hcJ12,hwJ12⟩:=hJ12
     replace hcJ12:CurOk code iJ12:=hcJ12
     unfold wfEvent i64 at hwJ12
     simp only[ev7]at hwJ12
     refine aJ [0,2,4,5] [60,2002] (D:=Nat×Int×Ev7) (fun d=>[]) (fun d=>[(0,curO g code d.1 d.2.1),(2004,evBx none d.2.2.1 d.2.2.2.1 d.2.2.2.2.1 d.2.2.2.2.2.1 d.2.2.2.2.2.2.1 d.2.2.2.2.2.2.2.1 d.2.2.2.2.2.2.2.2)]) (fun d=>CurOk code d.1∧wfEvent (ev7 d.2.2)) ?_ ?_
     ·refine sL<|lmO Z<|lq (rj 4 ty.el140 rfl (by show 4<6;decide))<|lq (rd (x:=vB _) (rd_load_arr rfl ty.kd4 rfl rfl rfl (rfl) rfl) rfl)<|nG ?_
      refine AW.cond rfl ?_ ?_
      ·intro h5
       refine aL<|lmP Z ?_
       refine lX [(0,0)] [] [0] Try.func69 (l01Below_e g code _ _ _ hcJ12) (⟨⟨0,rfl,rfl⟩,trivial⟩) (pins_cur) Z ?_
       intro xz7 oz7 hz7
       obtain⟨i7,q7,hc7,⟨n7,⟨na7,nb7⟩,rfl⟩,rfl⟩:=hz7
       refine lgI Z<|lf 5 ty.F40_5 Z<|lst (zB 2004 ty.co3 ty.inf3 Z) Z<|nG ?_
       refine⟨(_,_,_,_,_,_,_,_,_),(by refine⟨by assumption,?_⟩;simp only[wfEvent,i64,ev7]at *;omega),trivial,⟨rfl,rfl,trivial⟩,rfl,rfl⟩
      ·intro h5
       refine aK<|gT ?_
       refine⟨(_,_,_,_,_,_,_,_,_),(by refine⟨by assumption,?_⟩;simp only[wfEvent,i64,ev7]at *;omega),trivial,⟨rfl,rfl,trivial⟩,rfl,rfl⟩
     ·intro ⟨iJ14,qJ14,ea14,eb14,ec14,ed14,ee14,ef14,eg14⟩ hJ14
      dsimp only
      obtain⟨hcJ14,hwJ14⟩:=hJ14
      replace hcJ14:CurOk code iJ14:=hcJ14
      unfold wfEvent i64 at hwJ14
      simp only[ev7]at hwJ14
      refine aJ [0,2,4,5] [60,2002] (D:=Nat×Int×Ev7) (fun d=>[]) (fun d=>[(0,curO g code d.1 d.2.1),(2004,evBx none d.2.2.1 d.2.2.2.1 d.2.2.2.2.1 d.2.2.2.2.2.1 d.2.2.2.2.2.2.1 d.2.2.2.2.2.2.2.1 d.2.2.2.2.2.2.2.2)]) (fun d=>CurOk code d.1∧wfEvent (ev7 d.2.2)) ?_ ?_
      ·refine aL<|lmO Z<|lq (rj 5 ty.el140 rfl (by show 5<6;decide))<|lq (rd (x:=vB _) (rd_load_arr rfl ty.kd4 rfl rfl rfl (rfl) rfl) rfl)<|lmB rfl ?_
       refine AL.bool (t:=56) rfl ?_ ?_
       ·intro h6
        refine lmP rfl ?_
        refine lX [(0,0)] [] [0] Try.func69 (l01Below_e g code _ _ _ hcJ14) (⟨⟨0,rfl,rfl⟩,trivial⟩) (pins_cur) Z ?_
        intro xz8 oz8 hz8
        obtain⟨i8,q8,hc8,⟨n8,⟨na8,nb8⟩,rfl⟩,rfl⟩:=hz8
        refine lbB Z<|lkB Z<|lf 6 ty.F40_6 Z<|lst (zB 2004 ty.co4 ty.inf4 Z) Z<|nG ?_
        refine⟨(_,_,_,_,_,_,_,_,_),(by refine⟨by assumption,?_⟩;simp only[wfEvent,i64,ev7]at *;omega),trivial,⟨rfl,rfl,trivial⟩,rfl,rfl⟩
       ·intro h6
        refine lno Z<|lno Z<|lno Z<|lkZ Z<|lf 6 ty.F40_6 Z<|lst (zB 2004 ty.co4 ty.inf4 Z) Z<|nG ?_
        refine⟨(_,_,_,_,_,_,_,_,_),(by refine⟨by assumption,?_⟩;simp only[wfEvent,i64,ev7]at *;omega),trivial,⟨rfl,rfl,trivial⟩,rfl,rfl⟩
      ·intro ⟨iJ15,qJ15,ea15,eb15,ec15,ed15,ee15,ef15,eg15⟩ hJ15
       dsimp only
       obtain⟨hcJ15,hwJ15⟩:=hJ15
       replace hcJ15:CurOk code iJ15:=hcJ15
       unfold wfEvent i64 at hwJ15
       simp only[ev7]at hwJ15
       refine aJ [2,4] [60,2002] (D:=Nat×Int×Ev7) (fun d=>[]) (fun d=>[(0,curO g code d.1 d.2.1),(2004,evBx none d.2.2.1 d.2.2.2.1 d.2.2.2.2.1 d.2.2.2.2.2.1 d.2.2.2.2.2.2.1 d.2.2.2.2.2.2.2.1 d.2.2.2.2.2.2.2.2)]) (fun d=>CurOk code d.1∧wfEvent (ev7 d.2.2)) ?_ ?_
       ·refine sL<|lmP Z ?_
        refine lX [(0,0)] [] [0] Try.func69 (l01Below_e g code _ _ _ hcJ15) (⟨⟨0,rfl,rfl⟩,trivial⟩) (pins_cur) Z ?_
        intro xz9 oz9 hz9
        obtain⟨i9,q9,hc9,⟨n9,⟨na9,nb9⟩,rfl⟩,rfl⟩:=hz9
        refine lbB Z<|lmB Z ?_
        refine AL.bool (t:=65) rfl ?_ ?_
        ·intro h7
         refine lmO Z<|lq (rj 3 ty.el140 rfl (by show 3<6;decide))<|lq (rd (x:=vB _) (rd_load_arr rfl ty.kd4 rfl rfl rfl (rfl) rfl) rfl)<|lkB Z<|nG ?_
         refine AW.cond rfl ?_ ?_
         ·intro h8
          refine aL<|lmP Z ?_
          refine lX [(0,0)] [] [0] Try.func69 (l01Below_e g code _ _ _ hc9) (⟨⟨0,rfl,rfl⟩,trivial⟩) (pins_cur) Z ?_
          intro xz10 oz10 hz10
          obtain⟨i10,q10,hc10,⟨n10,⟨na10,nb10⟩,rfl⟩,rfl⟩:=hz10
          refine lgI Z<|lf 4 ty.F40_4 Z<|lst (zB 2004 ty.co3 ty.inf3 Z) Z<|nG ?_
          refine⟨(_,_,_,_,_,_,_,_,_),(by refine⟨by assumption,?_⟩;simp only[wfEvent,i64,ev7]at *;omega),trivial,⟨rfl,rfl,trivial⟩,rfl,rfl⟩
         ·intro h8
          refine aK<|gT ?_
          refine⟨(_,_,_,_,_,_,_,_,_),(by refine⟨by assumption,?_⟩;simp only[wfEvent,i64,ev7]at *;omega),trivial,⟨rfl,rfl,trivial⟩,rfl,rfl⟩
        ·intro h7
         refine lno Z<|lno Z<|lno Z<|lkZ Z<|nG<|aN Z<|aK<|gT ?_
         refine⟨(_,_,_,_,_,_,_,_,_),(by refine⟨by assumption,?_⟩;simp only[wfEvent,i64,ev7]at *;omega),trivial,⟨rfl,rfl,trivial⟩,rfl,rfl⟩
       ·intro ⟨iJ17,qJ17,ea17,eb17,ec17,ed17,ee17,ef17,eg17⟩ hJ17
        dsimp only
        obtain⟨hcJ17,hwJ17⟩:=hJ17
        replace hcJ17:CurOk code iJ17:=hcJ17
        unfold wfEvent i64 at hwJ17
        simp only[ev7]at hwJ17
        refine sL<|loX (.agg [vI _ _,vI _ _,vI _ _,vI _ _,vI _ _,vI _ _,vB _]) ty.kd40 Z<|lst (zB 2002 ty.co40 ty.inf40 Z) Z<|nG<|aR ?_
        refine end_xret (evV ⟨_,_,_,_,_,_,_⟩) [(0,curO g code _ _)] ?_ rfl ⟨rfl,trivial⟩
        exact⟨_,_,by assumption,⟨_,by simp only[wfEvent,i64]at *;omega,rfl⟩,rfl⟩
theorem l04Any_e(g:Value)(code:List Int)(i:Nat)(h:Int)(hc:CurOk code i):GX Try.prog 75 [.ptr 0 0 0] [(0,curO g code i h)] (DrR g code DrE):=by
 refine GX.intro (rs:=[.cell 2 40 (some 7)]) Try.func75 rfl Try.ntmps75 (Nat.le_of_ble_eq_true rfl) ⟨rfl,rfl,ty.kd40,trivial⟩ ?_
 intro L O w0
 refine sL<|lst (zA 2002 ty.ze40 Z) Z<|nA<|lmP Z ?_
 refine lX [(0,0)] [] [0] Try.func114 (l04Draw_e g code _ _ hc) (⟨⟨0,rfl,rfl⟩,trivial⟩) (pins_cur) Z ?_
 intro xz1 oz1 hz1
 obtain⟨i1,q1,hc1,⟨⟨va1,vb1,vc1,vd1,ve1,vf1,vg1⟩,hw1,rfl⟩,rfl⟩:=hz1
 refine lst (zA 2003 ty.ze40 Z) Z<|lst (zB 2003 ty.co40 ty.inf40 Z) Z<|nA<|lmP Z ?_
 refine lX [(0,0)] [] [0] Try.func69 (l01Below_e g code _ _ _ hc1) (⟨⟨0,rfl,rfl⟩,trivial⟩) (pins_cur) Z ?_
 intro xz2 oz2 hz2
 obtain⟨i2,q2,hc2,⟨n2,⟨na2,nb2⟩,rfl⟩,rfl⟩:=hz2
 refine laI Z<|nG ?_
 refine aJ [0,2,3,4] [2002] (D:=Nat×Int×Ev7) (fun d=>[]) (fun d=>[(0,curO g code d.1 d.2.1),(2003,evBx none d.2.2.1 d.2.2.2.1 d.2.2.2.2.1 d.2.2.2.2.2.1 d.2.2.2.2.2.2.1 d.2.2.2.2.2.2.2.1 d.2.2.2.2.2.2.2.2)]) (fun d=>CurOk code d.1∧wfEvent (ev7 d.2.2)) ?_ ?_
 ·refine sL<|lmI Z<|lbB Z<|nG ?_
  refine AW.cond rfl ?_ ?_
  ·intro h1
   refine aL<|lmP Z ?_
   refine lX [(0,0)] [] [0] Try.func117 (l01Raw_e g code _ _ hc2) (⟨⟨0,rfl,rfl⟩,trivial⟩) (pins_cur) Z ?_
   intro xz3 oz3 hz3
   obtain⟨i3,q3,hc3,⟨n3,hn3,rfl⟩,rfl⟩:=hz3
   refine lf 0 ty.F40_0 Z<|lst (zB 2003 ty.co3 ty.inf3 Z) Z<|lT [0,2,3,4] [0,2002,2003] ?_
   refine nG ?_
   refine⟨(_,_,_,_,_,_,_,_,_),(by refine⟨by assumption,?_⟩;simp only[wfEvent,i64,ev7]at *;omega),trivial,⟨rfl,rfl,trivial⟩,rfl,rfl⟩
  ·intro h1
   refine aK<|gT ?_
   refine⟨(_,_,_,_,_,_,_,_,_),(by refine⟨by assumption,?_⟩;simp only[wfEvent,i64,ev7]at *;omega),trivial,⟨rfl,rfl,trivial⟩,rfl,rfl⟩
 ·intro ⟨iJ5,qJ5,ea5,eb5,ec5,ed5,ee5,ef5,eg5⟩ hJ5
  dsimp only
  obtain⟨hcJ5,hwJ5⟩:=hJ5
  replace hcJ5:CurOk code iJ5:=hcJ5
  unfold wfEvent i64 at hwJ5
  simp only[ev7]at hwJ5
  refine aJ [0,2,3,4] [2002] (D:=Nat×Int×Ev7) (fun d=>[]) (fun d=>[(0,curO g code d.1 d.2.1),(2003,evBx none d.2.2.1 d.2.2.2.1 d.2.2.2.2.1 d.2.2.2.2.2.1 d.2.2.2.2.2.2.1 d.2.2.2.2.2.2.2.1 d.2.2.2.2.2.2.2.2)]) (fun d=>CurOk code d.1∧wfEvent (ev7 d.2.2)) ?_ ?_
  ·refine sL<|lmI Z<|lbB Z<|nG ?_
   refine AW.cond rfl ?_ ?_
   ·intro h2
    refine aL<|lmP Z ?_
    refine lX [(0,0)] [] [0] Try.func117 (l01Raw_e g code _ _ hcJ5) (⟨⟨0,rfl,rfl⟩,trivial⟩) (pins_cur) Z ?_
    intro xz4 oz4 hz4
    obtain⟨i4,q4,hc4,⟨n4,hn4,rfl⟩,rfl⟩:=hz4
    refine lf 1 ty.F40_1 Z<|lst (zB 2003 ty.co3 ty.inf3 Z) Z<|nG ?_
    refine⟨(_,_,_,_,_,_,_,_,_),(by refine⟨by assumption,?_⟩;simp only[wfEvent,i64,ev7]at *;omega),trivial,⟨rfl,rfl,trivial⟩,rfl,rfl⟩
   ·intro h2
    refine aK<|gT ?_
    refine⟨(_,_,_,_,_,_,_,_,_),(by refine⟨by assumption,?_⟩;simp only[wfEvent,i64,ev7]at *;omega),trivial,⟨rfl,rfl,trivial⟩,rfl,rfl⟩
  ·intro ⟨iJ7,qJ7,ea7,eb7,ec7,ed7,ee7,ef7,eg7⟩ hJ7
   dsimp only
   obtain⟨hcJ7,hwJ7⟩:=hJ7
   replace hcJ7:CurOk code iJ7:=hcJ7
   unfold wfEvent i64 at hwJ7
   simp only[ev7]at hwJ7
   refine aJ [0,2,3,4] [2002] (D:=Nat×Int×Ev7) (fun d=>[]) (fun d=>[(0,curO g code d.1 d.2.1),(2003,evBx none d.2.2.1 d.2.2.2.1 d.2.2.2.2.1 d.2.2.2.2.2.1 d.2.2.2.2.2.2.1 d.2.2.2.2.2.2.2.1 d.2.2.2.2.2.2.2.2)]) (fun d=>CurOk code d.1∧wfEvent (ev7 d.2.2)) ?_ ?_
   ·refine sL<|lmI Z<|lbB Z<|nG ?_
    refine AW.cond rfl ?_ ?_
    ·intro h3
     refine aL<|lmP Z ?_
     refine lX [(0,0)] [] [0] Try.func117 (l01Raw_e g code _ _ hcJ7) (⟨⟨0,rfl,rfl⟩,trivial⟩) (pins_cur) Z ?_
     intro xz5 oz5 hz5
     obtain⟨i5,q5,hc5,⟨n5,hn5,rfl⟩,rfl⟩:=hz5
     refine lf 2 ty.F40_2 Z<|lst (zB 2003 ty.co3 ty.inf3 Z) Z<|nG ?_
     refine⟨(_,_,_,_,_,_,_,_,_),(by refine⟨by assumption,?_⟩;simp only[wfEvent,i64,ev7]at *;omega),trivial,⟨rfl,rfl,trivial⟩,rfl,rfl⟩
    ·intro h3
     refine aK<|gT ?_
     refine⟨(_,_,_,_,_,_,_,_,_),(by refine⟨by assumption,?_⟩;simp only[wfEvent,i64,ev7]at *;omega),trivial,⟨rfl,rfl,trivial⟩,rfl,rfl⟩
   ·intro ⟨iJ9,qJ9,ea9,eb9,ec9,ed9,ee9,ef9,eg9⟩ hJ9
    dsimp only
    obtain⟨hcJ9,hwJ9⟩:=hJ9
    replace hcJ9:CurOk code iJ9:=hcJ9
    unfold wfEvent i64 at hwJ9
    simp only[ev7]at hwJ9
    refine aJ [0,2,3,4] [2002] (D:=Nat×Int×Ev7) (fun d=>[]) (fun d=>[(0,curO g code d.1 d.2.1),(2003,evBx none d.2.2.1 d.2.2.2.1 d.2.2.2.2.1 d.2.2.2.2.2.1 d.2.2.2.2.2.2.1 d.2.2.2.2.2.2.2.1 d.2.2.2.2.2.2.2.2)]) (fun d=>CurOk code d.1∧wfEvent (ev7 d.2.2)) ?_ ?_
    ·refine sL<|lmI Z<|lbB Z<|nG ?_
     refine AW.cond rfl ?_ ?_
     ·intro h4
      refine aL<|lf 2 ty.F40_2 Z<|loI ty.kd3 Z<|lf 3 ty.F40_3 Z<|lst (zB 2003 ty.co3 ty.inf3 Z) Z<|nG ?_
      refine⟨(_,_,_,_,_,_,_,_,_),(by refine⟨by assumption,?_⟩;simp only[wfEvent,i64,ev7]at *;omega),trivial,⟨rfl,rfl,trivial⟩,rfl,rfl⟩
     ·intro h4
      refine aK<|gT ?_
      refine⟨(_,_,_,_,_,_,_,_,_),(by refine⟨by assumption,?_⟩;simp only[wfEvent,i64,ev7]at *;omega),trivial,⟨rfl,rfl,trivial⟩,rfl,rfl⟩
    ·intro ⟨iJ11,qJ11,ea11,eb11,ec11,ed11,ee11,ef11,eg11⟩ hJ11
     dsimp only
     obtain⟨hcJ11,hwJ11⟩:=hJ11
     replace hcJ11:CurOk code iJ11:=hcJ11
     unfold wfEvent i64 at hwJ11
     simp only[ev7]at hwJ11
     refine aJ [0,2,3,4] [2002] (D:=Nat×Int×Ev7) (fun d=>[]) (fun d=>[(0,curO g code d.1 d.2.1),(2003,evBx none d.2.2.1 d.2.2.2.1 d.2.2.2.2.1 d.2.2.2.2.2.1 d.2.2.2.2.2.2.1 d.2.2.2.2.2.2.2.1 d.2.2.2.2.2.2.2.2)]) (fun d=>CurOk code d.1∧wfEvent (ev7 d.2.2)) ?_ ?_
     ·refine sL<|lmI Z<|lbB Z<|nG ?_
      refine AW.cond rfl ?_ ?_
      ·intro h5
       refine aL<|lmP Z ?_
       refine lX [(0,0)] [] [0] Try.func117 (l01Raw_e g code _ _ hcJ11) (⟨⟨0,rfl,rfl⟩,trivial⟩) (pins_cur) Z ?_
       intro xz6 oz6 hz6
       obtain⟨i6,q6,hc6,⟨n6,hn6,rfl⟩,rfl⟩:=hz6
       refine lf 4 ty.F40_4 Z<|lst (zB 2003 ty.co3 ty.inf3 Z) Z<|nG ?_
       refine⟨(_,_,_,_,_,_,_,_,_),(by refine⟨by assumption,?_⟩;simp only[wfEvent,i64,ev7]at *;omega),trivial,⟨rfl,rfl,trivial⟩,rfl,rfl⟩
      ·intro h5
       refine aK<|gT ?_
       refine⟨(_,_,_,_,_,_,_,_,_),(by refine⟨by assumption,?_⟩;simp only[wfEvent,i64,ev7]at *;omega),trivial,⟨rfl,rfl,trivial⟩,rfl,rfl⟩
     ·intro ⟨iJ13,qJ13,ea13,eb13,ec13,ed13,ee13,ef13,eg13⟩ hJ13
      dsimp only
      obtain⟨hcJ13,hwJ13⟩:=hJ13
      replace hcJ13:CurOk code iJ13:=hcJ13
      unfold wfEvent i64 at hwJ13
      simp only[ev7]at hwJ13
      refine aJ [2,3,4] [2002] (D:=Nat×Int×Ev7) (fun d=>[]) (fun d=>[(0,curO g code d.1 d.2.1),(2003,evBx none d.2.2.1 d.2.2.2.1 d.2.2.2.2.1 d.2.2.2.2.2.1 d.2.2.2.2.2.2.1 d.2.2.2.2.2.2.2.1 d.2.2.2.2.2.2.2.2)]) (fun d=>CurOk code d.1∧wfEvent (ev7 d.2.2)) ?_ ?_
      ·refine sL<|lmI Z<|lbB Z<|nG ?_
       refine AW.cond rfl ?_ ?_
       ·intro h6
        refine aL<|lmP Z ?_
        refine lX [(0,0)] [] [0] Try.func117 (l01Raw_e g code _ _ hcJ13) (⟨⟨0,rfl,rfl⟩,trivial⟩) (pins_cur) Z ?_
        intro xz7 oz7 hz7
        obtain⟨i7,q7,hc7,⟨n7,hn7,rfl⟩,rfl⟩:=hz7
        refine lf 5 ty.F40_5 Z<|lst (zB 2003 ty.co3 ty.inf3 Z) Z<|nG ?_
        refine⟨(_,_,_,_,_,_,_,_,_),(by refine⟨by assumption,?_⟩;simp only[wfEvent,i64,ev7]at *;omega),trivial,⟨rfl,rfl,trivial⟩,rfl,rfl⟩
       ·intro h6
        refine aK<|gT ?_
        refine⟨(_,_,_,_,_,_,_,_,_),(by refine⟨by assumption,?_⟩;simp only[wfEvent,i64,ev7]at *;omega),trivial,⟨rfl,rfl,trivial⟩,rfl,rfl⟩
      ·intro ⟨iJ15,qJ15,ea15,eb15,ec15,ed15,ee15,ef15,eg15⟩ hJ15
       dsimp only
       obtain⟨hcJ15,hwJ15⟩:=hJ15
       replace hcJ15:CurOk code iJ15:=hcJ15
       unfold wfEvent i64 at hwJ15
       simp only[ev7]at hwJ15
       refine aJ [2,3] [2002] (D:=Nat×Int×Ev7) (fun d=>[]) (fun d=>[(0,curO g code d.1 d.2.1),(2003,evBx none d.2.2.1 d.2.2.2.1 d.2.2.2.2.1 d.2.2.2.2.2.1 d.2.2.2.2.2.2.1 d.2.2.2.2.2.2.2.1 d.2.2.2.2.2.2.2.2)]) (fun d=>CurOk code d.1∧wfEvent (ev7 d.2.2)) ?_ ?_
       ·refine sL<|lmI Z<|lbB Z<|nG ?_
        refine AW.cond rfl ?_ ?_
        ·intro h7
         refine aL<|lf 6 ty.F40_6 Z<|loB ty.kd4 Z<|luB Z<|lf 6 ty.F40_6 Z<|lst (zB 2003 ty.co4 ty.inf4 Z) Z<|nG ?_
         refine⟨(_,_,_,_,_,_,_,_,_),(by refine⟨by assumption,?_⟩;simp only[wfEvent,i64,ev7]at *;omega),trivial,⟨rfl,rfl,trivial⟩,rfl,rfl⟩
        ·intro h7
         refine aK<|gT ?_
         refine⟨(_,_,_,_,_,_,_,_,_),(by refine⟨by assumption,?_⟩;simp only[wfEvent,i64,ev7]at *;omega),trivial,⟨rfl,rfl,trivial⟩,rfl,rfl⟩
       ·intro ⟨iJ17,qJ17,ea17,eb17,ec17,ed17,ee17,ef17,eg17⟩ hJ17
        dsimp only
        obtain⟨hcJ17,hwJ17⟩:=hJ17
        replace hcJ17:CurOk code iJ17:=hcJ17
        unfold wfEvent i64 at hwJ17
        simp only[ev7]at hwJ17
        refine sL<|loX (.agg [vI _ _,vI _ _,vI _ _,vI _ _,vI _ _,vI _ _,vB _]) ty.kd40 Z<|lst (zB 2002 ty.co40 ty.inf40 Z) Z<|nG<|aR ?_
        refine end_xret (evV ⟨_,_,_,_,_,_,_⟩) [(0,curO g code _ _)] ?_ rfl ⟨rfl,trivial⟩
        exact⟨_,_,by assumption,⟨_,by simp only[wfEvent,i64]at *;omega,rfl⟩,rfl⟩

def DrX(g:Value)(code:List Int)(R:AV→List (Nat×AO)→Prop):AV→List (Nat×AO)→Prop:=fun x ob=>∃i h ob2,CurOk code i∧R x ob2∧ob=(0,curO g code i h)::ob2
theorem pins_curX{g:Value}{code:List Int}{i:Nat}{h:Int}{R:AV→List (Nat×AO)→Prop}:∀x ob1,DrX g code R x ob1→pins [(0,curO g code i h)] ob1 [0]:=fun x ob1 ⟨_,_,_,_,_,e⟩=>by
 subst e
 exact⟨stays.box (Eq.refl 3),trivial⟩
def EvsOk(m:Int)(es:List Event):Prop:=(∀e∈es,wfEvent e)∧(es.length:Int)≤m
theorem EvsOk.take{m:Int}{es:List Event}(h:EvsOk m es)(k:Nat):EvsOk m (es.take k):=⟨fun e he=>h.1 e (List.mem_of_mem_take he),by have:=h.2;rw[List.length_take];omega⟩
theorem EvsOk.add{m:Int}{es:List Event}(h:EvsOk m es){e:Event}(he:wfEvent e):EvsOk (m+1) (es++[e]):=⟨fun x hx=>by
 rcases List.mem_append.1 hx with q|q
 ·exact h.1 x q
 ·rw[List.mem_singleton.1 q];exact he,by have:=h.2;simp;omega⟩
theorem EvsOk.mono{m n:Int}{es:List Event}(h:EvsOk m es)(hmn:m≤n):EvsOk n es:=⟨h.1,Int.le_trans h.2 hmn⟩

section
variable {P:Program}{L O:Nat→Prop}{w0:World}{N:Nat}{Q:AQ}{c:Code}{τ:Nat→AV}{H:Nat→AO}
theorem RR.reRow{ρ:Nat→Value}{fp:Nat→List Nat}{a:Act}{w:World}(h:RR L O w0 N τ H ρ fp a w)(id:Nat){e:Pin}{sz:Nat}{rows rows':List (List PV)}(hH:H id=.arr e sz rows)(hl:rows'.length=rows.length)(hr:∀ {xs fr},RWR w false sz rows xs fr→RWR w false sz rows' xs fr) :
 ∃ρ fp,RR L O w0 N τ (upd H id (.arr e sz rows')) ρ fp a w:=
 ⟨_,_,h.turn (id:=id) (o':=.arr e sz rows') (f':=fp id) h.chg (Nat.le_refl _) (fun _ _ _=>rfl) (fun _=>by rw[hH];exact⟨rfl,hl,rfl⟩) (fun E=>by
   have hob:=h.ob id
   rw[hH]at hob
   obtain⟨xs,fr,b1,b2,b3,b4,b5⟩:=hob
   exact⟨xs,fr,hr b1,fun b hb=>(E.block b (RWR.lt rows b1 b hb) (b2 b hb)).2,by rw[hl];exact b3,b4,b5⟩) (h.own id) (fun j hj b hb=>h.dj id j (Ne.symm hj) b hb)⟩
theorem AW.reRow(id:Nat){e:Pin}{sz:Nat}{rows rows':List (List PV)}(hH:H id=.arr e sz rows)(hl:rows'.length=rows.length)(hr:∀ {w:World} {xs fr},RWR w false sz rows xs fr→RWR w false sz rows' xs fr)(hK:AW P L O w0 N c τ (upd H id (.arr e sz rows')) Q):AW P L O w0 N c τ H Q:=fun ρ fp a w h=>by
 obtain⟨ρ',fp',q⟩:=h.reRow id hH hl hr
 exact hK ρ' fp' a w q
end
theorem nilRow{e:TypeId}{sz:Nat}{w:World}:∀(n:Nat) {xs:List Value} {fr:List Nat},RWR w false 1 (List.replicate n [PV.v (.slice none 0 0)]) xs fr→RWR w false 1 (List.replicate n [PV.lst e sz []]) xs fr
 |0,xs,fr,h=>h
 |n+1,xs,fr,h=>by
  rw[List.replicate_succ,RWR]at *
  obtain⟨h1,c,r,f1,f2,rfl,rfl,h2,h3⟩:=h
  refine⟨rfl,c,r,f1,f2,rfl,rfl,?_,nilRow n h3⟩
  rw[RWL]at *
  obtain⟨c0,r0,g1,g2,rfl,rfl,k1,k2⟩:=h2
  refine⟨c0,r0,g1,g2,rfl,rfl,?_,k2⟩
  rw[RW]at *
  obtain⟨rfl,rfl,_⟩:=k1
  refine⟨[],[],[],by rw[RWR];exact⟨rfl,rfl⟩,?_,rfl⟩
  unfold SlAt
  simp only[Bool.false_eq_true,if_false]
  exact⟨none,0,rfl,by simp,by simp[maxLen],.inl ⟨rfl,trivial⟩⟩
end Go.Proofs.Yteblcdnhnckkaaa

