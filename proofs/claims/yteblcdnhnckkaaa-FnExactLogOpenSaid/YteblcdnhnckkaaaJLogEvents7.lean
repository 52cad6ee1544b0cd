/- Texts of the proof of FnLogEvents, joined: EO3, E31, EO4, EO5, EO6. -/
import Derived.Test.YteblcdnhnckkaaaJLogEvents6
import Derived.Test.YteblcdnhnckkaaaJLogEvents5
namespace Go.Proofs.Yteblcdnhnckkaaa
open Go.RowKit
set_option maxHeartbeats 16000000
set_option maxRecDepth 100000
set_option linter.unusedSimpArgs false
set_option linter.unusedVariables false
theorem spow_e(size:Nat)(hs:size≤7):GC Try.prog 134 [int (size:Int)] [] (int (256 ^ size)) []:=by
 refine gi 2 Try.func134 rfl Try.ntmps134 rfl ?_
 intro L O w0
 refine sL<|laI Z<|nA<|laI Z<|nG<|aS<|sL<|laI Z<|nG<|aB ?_
 refine aW [0,2] [] (D:=Nat) (fun d=>[(4,int (d:Int)),(3,int (256 ^ d))]) (fun d=>[]) (fun d=>d≤size) (fun d=>size-d) (0) (Nat.zero_le _) ⟨rfl,rfl,trivial⟩ trivial ?_
 intro j hI
 replace hI:j≤size:=hI
 refine aS<|sL<|lmI Z<|lmI Z<|lbB Z<|nG ?_
 refine AW.cond rfl ?_ ?_
 ·intro h1
  refine aK<|gT<|aS<|aB ?_
  have hj:j<size:=by have h:=h1;simp only[decide_eq_true_eq]at h;omega
  have hlim:=pow_le (j:=j) (by omega)
  have hpos:(0:Int)≤256 ^ j:=Int.pow_nonneg (by omega)
  refine aL<|lmI Z<|lgI Z<|laI Z<|lN<|gB<|gT<|aL<|lmI Z<|lgI Z<|laI Z<|nG ?_
  refine⟨(j+1),hj,by show size-(j+1)<size-j;omega,⟨(iq rfl),(congrArg int (Int.pow_succ _ _).symm),trivial⟩,trivial,rfl,rfl⟩
 ·intro h1
  refine aE<|eT<|eT<|eB<|gA<|lmI Z<|laI Z<|nG<|aR ?_
  have hj:j=size:=by have h:=h1;simp only[decide_eq_false_iff_not]at h;omega
  subst hj
  refine end_ret ?_ trivial
  rfl
theorem sputNum_o(l:List Int)(n:Int)(size:Nat)(h0:0≤n)(h1:n<256 ^ size)(h7:n<72057594037927936)(hs0:1≤size)(hs:size≤7)(hl:l.length≤200):GC Try.prog 91 [byV l,int n,int (size:Int)] [] (.tup [.own 1,boo true]) [(1,yAr (l++numB size n))]:=by
 refine GC.intro (rs:=[.tmp 6,.tmp 7]) Try.func91 rfl Try.ntmps91 (Nat.le_of_ble_eq_true rfl) ⟨rfl,rfl,trivial⟩ ?_
 intro L O w0
 refine sL<|laV Z<|laZ Z<|nG<|aS<|sL<|lmI Z<|lbB Z<|lsB 11 false rfl (by simp;omega)<|lmZ Z<|lmI Z<|lbB Z<|lsB 14 false rfl (by simp;omega)<|lkZ Z<|lmZ Z<|lmI Z<|lbB Z<|lsB 18 false rfl (by simp;omega)<|lkZ Z<|lmZ Z<|lmI Z<|lmI Z<|lst (zC [] [] [] Try.func134 (spow_e (size) (by omega)) (trivial) rfl rfl) Z<|lT [0,1,2,6,7,20,21,23] [] ?_
 refine lbB Z<|lsB 24 false rfl (by simp;omega)<|lkZ Z<|nG<|aN Z<|aK<|gA<|lst (zS 1 (rowsOf encU []) ty.el56 ty.ze5 rfl (by intro r hr;cases hr)) Z<|lmL Z<|lst (zP 1 ty.el56 ty.ze5 ty.by5 rfl (Src.p rfl) (by first|(simp[rowsOf,numB_length];done)|(simp[rowsOf,numB_length];omega))) Z<|laO Z<|nG<|aS<|sL<|lmI Z<|lgI Z<|laI Z<|nG<|aB ?_
 refine aW [1,6,7] [] (D:=Nat) (fun d=>[(9,int ((size:Int)-1-(d:Int))),(8,.own 1)]) (fun d=>[(1,yAr (l++(numB size n).take d))]) (fun d=>d≤size) (fun d=>size-d) (0) (Nat.zero_le _) ⟨(iq rfl),rfl,trivial⟩ ⟨(by rw[List.take_zero,List.append_nil];rfl),trivial⟩ ?_
 intro j hI
 replace hI:j≤size:=hI
 refine aS<|sL<|lmI Z<|lbB Z<|nG ?_
 refine AW.cond rfl ?_ ?_
 ·intro h1
  refine aK<|gT<|aS<|aB ?_
  have hj:j<size:=by have h:=h1;simp only[ge_iff_le,decide_eq_true_eq]at h;omega
  have htl:((numB size n).take j).length≤7:=by rw[List.length_take,numB_length];omega
  have hpz:(256:Int) ^ (size-1-j)≠0:=Int.ne_of_gt (Int.pow_pos (by omega))
  have hdv:0≤n/256 ^ (size-1-j):=Int.ediv_nonneg h0 (Int.pow_nonneg (by omega))
  have hdl:n/256 ^ (size-1-j)≤n:=Int.ediv_le_self _ h0
  refine aL<|lmO Z<|lmI Z<|lmI Z<|lsN 37 ((size-1-j:Nat):Int) rfl (by omega)<|lst (zC [] [] [] Try.func134 (spow_e (size-1-j) (by omega)) (trivial) rfl rfl) Z<|lT [1,6,7,8,9,35,36,38] [1] ?_
  refine lhI rfl ⟨rfl,hpz,fits_i64 (by rw[Int.tdiv_eq_ediv_of_nonneg h0];unfold i64;omega)⟩<|lsN 39 (n/256 ^ (size-1-j)) rfl (Int.tdiv_eq_ediv_of_nonneg h0) ?_
  refine lhI rfl ⟨rfl,by decide⟩<|lsN 40 (n/256 ^ (size-1-j)%256) rfl (Int.tmod_eq_emod_of_nonneg hdv)<|lq (rd (x:=vI _ _) (rd_conv rfl ty.ik3 ty.ik5 rfl) rfl) ?_
  refine AL.slot 41 (yv (n/256 ^ (size-1-j)%256)) (Eq.trans (b:=yv _) rfl (congrArg yv (by rw[wrap_u8];omega))) ?_
  refine lst (zS 2042 (rowsOf encU [n/256 ^ (size-1-j)%256]) ty.el56 ty.ze5 rfl) Z<|lst (zP 1 ty.el56 ty.ze5 ty.by5 rfl (Src.own rfl rfl) (by first|(simp[rowsOf,numB_length];done)|(simp[rowsOf,numB_length];omega))) Z<|laO Z<|lN<|gB<|gT<|aL<|lmI Z<|lgI Z<|laI Z<|nG ?_
  refine⟨(j+1),hj,by show size-(j+1)<size-j;omega,⟨(iq rfl),rfl,trivial⟩,⟨(Eq.trans (yapp _ _) (put_row hj)),trivial⟩,rfl,rfl⟩
 ·intro h1
  refine aE<|eT<|eT<|eB<|gA<|lmO Z<|laO Z<|laT Z<|nG<|aR ?_
  have hj:j=size:=by have h:=h1;simp only[ge_iff_le,decide_eq_false_iff_not]at h;omega
  subst hj
  refine end_ret ?_ ⟨(congrArg (fun r=>yAr (l++r)) (numB_all _ n)),trivial⟩
  rfl
theorem sgetNum_e(b:List Int)(k size:Nat)(hb:BytesOk b)(hs0:1≤size)(hs:size≤7)(hk:k≤1000)(hl:b.length≤2000000):GC Try.prog 104 [byV b,int (k:Int),int (size:Int)] [] (.tup [int (getB b k size),boo (getF b k size)]) []:=by
 refine GC.intro (rs:=[.tmp 6,.tmp 7]) Try.func104 rfl Try.ntmps104 (Nat.le_of_ble_eq_true rfl) ⟨rfl,rfl,trivial⟩ ?_
 intro L O w0
 refine sL<|laI Z<|laZ Z<|nG<|aS<|sL<|lmI Z<|lbB Z<|lsB 11 false rfl (by simp;omega)<|lmZ Z<|lmI Z<|lbB Z<|lsB 14 false rfl (by simp;omega)<|lkZ Z<|lmZ Z<|lmI Z<|lbB Z<|lsB 18 false rfl (by simp)<|lkZ Z<|lmZ Z<|lmI Z<|lmL Z<|lnI ty.sl56 Z<|lmI rfl ?_
 refine lhI rfl ⟨rfl,fits_i64 (by rw[length_rowsOf];unfold i64;omega)⟩<|lbB Z<|lkB Z<|nG ?_
 refine AW.cond rfl ?_ ?_
 ·intro h1
  refine sL<|laI Z<|laZ Z<|nG<|aR<|rT ?_
  have hkz:¬k+size≤b.length:=by have h:=h1;simp only[gt_iff_lt,decide_eq_true_eq,length_rowsOf]at h;omega
  unfold getB getF
  rw[if_neg hkz,decide_eq_false hkz]
  refine end_ret ?_ trivial
  rfl
 ·intro h1
  refine aK<|gT<|aS ?_
  have hkz:k+size≤b.length:=by have h:=h1;simp only[gt_iff_lt,decide_eq_false_iff_not,length_rowsOf]at h;omega
  have hlen:((b.drop k).take size).length=size:=by rw[List.length_take,List.length_drop];omega
  refine aL<|laI Z<|nG<|aS<|sL<|laI Z<|nG<|aB ?_
  refine aW [0,1,2,6,7] [] (D:=Nat) (fun d=>[(9,int (d:Int)),(8,int (valB (((b.drop k).take size).take d)))]) (fun d=>[]) (fun d=>d≤size) (fun d=>size-d) (0) (Nat.zero_le _) ⟨rfl,rfl,trivial⟩ trivial ?_
  intro j hI
  replace hI:j≤size:=hI
  refine aS<|sL<|lmI Z<|lmI Z<|lbB Z<|nG ?_
  refine AW.cond rfl ?_ ?_
  ·intro h2
   refine aK<|gT<|aS<|aB ?_
   have hj:j<size:=by have h:=h2;simp only[decide_eq_true_eq]at h;omega
   have hjl:j<((b.drop k).take size).length:=by omega
   have hlim:=valB_lim (l:=(b.drop k).take size) ((hb.drop k).take size) hj hs
   have hx:=((hb.drop k).take size) _ (List.getElem_mem hjl)
   have hkj:k+j<b.length:=by omega
   have hbx:b[k+j]=((b.drop k).take size)[j]:=by simp
   refine aL<|lmI Z<|lgI Z<|lmL Z<|lT [0,1,2,6,7,8,9,34,35] [] ?_
   refine lmI Z<|lmI Z<|lgI Z<|lsN 38 ((k+j:Nat):Int) rfl (by omega)<|li ((k+j)) ty.el56 rfl (row_map hkj)<|lrI ty.kd5 Z<|lq (rd (x:=vI _ _) (rd_conv rfl ty.ik5 ty.ik3 rfl) rfl)<|lsN 41 (((b.drop k).take size)[j]) rfl (by rw[IntKind.wrap_i64,←hbx];rw[←hbx]at hx;omega)<|lgI Z<|laI Z<|lN<|gB<|gT<|aL<|lmI Z<|lgI Z<|laI Z<|nG ?_
   refine⟨(j+1),hj,by show size-(j+1)<size-j;omega,⟨(iq rfl),(congrArg int (valB_take hjl).symm),trivial⟩,trivial,rfl,rfl⟩
  ·intro h2
   refine aE<|eT<|eT<|eB<|gA<|lmI Z<|laI Z<|laT Z<|nG<|aR ?_
   have hj:j=size:=by have h:=h2;simp only[decide_eq_false_iff_not]at h;omega
   subst hj
   unfold getF
   rw[getB_y hkz,decide_eq_true hkz,List.take_of_length_le (l:=(b.drop k).take j) (by omega)]
   refine end_ret ?_ trivial
   rfl
theorem sputNum_l(l:List Int)(n:Int)(size:Nat)(h0:0≤n)(h1:n<256 ^ size)(h7:n<72057594037927936)(hs0:1≤size)(hs:size≤7)(hl:l.length≤200):GC Try.prog 91 [.own 2,int n,int (size:Int)] [(2,yAr l)] (.tup [.own 1,boo true]) [(1,yAr (l++numB size n)),(2,yAr l)]:=
 (sputNum_o l n size h0 h1 h7 hs0 hs hl).lent rfl rfl (by intro id hid;simp[ownN,ownNL]at hid;subst hid;rfl) (by intro p hp;simp at hp;subst hp;rfl) (by intro p hp;simp at hp;subst hp;exact⟨rfl,flat_rowsOf⟩) (by intro p hp;simp at hp;subst hp;rfl)
theorem seventBody_o(e:Event):GC Try.prog 43 [evV e] [] (.tup [.own 1,boo (eventOk e)]) [(1,yAr (evX e))]:=by
 refine GC.intro (rs:=[.tmp 2,.tmp 3]) Try.func43 rfl Try.ntmps43 (Nat.le_of_ble_eq_true rfl) ⟨rfl,rfl,trivial⟩ ?_
 intro L O w0
 refine sL<|lst (zX 2001 Z) Z<|laV Z<|laZ Z<|nG<|aS<|sL<|loX (.agg [vI _ _,vI _ _,vI _ _,vI _ _,vI _ _,vI _ _,vB _]) ty.kd40 Z<|lst (zC [] [] [] Try.func42 (seventOk_e e) (trivial) Z Z) Z<|luB Z<|nG ?_
 refine AW.cond rfl ?_ ?_
 ·intro h1
  refine sL<|laV Z<|laZ Z<|nG ?_
  refine AW.adoptT 1 2 5 1 rfl ?_
  refine aR<|rT ?_
  have hok:eventOk e=false:=by simpa using h1
  rw[hok,evX_n hok]
  refine end_ret ?_ ⟨rfl,trivial⟩
  rfl
 ·intro h1
  refine aK<|gT<|aS ?_
  have hok:eventOk e=true:=by simpa using h1
  obtain⟨⟨b1,b2⟩,⟨b3,b4⟩,⟨b5,b6⟩,⟨b7,b8⟩,⟨b9,b10⟩,⟨b11,b12⟩⟩:=evBd hok
  refine aL<|lf 0 ty.F40_0 Z<|loI ty.kd3 Z<|lq (rd (x:=vI _ _) (rd_conv Z ty.ik3 ty.ik5 Z) Z) ?_
  refine AL.slot 10 (yv e.kind) (Eq.trans (b:=yv _) rfl (congrArg yv (by rw[wrap_u8];omega))) ?_
  refine lst (zS 5 (rowsOf encU [69,e.kind]) ty.el56 ty.ze5 rfl (by intro r hr;simp only[rowsOf,List.map_cons,List.map_nil,List.mem_cons,List.not_mem_nil,or_false]at hr;rcases hr with h|h<;>(subst h;rfl))) Z<|laO Z<|nA<|lmO Z<|lf 1 ty.F40_1 Z<|loI ty.kd3 Z<|lst (zC [(1,6),(2,5)] [6,5] [] Try.func91 (sputNum_l ([69,e.kind]) (e.key) 3 (by omega) (by omega) (by omega) (by decide) (by decide) (by first|(simp[numB_length];done)|(simp[numB_length];omega))) (trivial) rfl rfl) Z<|lT [1,2,3,16] [5,6,2001] ?_
  refine lmX (.tup [.own _,vB true]) Z<|lxO Z<|lxX (vB true) Z<|laO Z<|nA<|lmO Z<|lf 2 ty.F40_2 Z<|loI ty.kd3 Z<|lq (rd (x:=vI _ _) (rd_conv Z ty.ik3 ty.ik5 Z) Z) ?_
  refine AL.slot 22 (yv e.ch) (Eq.trans (b:=yv _) rfl (congrArg yv (by rw[wrap_u8];omega))) ?_
  refine lf 3 ty.F40_3 Z<|loI ty.kd3 Z<|lq (rd (x:=vI _ _) (rd_conv Z ty.ik3 ty.ik5 Z) Z) ?_
  refine AL.slot 25 (yv e.to) (Eq.trans (b:=yv _) rfl (congrArg yv (by rw[wrap_u8];omega))) ?_
  refine lst (zS 2026 (rowsOf encU [e.ch,e.to]) ty.el56 ty.ze5 rfl (by intro r hr;simp only[rowsOf,List.map_cons,List.map_nil,List.mem_cons,List.not_mem_nil,or_false]at hr;rcases hr with h|h<;>(subst h;rfl))) Z<|lst (zP 6 ty.el56 ty.ze5 ty.by5 rfl (Src.own rfl rfl) (by first|(simp[rowsOf,numB_length];done)|(simp[rowsOf,numB_length];omega))) Z<|laO Z<|nA<|lmO Z<|lf 4 ty.F40_4 Z<|loI ty.kd3 rfl ?_
  refine lst (St.call [(1,7),(2,6)] [7,6] [] rfl (by intro s hs;cases hs;decide) rfl Try.func91 rfl rfl (sputNum_l ([69,e.kind]++numB 3 e.key++[e.ch,e.to]) (e.amt) 7 (by omega) (by omega) (by omega) (by decide) (by decide) (by first|(simp[numB_length];done)|(simp[numB_length];omega))) ⟨rfl,rfl,rfl⟩ (⟨⟨6,rfl,(Eq.trans (b:=AO.arr 5 1 (rowsOf encU ([69,e.kind]++numB 3 e.key)++rowsOf encU [e.ch,e.to])) rfl (yapp _ _))⟩,trivial⟩) (trivial) rfl) Z<|lT [1,2,3,32] [5,6,7,2001,2026] ?_
  refine lmX (.tup [.own _,vB true]) Z<|lxO Z<|lxX (vB true) Z<|laO Z<|nA<|lmO Z<|lf 5 ty.F40_5 Z<|loI ty.kd3 Z<|lst (zC [(1,1),(2,7)] [1,7] [] Try.func91 (sputNum_l ([69,e.kind]++numB 3 e.key++[e.ch,e.to]++numB 7 e.amt) (e.fee) 7 (by omega) (by omega) (by omega) (by decide) (by decide) (by first|(simp[numB_length];done)|(simp[numB_length];omega))) (trivial) rfl rfl) Z<|lmX (.tup [.own _,vB true]) Z<|lxO Z<|lxX (vB true) Z<|laO Z<|nG<|aS<|sL<|lf 6 ty.F40_6 Z<|loB ty.kd4 Z<|nG ?_
  refine AW.cond rfl ?_ ?_
  ·intro h2
   refine sL<|lmO Z<|lst (zS 2045 (rowsOf encU [1]) ty.el56 ty.ze5 Z) Z<|lT [2,3,4,44,45] [1,5,6,7,2001,2026,2045] ?_
   refine lst (zP 1 ty.el56 ty.ze5 ty.by5 rfl (Src.own rfl rfl) (by first|(simp[rowsOf,numB_length];done)|(simp[rowsOf,numB_length];omega))) Z<|laO Z<|laT Z<|nG<|aR<|rT ?_
   rw[hok,evX_y hok]
   refine end_ret ?_ ⟨(Eq.trans (b:=AO.arr 5 1 (rowsOf encU ([69,e.kind]++numB 3 e.key++[e.ch,e.to]++numB 7 e.amt++numB 7 e.fee)++rowsOf encU [1])) rfl (by rw[←oapp];unfold evB;rw[h2];rfl)),trivial⟩
   rfl
  ·intro h2
   refine aK<|gA<|lmO Z<|lst (zS 2048 (rowsOf encU [0]) ty.el56 ty.ze5 rfl) Z<|lst (zP 1 ty.el56 ty.ze5 ty.by5 rfl (Src.own rfl rfl) (by first|(simp[rowsOf,numB_length];done)|(simp[rowsOf,numB_length];omega))) Z<|laO Z<|laT Z<|nG<|aR ?_
   rw[hok,evX_y hok]
   refine end_ret ?_ ⟨(Eq.trans (b:=AO.arr 5 1 (rowsOf encU ([69,e.kind]++numB 3 e.key++[e.ch,e.to]++numB 7 e.amt++numB 7 e.fee)++rowsOf encU [0])) rfl (by rw[←oapp];unfold evB;rw[h2];rfl)),trivial⟩
   rfl
theorem seventBody_e(e:Event):GC Try.prog 43 [evV e] [] (.tup [byV (evX e),boo (eventOk e)]) []:=(seventBody_o e).frz2
theorem getB_1{b:List Int}{k:Nat}(h:k<b.length):getB b k 1=b.getD k 0:=by
 rw[getB_y (by omega),getD_at h,List.drop_eq_getElem_cons h,List.take_succ_cons,List.take_zero]
 show 0*256+b[k]=b[k]
 omega
def gev(b:List Int):Event:=⟨getB b 1 1,getB b 2 3,getB b 5 1,getB b 6 1,getB b 7 7,getB b 14 7,decide (getB b 21 1=1)⟩
theorem gev_of{b:List Int}(h:b.length=22):gev b=evC b:=by
 obtain⟨e1,e2,e3⟩:=evC_of h
 unfold gev
 rw[getB_1 (by omega),getB_1 (by omega),getB_1 (by omega),getB_1 (by omega),e1,e2,e3]
 unfold evC
 congr 1
theorem gev_y{b:List Int}(h1:eventOk (gev b)=true)(h2:evX (gev b)=b):evF b=true∧gev b=evR b:=by
 have hl:b.length=22:=by rw[←h2,evX_y h1,evB_length]
 have e:=gev_of hl
 have hF:evF b=true:=evF_y hl (by rw[←e];exact h1) (by rw[←e];exact h2)
 exact⟨hF,by rw[evR_y hF,e]⟩
theorem gev_n1{b:List Int}(h:eventOk (gev b)=false):evF b=false:=Bool.eq_false_iff.2 fun q=>by
 have:=(evF_iff.1 q).2.1
 rw[←gev_of (evF_iff.1 q).1,h]at this
 cases this
theorem gev_n2{b:List Int}(h:evX (gev b)≠b):evF b=false:=Bool.eq_false_iff.2 fun q=>h (by
 obtain⟨hl,h1,h2⟩:=evF_iff.1 q
 rw[gev_of hl,evX_y h1,h2])
theorem sbodyEvent_e(b:List Int)(hb:BytesOk b)(hl:b.length≤2000000):GC Try.prog 55 [byV b] [] (.tup [evV (evR b),boo (evF b)]) []:=by
 refine GC.intro (rs:=[.cell 2 40 (some 7),.tmp 3]) Try.func55 rfl Try.ntmps55 (Nat.le_of_ble_eq_true rfl) ⟨rfl,rfl,ty.kd40,rfl,trivial⟩ ?_
 intro L O w0
 refine sL<|lst (zA 2002 ty.ze40 rfl) Z<|laZ Z<|nA<|lq (rd (x:=.agg [vI _ _,vI _ _,vI _ _,vI _ _,vI _ _,vI _ _,vB false]) (rd_build rfl ty.sa40 rfl rfl rfl) rfl)<|lst (zA 2004 ty.ze40 rfl) Z<|lst (zB 2004 ty.co40 ty.inf40 rfl) Z<|nA<|lmL Z<|lst (zC [] [] [] Try.func104 (sgetNum_e b 1 1 hb (by decide) (by decide) (by decide) hl) (trivial) rfl rfl) Z<|lmX (.tup [vI _ _,vB _]) Z<|lxI Z<|lxB Z<|lf 0 ty.F40_0 Z<|lst (zB 2004 ty.co3 ty.inf3 rfl) Z<|nA<|lmL Z<|lst (zC [] [] [] Try.func104 (sgetNum_e b 2 3 hb (by decide) (by decide) (by decide) hl) (trivial) rfl rfl) Z<|lT [0,2,3,4,18] [2002,2004] ?_
 refine lmX (.tup [vI _ _,vB _]) Z<|lxI Z<|lxB Z<|lf 1 ty.F40_1 Z<|lst (zB 2004 ty.co3 ty.inf3 rfl) Z<|nA<|lmL Z<|lst (zC [] [] [] Try.func104 (sgetNum_e b 5 1 hb (by decide) (by decide) (by decide) hl) (trivial) rfl rfl) Z<|lmX (.tup [vI _ _,vB _]) Z<|lxI Z<|lxB Z<|lf 2 ty.F40_2 Z<|lst (zB 2004 ty.co3 ty.inf3 rfl) Z<|nA<|lmL Z<|lst (zC [] [] [] Try.func104 (sgetNum_e b 6 1 hb (by decide) (by decide) (by decide) hl) (trivial) rfl rfl) Z<|lT [0,2,3,4,30] [2002,2004] ?_
 refine lmX (.tup [vI _ _,vB _]) Z<|lxI Z<|lxB Z<|lf 3 ty.F40_3 Z<|lst (zB 2004 ty.co3 ty.inf3 rfl) Z<|nA<|lmL Z<|lst (zC [] [] [] Try.func104 (sgetNum_e b 7 7 hb (by decide) (by decide) (by decide) hl) (trivial) rfl rfl) Z<|lmX (.tup [vI _ _,vB _]) Z<|lxI Z<|lxB Z<|lf 4 ty.F40_4 Z<|lst (zB 2004 ty.co3 ty.inf3 rfl) Z<|nA<|lmL Z<|lst (zC [] [] [] Try.func104 (sgetNum_e b 14 7 hb (by decide) (by decide) (by decide) hl) (trivial) rfl rfl) Z<|lT [0,2,3,4,42] [2002,2004] ?_
 refine lmX (.tup [vI _ _,vB _]) Z<|lxI Z<|lxB Z<|lf 5 ty.F40_5 Z<|lst (zB 2004 ty.co3 ty.inf3 rfl) Z<|nA<|lmL Z<|lst (zC [] [] [] Try.func104 (sgetNum_e b 21 1 hb (by decide) (by decide) (by decide) hl) (trivial) rfl rfl) Z<|lmX (.tup [vI _ _,vB _]) Z<|lxI Z<|lxB Z<|laI Z<|laB Z<|nA<|lmI Z<|lbB Z<|lf 6 ty.F40_6 Z<|lst (zB 2004 ty.co4 ty.inf4 rfl) Z<|lT [0,2,3,4] [2002,2004] ?_
 refine nA<|loX (.agg [vI _ _,vI _ _,vI _ _,vI _ _,vI _ _,vI _ _,vB _]) ty.kd40 Z<|lst (zC [] [] [] Try.func43 (seventBody_e (gev b)) (trivial) Z Z) Z<|lmX (.tup [vL _ _ _,vB _]) Z<|lxL Z<|lxB Z<|laL Z<|laB Z<|nG<|aS<|sL<|lmB Z<|luB Z<|lmB Z ?_
 refine AL.bool (t:=61) rfl ?_ ?_
 ·intro h1
  refine lno Z<|lno Z<|lno Z<|lno Z<|lno Z<|lkT Z<|nG<|aY Z<|sL<|lq (rd (x:=.agg [vI _ _,vI _ _,vI _ _,vI _ _,vI _ _,vI _ _,vB false]) (rd_build Z ty.sa40 Z Z Z) Z)<|lst (zB 2002 ty.co40 ty.inf40 Z) Z<|laZ Z<|nG<|aR<|rT ?_
  have hF:evF b=false:=by first|exact gev_n1 (by simpa using h1)|exact gev_n2 (by simpa using h1)
  rw[evR_n hF,hF]
  refine end_ret ?_ trivial
  rfl
 ·intro h1
  refine lmL Z<|lq (rd (x:=vV _) (rd_str_p (e:=5) Z Try.underlying56 Try.underlying5 Try.underlying9 Z) Z)<|lmL Z<|lq (rd (x:=vV _) (rd_str_p (e:=5) Z Try.underlying56 Try.underlying5 Try.underlying9 Z) Z)<|lq (rd (x:=vB _) (rd_val Z Z Z (run_strne Try.underlying9 (evX_ok _) hb) Z) Z)<|lkB Z<|nG ?_
  refine AW.cond rfl ?_ ?_
  ·intro h2
   refine sL<|lq (rd (x:=.agg [vI _ _,vI _ _,vI _ _,vI _ _,vI _ _,vI _ _,vB false]) (rd_build Z ty.sa40 Z Z Z) Z)<|lst (zB 2002 ty.co40 ty.inf40 Z) Z<|lT [2,3,4] [2002,2004] ?_
   refine laZ Z<|nG<|aR<|rT ?_
   have hF:evF b=false:=by first|exact gev_n1 (by simpa using h2)|exact gev_n2 (by simpa using h2)|exact gev_n1 (by simpa using h1)|exact gev_n2 (by simpa using h1)
   rw[evR_n hF,hF]
   refine end_ret ?_ trivial
   rfl
  ·intro h2
   refine aK<|gA<|loX (.agg [vI _ _,vI _ _,vI _ _,vI _ _,vI _ _,vI _ _,vB _]) ty.kd40 Z<|lst (zB 2002 ty.co40 ty.inf40 Z) Z<|laT Z<|nG<|aR ?_
   obtain⟨hF,hR⟩:=gev_y (b:=b) (by first|(simpa using h1)|(simpa using h2)) (by first|(simpa using h1)|(simpa using h2))
   rw[←hR,hF]
   refine end_ret ?_ trivial
   rfl

section
variable {P:Program}{o:Oper}{τ:Nat→AV}{H:Nat→AO}{X:Nat→Bool}
theorem rd_str_o{s d e:TypeId}{x:Operand}{l:List Int}{id:Nat}{e0:Pin}(ho:o.op=.convert s d x)(hs:P.underlying s=some (.slice e))(he:P.underlying e=some (.int .u8))(hd:P.underlying d=some .string)(hx:ev τ x=.own id)(hH:H id=.arr e0 1 (rowsOf encU l))(hX:X id=false):Rd P o τ H X (strV l):=by
 constructor
 intro L O w0 N ρ fp a w hr
 have h:=hr.ev x
 rw[hx,RV]at h
 have hv:=h.2 (by rw[hH];rfl)
 have hob:=hr.ob id
 rw[hH]at hob
 obtain⟨xs,fr,b1,b2,b3,b4,_⟩:=hob
 have hxs:=rows_flat_u b1
 subst hxs
 refine⟨.string (strOfNums l),RV.v_mk rfl,fun W hK=>?_⟩
 have e1:execOp a.eval o=(do let v ←convert s d (a.eval x);pure (.value v)):=by simp only[execOp,ho]
 rw[e1,hv,Sem.run_bind]
 rcases b3.2 with⟨q,q2⟩|⟨g,cap,cur,q,_,hg,hnc,hcm,_⟩
 ·have:l=[]:=List.length_eq_zero_iff.1 (by rw[length_rowsOf]at q2;exact q2)
  subst this
  rw[q,str_none hs he hd];rfl
 ·obtain⟨hc,hlt⟩:=own_at (fp:=fp id) b3 q
  have hW:W.heap[g]? = w.heap[g]?:=hK.2 g hlt (fun j hj q1 q2=>by
   have hne:j≠id:=fun z=>by subst z;rw[hX]at hj;cases hj
   exact hr.dj j id hne g ((hr.ob j).top q1 q2) (by rw[b4,q];simp[Value.ownBlock]))
  have hcW:CellsAt W g 0 (l.map (Value.int .u8)):=fun j v hj=>by
   rw[World.cell?_of_block (w:=w) (a:=⟨g,0+j,none⟩) hW];exact hc j v hj
  rw[q,str_run hs he hd (length_rowsOf _ _).symm hcW];rfl
end

theorem ssectorOk_e(s:Sector):GC Try.prog 92 [secV s] [] (boo (secOk s)) []:=by
 refine gi 2 Try.func92 rfl Try.ntmps92 rfl ?_
 intro L O w0
 refine sL<|lst (zX 2001 Z) Z<|laZ Z<|nA<|lf 0 ty.F92_0 Z<|loI ty.kd3 Z<|lbB Z<|lmB Z ?_
 refine AL.bool (t:=6) rfl ?_ ?_
 ·intro h1
  refine lf 0 ty.F92_0 Z<|loI ty.kd3 Z<|lbB Z<|lkB Z<|lmB Z ?_
  refine AL.bool (t:=11) rfl ?_ ?_
  ·intro h2
   refine lf 1 ty.F92_1 Z<|loI ty.kd3 Z<|lbB Z<|lkB Z<|lmB Z ?_
   refine AL.bool (t:=16) rfl ?_ ?_
   ·intro h3
    refine lf 1 ty.F92_1 Z<|loI ty.kd3 Z<|lbB Z<|lkB Z<|lmB Z ?_
    refine AL.bool (t:=21) rfl ?_ ?_
    ·intro h4
     refine lf 2 ty.F92_2 Z<|loL ty.kd56 Z<|lnI ty.sl56 Z ?_
     refine AL.slot 24 (int (s.body.length:Int)) (congrArg (fun n:Nat=>int (n:Int)) (length_rowsOf _ _)) ?_
     refine lbB Z<|lkB Z<|laB Z<|nG<|aR ?_
     refine eBo trivial ?_
     unfold secOk inB
     rw[Bool.eq_iff_iff]
     simp only[decide_eq_true_eq,decide_eq_false_iff_not,Bool.and_eq_true,Bool.false_eq_true,false_iff,ge_iff_le]at *
     omega
    ·intro h4
     refine lno Z<|lno Z<|lno Z<|lno Z<|lkZ Z<|laZ Z<|nG<|aR ?_
     refine eBo trivial ?_
     unfold secOk inB
     rw[Bool.eq_iff_iff]
     simp only[decide_eq_true_eq,decide_eq_false_iff_not,Bool.and_eq_true,Bool.false_eq_true,false_iff,ge_iff_le]at *
     omega
   ·intro h3
    refine lno Z<|lno Z<|lno Z<|lkZ Z<|lT [1,2,20] [2001] ?_
    refine lmZ Z<|lno Z<|lno Z<|lno Z<|lno Z<|lkZ Z<|laZ Z<|nG<|aR ?_
    refine eBo trivial ?_
    unfold secOk inB
    rw[Bool.eq_iff_iff]
    simp only[decide_eq_true_eq,decide_eq_false_iff_not,Bool.and_eq_true,Bool.false_eq_true,false_iff,ge_iff_le]at *
    omega
  ·intro h2
   refine lno Z<|lno Z<|lno Z<|lkZ Z<|lmZ Z<|lno Z<|lno Z<|lno Z<|lkZ Z<|lmZ Z<|lno Z<|lno Z<|lno Z<|lno Z<|lkZ Z<|laZ Z<|nG<|aR ?_
   refine eBo trivial ?_
   unfold secOk inB
   rw[Bool.eq_iff_iff]
   simp only[decide_eq_true_eq,decide_eq_false_iff_not,Bool.and_eq_true,Bool.false_eq_true,false_iff,ge_iff_le]at *
   omega
 ·intro h1
  refine lno Z<|lno Z<|lno Z<|lkZ Z<|lmZ Z<|lno Z<|lno Z<|lno Z<|lkZ Z<|lmZ Z<|lno Z<|lno Z<|lno Z<|lkZ Z<|lmZ Z<|lno Z<|lno Z<|lno Z<|lno Z<|lkZ Z<|laZ Z<|nG<|aR ?_
  refine eBo trivial ?_
  unfold secOk inB
  rw[Bool.eq_iff_iff]
  simp only[decide_eq_true_eq,decide_eq_false_iff_not,Bool.and_eq_true,Bool.false_eq_true,false_iff,ge_iff_le]at *
  omega
theorem numB_1{n:Int}(h0:0≤n)(h1:n≤255):numB 1 n=[n]:=by
 show [n/256 ^ 0%256]=[n]
 congr 1
 simp
 omega
theorem ssectorBytes_o(s:Sector):GC Try.prog 44 [secV s] [] (.tup [.own 1,boo (secOk s)]) [(1,yAr (secX s))]:=by
 refine GC.intro (rs:=[.tmp 2,.tmp 3]) Try.func44 rfl Try.ntmps44 (Nat.le_of_ble_eq_true rfl) ⟨rfl,rfl,trivial⟩ ?_
 intro L O w0
 refine sL<|lst (zX 2001 Z) Z<|laV Z<|laZ Z<|nG<|aS<|sL<|loX (.agg [vI _ _,vI _ _,vL _ _ _]) ty.kd92 Z<|lst (zC [] [] [] Try.func92 (ssectorOk_e s) (trivial) Z Z) Z<|luB Z<|nG ?_
 refine AW.cond rfl ?_ ?_
 ·intro h1
  refine sL<|laV Z<|laZ Z<|nG ?_
  refine AW.adoptT 1 2 5 1 rfl ?_
  refine aR<|rT ?_
  have hok:secOk s=false:=by simpa using h1
  rw[hok,secX_n hok]
  refine end_ret ?_ ⟨rfl,trivial⟩
  rfl
 ·intro h1
  refine aK<|gT<|aS ?_
  have hok:secOk s=true:=by simpa using h1
  obtain⟨⟨a1,a2⟩,⟨b1,b2⟩,hl⟩:=secOk_iff.1 hok
  refine aL<|lst (zS 5 (rowsOf encU [74]) ty.el56 ty.ze5 rfl) Z<|lf 0 ty.F92_0 Z<|loI ty.kd3 Z<|lst (zC [(1,6),(2,5)] [6,5] [] Try.func91 (sputNum_l ([74]) (s.seq) 3 (by omega) (by omega) (by omega) (by decide) (by decide) (by first|(simp[numB_length];done)|(simp[numB_length];omega))) (trivial) rfl rfl) Z<|lmX (.tup [.own _,vB true]) Z<|lxO Z<|lxX (vB true) Z<|laO Z<|laT Z<|nA<|lmO Z<|lf 1 ty.F92_1 Z<|loI ty.kd3 Z<|lst (zC [(1,7),(2,6)] [7,6] [] Try.func91 (sputNum_l ([74]++numB 3 s.seq) (s.epoch) 3 (by omega) (by omega) (by omega) (by decide) (by decide) (by first|(simp[numB_length];done)|(simp[numB_length];omega))) (trivial) rfl rfl) Z<|lT [1,2,3,20] [5,6,7,2001] ?_
  refine lmX (.tup [.own _,vB true]) Z<|lxO Z<|lxX (vB true) Z<|laO Z<|nA<|lmO Z<|lf 2 ty.F92_2 Z<|loL ty.kd56 Z<|lnI ty.sl56 Z ?_
  refine AL.slot 27 (int (s.body.length:Int)) (congrArg (fun n:Nat=>int (n:Int)) (length_rowsOf _ _)) ?_
  refine lst (zC [(1,8),(2,7)] [8,7] [] Try.func91 (sputNum_l ([74]++numB 3 s.seq++numB 3 s.epoch) ((s.body.length:Int)) 1 (by omega) (by omega) (by omega) (by decide) (by decide) (by first|(simp[numB_length];done)|(simp[numB_length];omega))) (trivial) rfl rfl) Z<|lmX (.tup [.own _,vB true]) Z<|lxO Z<|lxX (vB true) Z<|laO Z<|nA<|lmO Z<|lf 2 ty.F92_2 Z<|loL ty.kd56 Z<|lst (zP 8 ty.el56 ty.ze5 ty.by5 rfl (Src.p rfl) (by first|(simp[rowsOf,numB_length];done)|(simp[rowsOf,numB_length];omega))) Z<|lT [1,2,3,34] [5,6,7,8,2001] ?_
  refine laO Z<|nG ?_
  refine AW.obj 8 (yAr ([74]++numB 3 s.seq++numB 3 s.epoch++[(s.body.length:Int)]++s.body)) ((Eq.trans (b:=AO.arr 5 1 (rowsOf encU ([74]++numB 3 s.seq++numB 3 s.epoch++numB 1 (s.body.length:Int))++rowsOf encU s.body)) rfl (by rw[numB_1 (by omega) (by omega),←oapp]))) ?_
  refine sL<|lmO Z<|lmO Z<|lnI ty.sl56 Z ?_
  refine AL.slot 37 (int ((8+s.body.length:Nat):Int)) (Eq.trans (b:=int _) rfl (congrArg (fun n:Nat=>int (n:Int)) (by rw[length_rowsOf];first|(simp[numB_length];done)|(simp[numB_length];omega)))) ?_
  refine lgI Z<|lst (St.appZ 8 (m:=114-s.body.length) rfl rfl (by decide) ty.el56 ty.ze5 rfl ty.ik3 rfl rfl rfl ?hn1 (by rw[length_rowsOf];first|(simp;done)|(simp;omega)) (by omega) (by rw[length_rowsOf];simp[numB_length,maxLen];omega) (Nat.le_trans (Nat.mul_le_mul_left _ ty.by5) (by rw[length_rowsOf];simp[numB_length];omega))) rfl ?_
  case hn1=>omega
  refine laO Z<|nG ?_
  refine AW.obj 8 (yAr ([74]++numB 3 s.seq++numB 3 s.epoch++[(s.body.length:Int)]++s.body++List.replicate (114-s.body.length) 0)) ((Eq.trans (b:=AO.arr 5 1 (rowsOf encU ([74]++numB 3 s.seq++numB 3 s.epoch++[(s.body.length:Int)]++s.body)++List.replicate (114-s.body.length) [PV.v (.int .u8 0)])) rfl (by rw[zero_rows,←oapp]))) ?_
  refine sL<|lmO Z<|lf 0 ty.F92_0 Z<|loI ty.kd3 Z<|lst (zC [(1,9),(2,8)] [9,8] [] Try.func91 (sputNum_l ([74]++numB 3 s.seq++numB 3 s.epoch++[(s.body.length:Int)]++s.body++List.replicate (114-s.body.length) 0) (s.seq) 3 (by omega) (by omega) (by omega) (by decide) (by decide) (by first|(simp[numB_length];done)|(simp[numB_length];omega))) (trivial) rfl rfl) Z<|lmX (.tup [.own _,vB true]) Z<|lxO Z<|lxX (vB true) Z<|laO Z<|nA<|lmO Z<|lf 1 ty.F92_1 Z<|loI ty.kd3 Z<|lst (zC [(1,1),(2,9)] [1,9] [] Try.func91 (sputNum_l ([74]++numB 3 s.seq++numB 3 s.epoch++[(s.body.length:Int)]++s.body++List.replicate (114-s.body.length) 0++numB 3 s.seq) (s.epoch) 3 (by omega) (by omega) (by omega) (by decide) (by decide) (by first|(simp[numB_length];done)|(simp[numB_length];omega))) (trivial) rfl rfl) Z<|lT [2,3,50] [1,5,6,7,8,9,2001] ?_
  refine lxO Z<|lxX (vB true) Z<|laO Z<|laT Z<|nG<|aR ?_
  rw[hok,secX_y hok]
  refine end_ret ?_ ⟨rfl,trivial⟩
  rfl
theorem ssectorBytes_e(s:Sector):GC Try.prog 44 [secV s] [] (.tup [byV (secX s),boo (secOk s)]) []:=(ssectorBytes_o s).frz2
theorem ssectorBytes_l{u:Value}(s:Sector):GC Try.prog 44 [.agg [int s.seq,int s.epoch,.own 2]] [(2,.arr ⟨5,some u⟩ 1 (rowsOf encU s.body))] (.tup [.own 1,boo (secOk s)]) [(1,yAr (secX s)),(2,.arr ⟨5,some u⟩ 1 (rowsOf encU s.body))]:=
 (ssectorBytes_o s).lent rfl rfl (by intro id hid;simp[ownN,ownNL]at hid;subst hid;rfl) (by intro p hp;simp at hp;subst hp;rfl) (by intro p hp;simp at hp;subst hp;exact⟨rfl,flat_rowsOf⟩) (by intro p hp;simp at hp;subst hp;rfl)
def gsC(b:List Int):Sector:=⟨getB b 1 3,getB b 4 3,(b.drop 8).take (getB b 7 1).toNat⟩
def gs0(b:List Int):Sector:=⟨getB b 1 3,getB b 4 3,[]⟩
theorem gsC_of{b:List Int}(h:b.length=128):gsC b=secC b:=by
 obtain⟨e1,e2⟩:=secC_of h
 unfold gsC
 rw[getB_1 (by omega),e1,e2]
 rfl
theorem gs_y{b:List Int}(h:b.length=128)(hn:getB b 7 1≤100)(h1:secOk (gsC b)=true)(h2:secX (gsC b)=b):secF b=true:=by
 rw[gsC_of h]at h1 h2
 rw[getB_1 (by omega),get7 (by omega)]at hn
 exact secF_y h (by omega) hn h1 h2
theorem gs_n1{b:List Int}(h:b.length=128)(h1:secOk (gsC b)=false):secF b=false:=secF_n2 (by rwa [gsC_of h]at h1)
theorem gs_n2{b:List Int}(h:b.length=128)(h1:secX (gsC b)≠b):secF b=false:=secF_n3 (by rwa [gsC_of h]at h1)
theorem gs_n3{b:List Int}(h:¬(getB b 7 1≤100∧b.length=128)):secF b=false:=Bool.eq_false_iff.2 fun q=>h (by
 obtain⟨q1,q2,_⟩:=secF_iff.1 q
 exact⟨by rw[getB_1 (by omega)];exact q2,q1⟩)
theorem gs0_y{b:List Int}(h1:secOk (gs0 b)=true)(h2:secX (gs0 b)=b):getB b 7 1≤100∧b.length=128:=by
 rw[secX_y h1]at h2
 have hl:b.length=128:=by rw[←h2];exact secB_length (by show 0≤100;omega)
 refine⟨?_,hl⟩
 have e:=secC_secB h1
 rw[h2]at e
 have e2:((b.drop 8).take (b.getD 7 0).toNat).length=0:=by
  have:(secC b).body=[]:=by rw[e];rfl
  have:=congrArg List.length this
  exact this
 rw[List.length_take,List.length_drop]at e2
 rw[getB_1 (by omega)]
 omega
def secRelO(b:List Int):AV→List (Nat×AO)→Prop:=fun y ob=>secF b=true∧y=.tup [.agg [int (secC b).seq,int (secC b).epoch,.own 1],boo true]∧ob=[(1,yAr (secC b).body)]∨secF b=false∧y=.tup [.agg [int 0,int 0,.p (.v (.slice none 0 0))],boo false]∧ob=[]
theorem GX.secO{f:FuncId}{b:List Int}(h:GX Try.prog f [byV b] [] (secRelO b)):GX Try.prog f [byV b] [] (secRel b):=
 (GX.frozen (Z:=fun y=>secRel b y []) h fun x ob q=>by
   rcases q with⟨h1,rfl,rfl⟩|⟨h1,rfl,rfl⟩
   ·exact⟨_,Still.tup (.cons (Still.agg (.cons (Still.p _) (.cons (Still.p _) (.cons (Still.row (e:=⟨5,none⟩) (sz:=1) (rows:=rowsOf encU (secC b).body) rfl) .nil)))) (.cons (Still.p _) .nil)),rfl,.inl ⟨h1,rfl⟩⟩
   ·exact⟨_,Still.tup (.cons (Still.agg (.cons (Still.p _) (.cons (Still.p _) (.cons (Still.p _) .nil)))) (.cons (Still.p _) .nil)),rfl,.inr ⟨h1,rfl⟩⟩).mono fun y o ⟨e1,e2⟩=>by subst e1;exact e2
theorem ssectorRead_0(b:List Int)(hb:BytesOk b)(hl:b.length≤2000000):GX Try.prog 77 [byV b] [] (secRelO b):=by
 refine GX.intro (rs:=[.cell 2 92 (some 3),.tmp 3]) Try.func77 rfl Try.ntmps77 (Nat.le_of_ble_eq_true rfl) ⟨rfl,rfl,ty.kd92,rfl,trivial⟩ ?_
 intro L O w0
 refine sL<|lst (zA 2002 ty.ze92 rfl) Z<|laZ Z<|nA<|lq (rd (x:=.agg [vI _ _,vI _ _,vV _]) (rd_build rfl ty.sa92 rfl rfl rfl) rfl)<|lst (zA 3 ty.ze92 rfl) Z<|lst (zB 3 ty.co92 ty.inf92 rfl) Z<|nA<|lmL Z<|lst (zC [] [] [] Try.func104 (sgetNum_e b 1 3 hb (by decide) (by decide) (by decide) hl) (trivial) rfl rfl) Z<|lmX (.tup [vI _ _,vB _]) Z<|lxI Z<|lxB Z<|lf 0 ty.F92_0 Z<|lst (zB 3 ty.co3 ty.inf3 rfl) Z<|nA<|lmL Z<|lst (zC [] [] [] Try.func104 (sgetNum_e b 4 3 hb (by decide) (by decide) (by decide) hl) (trivial) rfl rfl) Z<|lT [0,2,3,4,18] [3,2002] ?_
 refine lmX (.tup [vI _ _,vB _]) Z<|lxI Z<|lxB Z<|lf 1 ty.F92_1 Z<|lst (zB 3 ty.co3 ty.inf3 rfl) Z<|nA<|lmL Z<|lst (zC [] [] [] Try.func104 (sgetNum_e b 7 1 hb (by decide) (by decide) (by decide) hl) (trivial) rfl rfl) Z<|lmX (.tup [vI _ _,vB _]) Z<|lxI Z<|lxB Z<|laI Z<|laB Z<|nG<|aS<|sL<|lmI Z<|lbB Z<|lmB rfl ?_
 refine AL.bool (t:=29) rfl ?_ ?_
 ·intro h1
  refine lmL Z<|lnI ty.sl56 Z<|lbB Z<|lkB Z<|nG ?_
  refine AW.cond rfl ?_ ?_
  ·intro h2
   have hn:getB b 7 1≤100:=by first|(have h:=h1;simp at h;omega)|(have h:=h2;simp at h;omega)
   have h128:b.length=128:=by first|(have h:=h1;simp[length_rowsOf]at h;omega)|(have h:=h2;simp[length_rowsOf]at h;omega)
   have h7:7<b.length:=by omega
   have hg:0≤getB b 7 1:=by rw[getB_1 h7,get7 h7];exact(hb _ (List.getElem_mem h7)).1
   refine aL<|lst (zS 1 (rowsOf encU []) ty.el56 ty.ze5 rfl (by intro r hr;cases hr)) Z<|lT [0,2,3,4,5,34] [1,3,2002] ?_
   refine lmL Z<|lmI Z<|lgI Z<|lsN 37 ((8+(getB b 7 1).toNat:Nat):Int) rfl (by omega) ?_
   refine lq (rd (x:=vL _ _ _) (rd_slc_p (l:=8) (h:=8+(getB b 7 1).toNat) rfl ty.el56 rfl ⟨_,rfl⟩ ⟨_,rfl⟩ (by omega) (by rw[length_rowsOf];omega)) rfl) ?_
   refine AL.slot 38 (byV ((b.drop 8).take (getB b 7 1).toNat)) (Eq.trans (b:=.p (.lst 5 1 (((rowsOf encU b).take (8+(getB b 7 1).toNat)).drop 8))) rfl (congrArg (fun r=>AV.p (.lst 5 1 r)) take_drop_rows)) ?_
   refine lst (zP 1 ty.el56 ty.ze5 ty.by5 rfl (Src.p rfl) (by first|(simp[rowsOf,numB_length];done)|(simp[rowsOf,numB_length];omega))) Z<|lf 2 ty.F92_2 Z<|lst (zB 3 ty.co56 ty.inf56 rfl) Z<|nG ?_
   refine AW.obj 1 (yAr ((b.drop 8).take (getB b 7 1).toNat)) ((Eq.trans (b:=AO.arr 5 1 (rowsOf encU []++rowsOf encU ((b.drop 8).take (getB b 7 1).toNat))) rfl rfl)) ?_
   refine aS ?_
   refine AW.pinA 1 rfl ?_
   intro u1
   refine aL<|loX (.agg [vI _ _,vI _ _,.own _]) ty.kd92 Z ?_
   refine lst (zC [(1,4),(2,1)] [4] [2] Try.func44 (ssectorBytes_l (gsC b)) (⟨stays.arr rfl,trivial⟩) rfl rfl) Z<|lmX (.tup [.own _,vB _]) Z<|lxO Z<|lxB Z<|laO Z<|laB Z<|nG ?_
   refine AW.unpin 1 rfl ?_
   refine aS<|sL<|lmB Z<|luB Z<|lmB Z ?_
   refine AL.bool (t:=48) rfl ?_ ?_
   ·intro h3
    refine lno Z<|lno Z<|lno Z<|lno Z<|lno Z<|lkT Z<|nG<|aY Z<|sL<|lq (rd (x:=.agg [vI _ _,vI _ _,vV _]) (rd_build Z ty.sa92 Z Z Z) Z)<|lst (zB 2002 ty.co92 ty.inf92 Z) Z<|lT [2,3,4] [1,3,4,2002] ?_
    refine laZ Z<|nG<|aR<|rT ?_
    have hF:secF b=false:=by first|exact gs_n1 h128 (by simpa using h3)|exact gs_n2 h128 (by simpa using h3)|exact gs_n1 h128 (by simpa using h2)|exact gs_n2 h128 (by simpa using h2)|exact gs_n1 h128 (by simpa using h1)|exact gs_n2 h128 (by simpa using h1)
    refine end_xret ((.tup [.agg [int 0,int 0,.p (.v (.slice none 0 0))],boo false])) [] ?_ rfl trivial
    exact .inr ⟨hF,rfl,rfl⟩
   ·intro h3
    refine lmO Z<|lq (rd (x:=vV _) (rd_str_o (e:=5) rfl Try.underlying56 Try.underlying5 Try.underlying9 rfl rfl rfl) rfl)<|lmL Z<|lq (rd (x:=vV _) (rd_str_p (e:=5) rfl Try.underlying56 Try.underlying5 Try.underlying9 rfl) rfl)<|lq (rd (x:=vB _) (rd_val rfl rfl rfl (run_strne Try.underlying9 (secX_ok (by first|exact .nil|exact(hb.drop 8).take _)) hb) rfl) rfl)<|lkB Z<|nG ?_
    refine AW.cond rfl ?_ ?_
    ·intro h4
     refine sL<|lq (rd (x:=.agg [vI _ _,vI _ _,vV _]) (rd_build Z ty.sa92 Z Z Z) Z)<|lst (zB 2002 ty.co92 ty.inf92 Z) Z<|laZ Z<|nG<|aR<|rT ?_
     have hF:secF b=false:=by first|exact gs_n1 h128 (by simpa using h4)|exact gs_n2 h128 (by simpa using h4)|exact gs_n1 h128 (by simpa using h3)|exact gs_n2 h128 (by simpa using h3)|exact gs_n1 h128 (by simpa using h2)|exact gs_n2 h128 (by simpa using h2)|exact gs_n1 h128 (by simpa using h1)|exact gs_n2 h128 (by simpa using h1)
     refine end_xret ((.tup [.agg [int 0,int 0,.p (.v (.slice none 0 0))],boo false])) [] ?_ rfl trivial
     exact .inr ⟨hF,rfl,rfl⟩
    ·intro h4
     refine aK<|gA<|loX (.agg [vI _ _,vI _ _,.own _]) ty.kd92 Z<|lst (zB 2002 ty.co92 ty.inf92 Z) Z<|laT Z<|nG<|aR ?_
     have hF:=gs_y h128 hn (by first|(simpa using h1)|(simpa using h2)|(simpa using h3)|(simpa using h4)) (by first|(simpa using h1)|(simpa using h2)|(simpa using h3)|(simpa using h4))
     have hC:=gsC_of h128
     refine end_xret ((.tup [.agg [int (gsC b).seq,int (gsC b).epoch,.own 1],boo true])) [(1,yAr (gsC b).body)] ?_ rfl ⟨rfl,trivial⟩
     exact .inl ⟨hF,by rw[hC],by rw[hC]⟩
  ·intro h2
   refine aK<|gT<|aS ?_
   have hno:¬(getB b 7 1≤100∧b.length=128):=by first|(have h:=h2;simp[length_rowsOf]at h;omega)
   refine AW.adoptB 1 3 2 5 1 rfl (by decide) rfl ?_
   refine AW.pinA 1 rfl ?_
   intro u1
   refine aL<|loX (.agg [vI _ _,vI _ _,.own _]) ty.kd92 Z ?_
   refine lst (zC [(1,4),(2,1)] [4] [2] Try.func44 (ssectorBytes_l (gs0 b)) (⟨stays.arr rfl,trivial⟩) rfl rfl) Z<|lT [0,2,3,4,43] [1,3,4,2002] ?_
   refine lmX (.tup [.own _,vB _]) Z<|lxO Z<|lxB Z<|laO Z<|laB Z<|nG ?_
   refine AW.unpin 1 rfl ?_
   refine aS<|sL<|lmB Z<|luB Z<|lmB Z ?_
   refine AL.bool (t:=48) rfl ?_ ?_
   ·intro h5
    refine lno Z<|lno Z<|lno Z<|lno Z<|lno Z<|lkT Z<|nG<|aY Z<|sL<|lq (rd (x:=.agg [vI _ _,vI _ _,vV _]) (rd_build Z ty.sa92 Z Z Z) Z)<|lst (zB 2002 ty.co92 ty.inf92 Z) Z<|laZ Z<|nG<|aR<|rT ?_
    have hF:secF b=false:=gs_n3 hno
    refine end_xret ((.tup [.agg [int 0,int 0,.p (.v (.slice none 0 0))],boo false])) [] ?_ rfl trivial
    exact .inr ⟨hF,rfl,rfl⟩
   ·intro h5
    refine lmO Z<|lq (rd (x:=vV _) (rd_str_o (e:=5) rfl Try.underlying56 Try.underlying5 Try.underlying9 rfl rfl rfl) rfl)<|lmL Z<|lq (rd (x:=vV _) (rd_str_p (e:=5) rfl Try.underlying56 Try.underlying5 Try.underlying9 rfl) rfl)<|lq (rd (x:=vB _) (rd_val rfl rfl rfl (run_strne Try.underlying9 (secX_ok (by first|exact .nil|exact(hb.drop 8).take _)) hb) rfl) rfl)<|lkB Z<|nG ?_
    refine AW.cond rfl ?_ ?_
    ·intro h6
     refine sL<|lq (rd (x:=.agg [vI _ _,vI _ _,vV _]) (rd_build Z ty.sa92 Z Z Z) Z)<|lst (zB 2002 ty.co92 ty.inf92 Z) Z<|lT [2,3,4] [1,3,4,2002] ?_
     refine laZ Z<|nG<|aR<|rT ?_
     have hF:secF b=false:=gs_n3 hno
     refine end_xret ((.tup [.agg [int 0,int 0,.p (.v (.slice none 0 0))],boo false])) [] ?_ rfl trivial
     exact .inr ⟨hF,rfl,rfl⟩
    ·intro h6
     refine aK<|gA<|loX (.agg [vI _ _,vI _ _,.own _]) ty.kd92 Z<|lst (zB 2002 ty.co92 ty.inf92 Z) Z<|laT Z<|nG<|aR ?_
     have hF:=hno (gs0_y (by first|(simpa using h1)|(simpa using h2)|(simpa using h5)|(simpa using h6)) (by first|(simpa using h1)|(simpa using h2)|(simpa using h5)|(simpa using h6)))
     refine end_xret ((.tup [.agg [int (getB b 1 3),int (getB b 4 3),.own 1],boo true])) [] ?_ rfl trivial
     exact hF.elim
 ·intro h1
  refine lno Z<|lno Z<|lno Z<|lkZ Z<|nG<|aN Z<|aK<|gT<|aS ?_
  have hno:¬(getB b 7 1≤100∧b.length=128):=by first|(have h:=h1;simp[length_rowsOf]at h;omega)
  refine AW.adoptB 1 3 2 5 1 rfl (by decide) rfl ?_
  refine AW.pinA 1 rfl ?_
  intro u1
  refine aL<|loX (.agg [vI _ _,vI _ _,.own _]) ty.kd92 Z ?_
  refine lst (zC [(1,4),(2,1)] [4] [2] Try.func44 (ssectorBytes_l (gs0 b)) (⟨stays.arr rfl,trivial⟩) rfl rfl) Z<|lmX (.tup [.own _,vB _]) Z<|lxO Z<|lxB Z<|laO Z<|laB Z<|nG ?_
  refine AW.unpin 1 rfl ?_
  refine aS<|sL<|lmB Z<|luB Z<|lmB Z ?_
  refine AL.bool (t:=48) rfl ?_ ?_
  ·intro h7
   refine lno Z<|lno Z<|lno Z<|lno Z<|lno Z<|lkT Z<|nG<|aY Z<|sL<|lq (rd (x:=.agg [vI _ _,vI _ _,vV _]) (rd_build Z ty.sa92 Z Z Z) Z)<|lst (zB 2002 ty.co92 ty.inf92 Z) Z<|lT [2,3,4] [1,3,4,2002] ?_
   refine laZ Z<|nG<|aR<|rT ?_
   have hF:secF b=false:=gs_n3 hno
   refine end_xret ((.tup [.agg [int 0,int 0,.p (.v (.slice none 0 0))],boo false])) [] ?_ rfl trivial
   exact .inr ⟨hF,rfl,rfl⟩
  ·intro h7
   refine lmO Z<|lq (rd (x:=vV _) (rd_str_o (e:=5) rfl Try.underlying56 Try.underlying5 Try.underlying9 rfl rfl rfl) rfl)<|lmL Z<|lq (rd (x:=vV _) (rd_str_p (e:=5) rfl Try.underlying56 Try.underlying5 Try.underlying9 rfl) rfl)<|lq (rd (x:=vB _) (rd_val rfl rfl rfl (run_strne Try.underlying9 (secX_ok (by first|exact .nil|exact(hb.drop 8).take _)) hb) rfl) rfl)<|lkB Z<|nG ?_
   refine AW.cond rfl ?_ ?_
   ·intro h8
    refine sL<|lq (rd (x:=.agg [vI _ _,vI _ _,vV _]) (rd_build Z ty.sa92 Z Z Z) Z)<|lst (zB 2002 ty.co92 ty.inf92 Z) Z<|laZ Z<|nG<|aR<|rT ?_
    have hF:secF b=false:=gs_n3 hno
    refine end_xret ((.tup [.agg [int 0,int 0,.p (.v (.slice none 0 0))],boo false])) [] ?_ rfl trivial
    exact .inr ⟨hF,rfl,rfl⟩
   ·intro h8
    refine aK<|gA<|loX (.agg [vI _ _,vI _ _,.own _]) ty.kd92 Z<|lst (zB 2002 ty.co92 ty.inf92 Z) Z<|laT Z<|nG<|aR ?_
    have hF:=hno (gs0_y (by first|(simpa using h1)|(simpa using h7)|(simpa using h8)) (by first|(simpa using h1)|(simpa using h7)|(simpa using h8)))
    refine end_xret ((.tup [.agg [int (getB b 1 3),int (getB b 4 3),.own 1],boo true])) [] ?_ rfl trivial
    exact hF.elim
theorem ssectorRead_e(b:List Int)(hb:BytesOk b)(hl:b.length≤2000000):GC Try.prog 77 [byV b] [] (.tup [secV (secR b),boo (secF b)]) []:=GX.sec (GX.secO (ssectorRead_0 b hb hl))

theorem fullB_0{b:List Int}(h:b.length=0):fullB b=List.replicate 128 0:=if_pos h
theorem fullB_n{b:List Int}(h:b.length≠0):fullB b=b:=if_neg h
theorem cellBytes_o(b:List Int)(hl:b.length≤2000000):GC Try.prog 80 [.agg [byV b]] [] (.own 1) [(1,yAr (fullB b))]:=by
 refine gi 2 Try.func80 rfl Try.ntmps80 rfl ?_
 intro L O w0
 refine sL<|lst (zX 2001 Z) Z<|laV Z<|nG<|aS<|sL<|lf 0 ty.F115_0 Z<|loL ty.kd56 Z<|lnI ty.sl56 Z<|lbB Z<|nG ?_
 refine AW.cond rfl ?_ ?_
 ·intro h1
  refine sL<|lst (St.make 1 (m:=128) rfl rfl (by decide) ty.el56 ty.ze5 rfl rfl rfl rfl rfl (Nat.le_trans (Nat.mul_le_mul_right _ ty.by5) (by decide)) (by decide)) Z<|laO Z<|nG ?_
  refine AW.obj 1 (yAr (List.replicate 128 0)) ((Eq.trans (b:=AO.arr 5 1 (List.replicate 128 [PV.v (.int .u8 0)])) rfl (congrArg (AO.arr 5 1) (zero_rows 128)))) ?_
  refine aR<|rT ?_
  have hz:b.length=0:=by have h:=h1;simpa[length_rowsOf]using h
  rw[fullB_0 hz]
  refine end_ret ?_ ⟨rfl,trivial⟩
  rfl
 ·intro h1
  refine aK<|gA<|lf 0 ty.F115_0 Z<|loL ty.kd56 Z<|lst (zC [(1,1)] [1] [] Try.func99 (copyBytes_o b hl) (trivial) Z Z) Z<|laO Z<|nG<|aR ?_
  have hz:b.length≠0:=by have h:=h1;simpa[length_rowsOf]using h
  rw[fullB_n hz]
  refine end_ret ?_ ⟨rfl,trivial⟩
  rfl
theorem sfull_o(b:List Int)(hl:b.length≤2000000):GC Try.prog 111 [byV b] [] (.own 1) [(1,yAr (fullB b))]:=by
 refine gi 2 Try.func111 rfl Try.ntmps111 rfl ?_
 intro L O w0
 refine sL<|laV Z<|nG<|aS<|sL<|lmL Z<|lnI ty.sl56 Z<|lbB Z<|nG ?_
 refine AW.cond rfl ?_ ?_
 ·intro h1
  refine sL<|lst (St.make 1 (m:=128) rfl rfl (by decide) ty.el56 ty.ze5 rfl rfl rfl rfl rfl (Nat.le_trans (Nat.mul_le_mul_right _ ty.by5) (by decide)) (by decide)) Z<|laO Z<|nG ?_
  refine AW.obj 1 (yAr (List.replicate 128 0)) ((Eq.trans (b:=AO.arr 5 1 (List.replicate 128 [PV.v (.int .u8 0)])) rfl (congrArg (AO.arr 5 1) (zero_rows 128)))) ?_
  refine aR<|rT ?_
  have hz:b.length=0:=by have h:=h1;simpa[length_rowsOf]using h
  rw[fullB_0 hz]
  refine end_ret ?_ ⟨rfl,trivial⟩
  rfl
 ·intro h1
  refine aK<|gA<|lst (zS 1 (rowsOf encU []) ty.el56 ty.ze5 rfl (by intro r hr;cases hr)) Z<|lmL Z<|lst (zP 1 ty.el56 ty.ze5 ty.by5 rfl (Src.p rfl) (by first|(simp[rowsOf,numB_length];done)|(simp[rowsOf,numB_length];omega))) Z<|laO Z<|nG<|aR ?_
  have hz:b.length≠0:=by have h:=h1;simpa[length_rowsOf]using h
  rw[fullB_n hz]
  refine end_ret ?_ ⟨rfl,trivial⟩
  rfl
theorem all_take{α:Type}{p:α→Bool}{l:List α}{j:Nat}(hj:j<l.length)(h:(l.take j).all p=true)(hp:p l[j]=true):(l.take (j+1)).all p=true:=by rw[List.take_succ_eq_append_getElem hj,List.all_append,h];simp[hp]
theorem all_not{α:Type}{p:α→Bool}{l:List α}{j:Nat}(hj:j<l.length)(hp:p l[j]=false):l.all p=false:=Bool.eq_false_iff.2 fun q=>by have:=List.all_eq_true.1 q _ (List.getElem_mem hj);rw[hp]at this;cases this
theorem dok_n1{d:Disk}(h:¬(1≤d.cells.length∧d.cells.length≤600∧d.dirty.length≤600)):diskOk d=false:=by
 unfold diskOk inB
 rw[Bool.eq_false_iff]
 intro q
 simp only[Bool.and_eq_true,decide_eq_true_eq]at q
 omega
theorem dok_n2{d:Disk}(h:d.cells.all cellOk=false):diskOk d=false:=by unfold diskOk;rw[h];simp
theorem dok_n3{d:Disk}(h:d.dirty.all (wrOk d.cells.length)=false):diskOk d=false:=by unfold diskOk;rw[h];simp
theorem dok_y{d:Disk}(h:1≤d.cells.length∧d.cells.length≤600∧d.dirty.length≤600)(h1:d.cells.all cellOk=true)(h2:d.dirty.all (wrOk d.cells.length)=true):diskOk d=true:=by
 unfold diskOk inB
 rw[h1,h2]
 simp
 omega
theorem diskOk_e(d:Disk):GC Try.prog 46 [diskV d] [] (boo (diskOk d)) []:=by
 refine gi 2 Try.func46 rfl Try.ntmps46 rfl ?_
 intro L O w0
 refine sL<|lst (zX 2001 Z) Z<|laZ Z<|nG<|aS<|sL<|lf 0 ty.F34_0 Z<|loL ty.kd31 Z<|lnI ty.sl31 Z ?_
 refine AL.slot 9 (int (d.cells.length:Int)) (congrArg (fun n:Nat=>int (n:Int)) (rowsC_len _)) ?_
 refine lst (zL Try.func47 (in_e _ _ _) Z) Z<|luB Z<|lmB Z ?_
 refine AL.bool (t:=12) rfl ?_ ?_
 ·intro h1
  refine lno Z<|lno Z<|lno Z<|lno Z<|lkT Z<|nG<|aY Z<|sL<|laZ Z<|nG<|aR<|rT ?_
  have hF:diskOk d=false:=dok_n1 (by
   simp[inB]at *
   omega)
  rw[hF]
  refine end_ret ?_ trivial
  rfl
 ·intro h1
  refine lf 1 ty.F34_1 Z<|loL ty.kd32 Z<|lnI ty.sl32 Z ?_
  refine AL.slot 15 (int (d.dirty.length:Int)) (congrArg (fun n:Nat=>int (n:Int)) (rowsW_len _)) ?_
  refine lbB Z<|lkB Z<|nG ?_
  refine AW.cond rfl ?_ ?_
  ·intro h2
   refine sL<|laZ Z<|nG<|aR<|rT ?_
   have hF:diskOk d=false:=dok_n1 (by
    simp[inB]at *
    omega)
   rw[hF]
   refine end_ret ?_ trivial
   rfl
  ·intro h2
   refine aK<|gT<|aS<|aS ?_
   have hsz:1≤d.cells.length∧d.cells.length≤600∧d.dirty.length≤600:=by
    simp[inB]at *
    omega
   refine aL<|lf 0 ty.F34_0 Z<|loL ty.kd31 Z<|lnI ty.sl31 Z ?_
   refine AL.slot 20 (int (d.cells.length:Int)) (congrArg (fun n:Nat=>int (n:Int)) (rowsC_len _)) ?_
   refine lmI Z<|nG<|aB ?_
   refine aW [1,2,19,20] [2001] (D:=Nat) (fun a=>[(21,int (a:Int))]) (fun a=>[]) (fun a=>a≤d.cells.length∧(d.cells.take a).all cellOk=true) (fun a=>d.cells.length-a) (0) (⟨Nat.zero_le _,rfl⟩) ⟨rfl,trivial⟩ trivial ?_
   intro j hI
   replace hI:j≤d.cells.length∧(d.cells.take j).all cellOk=true:=hI
   refine sL<|lbB Z<|nG<|aS ?_
   refine AW.cond rfl ?_ ?_
   ·intro h3
    refine aK<|gT<|aS<|aB<|aS ?_
    have hj:j<d.cells.length:=by have h:=h3;simp only[decide_eq_true_eq]at h;omega
    refine aL<|li j ty.el31 Z (rowsC_at hj)<|lrX (.agg [vL _ _ _]) ty.kd115 Z<|lst (zA 2004 ty.ze115 Z) Z<|lT [1,2,4,19,20,21,24] [2001,2004] ?_
    refine lst (zB 2004 ty.co115 ty.inf115 Z) Z<|nA<|lf 0 ty.F115_0 Z<|loL ty.kd56 Z<|lnI ty.sl56 Z<|lbB Z<|lmB Z ?_
    refine AL.bool (t:=29) rfl ?_ ?_
    ·intro h4
     refine lf 0 ty.F115_0 Z<|loL ty.kd56 Z<|lnI ty.sl56 Z<|lbB Z<|lkB Z<|nG ?_
     refine AW.cond rfl ?_ ?_
     ·intro h5
      refine sL<|laZ Z<|nG<|aR<|rB<|rT<|rT<|rB<|rT ?_
      have hc:cellOk d.cells[j]=false:=by
       unfold cellOk
       try unfold inB
       rw[Bool.eq_iff_iff]
       simp only[length_rowsOf,decide_eq_true_eq,decide_eq_false_iff_not,Bool.and_eq_true,Bool.and_eq_false_iff,Bool.or_eq_true,Bool.not_eq_true,Bool.not_eq_false,Bool.not_eq_true',Bool.not_eq_false',Bool.false_eq_true,inB,iff_false,iff_true,ge_iff_le,gt_iff_lt,ne_eq,bne_iff_ne]at *
       omega
      rw[dok_n2 (all_not hj hc)]
      refine end_ret ?_ trivial
      rfl
     ·intro h5
      refine aK<|gB<|gT<|aL<|lgI Z<|lmI Z<|nG ?_
      have hc:cellOk d.cells[j]=true:=by
       unfold cellOk
       try unfold inB
       rw[Bool.eq_iff_iff]
       simp only[length_rowsOf,decide_eq_true_eq,decide_eq_false_iff_not,Bool.and_eq_true,Bool.and_eq_false_iff,Bool.or_eq_true,Bool.not_eq_true,Bool.not_eq_false,Bool.not_eq_true',Bool.not_eq_false',Bool.false_eq_true,inB,iff_false,iff_true,ge_iff_le,gt_iff_lt,ne_eq,bne_iff_ne]at *
       omega
      refine⟨(j+1),⟨hj,all_take hj hI.2 hc⟩,by show d.cells.length-(j+1)<d.cells.length-j;omega,⟨(iq rfl),trivial⟩,trivial,rfl,rfl⟩
    ·intro h4
     refine lno Z<|lno Z<|lno Z<|lno Z<|lkZ Z<|nG<|aN Z<|aK<|gB<|gT<|aL<|lgI Z<|lmI Z<|nG ?_
     have hc:cellOk d.cells[j]=true:=by
      unfold cellOk
      try unfold inB
      rw[Bool.eq_iff_iff]
      simp only[length_rowsOf,decide_eq_true_eq,decide_eq_false_iff_not,Bool.and_eq_true,Bool.and_eq_false_iff,Bool.or_eq_true,Bool.not_eq_true,Bool.not_eq_false,Bool.not_eq_true',Bool.not_eq_false',Bool.false_eq_true,inB,iff_false,iff_true,ge_iff_le,gt_iff_lt,ne_eq,bne_iff_ne]at *
      omega
     refine⟨(j+1),⟨hj,all_take hj hI.2 hc⟩,by show d.cells.length-(j+1)<d.cells.length-j;omega,⟨(iq rfl),trivial⟩,trivial,rfl,rfl⟩
   ·intro h3
    refine aE<|eT<|eT<|eB<|gT<|aS<|aS ?_
    have hje:j=d.cells.length:=by have h:=h3;have h2:=hI.1;simp only[decide_eq_false_iff_not]at h;omega
    have hA:d.cells.all cellOk=true:=by have h:=hI.2;rwa [hje,List.take_length]at h
    clear hI
    refine aL<|lf 1 ty.F34_1 Z<|loL ty.kd32 Z<|lnI ty.sl32 Z ?_
    refine AL.slot 38 (int (d.dirty.length:Int)) (congrArg (fun n:Nat=>int (n:Int)) (rowsW_len _)) ?_
    refine lmI Z<|nG<|aB ?_
    refine aW [1,2,37,38] [2001] (D:=Nat) (fun a=>[(39,int (a:Int))]) (fun a=>[]) (fun a=>a≤d.dirty.length∧(d.dirty.take a).all (wrOk d.cells.length)=true) (fun a=>d.dirty.length-a) (0) (⟨Nat.zero_le _,rfl⟩) ⟨rfl,trivial⟩ trivial ?_
    intro i hI
    have hJ:i≤d.dirty.length∧(d.dirty.take i).all (wrOk d.cells.length)=true:=hI
    refine sL<|lbB Z<|nG<|aS ?_
    refine AW.cond rfl ?_ ?_
    ·intro h6
     refine aK<|gT<|aS<|aB<|aS ?_
     have hi:i<d.dirty.length:=by have h:=h6;simp only[decide_eq_true_eq]at h;omega
     refine aL<|li i ty.el32 Z (rowsW_at hi)<|lrX (.agg [vI _ _,vL _ _ _]) ty.kd123 Z<|lst (zA 2006 ty.ze123 Z) Z<|lT [1,2,6,37,38,39,42] [2001,2006] ?_
     refine lst (zB 2006 ty.co123 ty.inf123 Z) Z<|nA<|lf 0 ty.F123_0 Z<|loI ty.kd3 Z<|lf 0 ty.F34_0 Z<|loL ty.kd31 Z<|lnI ty.sl31 Z ?_
     refine AL.slot 47 (int (d.cells.length:Int)) (congrArg (fun n:Nat=>int (n:Int)) (rowsC_len _)) ?_
     refine lgI Z<|lst (zL Try.func47 (in_e _ _ _) Z) Z<|luB Z<|lmB Z ?_
     refine AL.bool (t:=51) rfl ?_ ?_
     ·intro h7
      refine lno Z<|lno Z<|lno Z<|lno Z<|lkT Z<|nG<|aY Z<|sL<|laZ Z<|nG<|aR<|rB<|rT<|rT<|rB<|rT ?_
      have hc:wrOk d.cells.length d.dirty[i]=false:=by
       unfold wrOk
       try unfold inB
       rw[Bool.eq_iff_iff]
       simp only[length_rowsOf,decide_eq_true_eq,decide_eq_false_iff_not,Bool.and_eq_true,Bool.and_eq_false_iff,Bool.or_eq_true,Bool.not_eq_true,Bool.not_eq_false,Bool.not_eq_true',Bool.not_eq_false',Bool.false_eq_true,inB,iff_false,iff_true,ge_iff_le,gt_iff_lt,ne_eq,bne_iff_ne]at *
       omega
      rw[dok_n3 (all_not hi hc)]
      refine end_ret ?_ trivial
      rfl
     ·intro h7
      refine lf 1 ty.F123_1 Z<|loL ty.kd56 Z<|lnI ty.sl56 Z<|lbB Z<|lkB Z<|nG ?_
      refine AW.cond rfl ?_ ?_
      ·intro h8
       refine sL<|laZ Z<|nG<|aR<|rB<|rT<|rT<|rB<|rT ?_
       have hc:wrOk d.cells.length d.dirty[i]=false:=by
        unfold wrOk
        try unfold inB
        rw[Bool.eq_iff_iff]
        simp only[length_rowsOf,decide_eq_true_eq,decide_eq_false_iff_not,Bool.and_eq_true,Bool.and_eq_false_iff,Bool.or_eq_true,Bool.not_eq_true,Bool.not_eq_false,Bool.not_eq_true',Bool.not_eq_false',Bool.false_eq_true,inB,iff_false,iff_true,ge_iff_le,gt_iff_lt,ne_eq,bne_iff_ne]at *
        omega
       rw[dok_n3 (all_not hi hc)]
       refine end_ret ?_ trivial
       rfl
      ·intro h8
       refine aK<|gB<|gT<|aL<|lgI Z<|lmI Z<|nG ?_
       have hc:wrOk d.cells.length d.dirty[i]=true:=by
        unfold wrOk
        try unfold inB
        rw[Bool.eq_iff_iff]
        simp only[length_rowsOf,decide_eq_true_eq,decide_eq_false_iff_not,Bool.and_eq_true,Bool.and_eq_false_iff,Bool.or_eq_true,Bool.not_eq_true,Bool.not_eq_false,Bool.not_eq_true',Bool.not_eq_false',Bool.false_eq_true,inB,iff_false,iff_true,ge_iff_le,gt_iff_lt,ne_eq,bne_iff_ne]at *
        omega
       refine⟨(i+1),⟨hi,all_take hi hJ.2 hc⟩,by show d.dirty.length-(i+1)<d.dirty.length-i;omega,⟨(iq rfl),trivial⟩,trivial,rfl,rfl⟩
    ·intro h6
     refine aE<|eT<|eT<|eB<|gA<|laT Z<|nG<|aR ?_
     have hie:i=d.dirty.length:=by have h:=h6;have h2:=hJ.1;simp only[decide_eq_false_iff_not]at h;omega
     have hB:d.dirty.all (wrOk d.cells.length)=true:=by have h:=hJ.2;rwa [hie,List.take_length]at h
     rw[dok_y hsz hA hB]
     refine end_ret ?_ trivial
     rfl
theorem sdiskOk_e(d:Disk):GC Try.prog 41 [diskV d] [] (boo (diskOk d)) []:=by
 refine gi 2 Try.func41 rfl Try.ntmps41 rfl ?_
 intro L O w0
 refine sL<|lst (zX 2001 Z) Z<|laZ Z<|nG<|aS<|sL<|lf 0 ty.F34_0 Z<|loL ty.kd31 Z<|lnI ty.sl31 Z ?_
 refine AL.slot 9 (int (d.cells.length:Int)) (congrArg (fun n:Nat=>int (n:Int)) (rowsC_len _)) ?_
 refine lbB Z<|lmB Z ?_
 refine AL.bool (t:=11) rfl ?_ ?_
 ·intro h1
  refine lno Z<|lno Z<|lno Z<|lno Z<|lkT Z<|lmT Z<|lno Z<|lno Z<|lno Z<|lno Z<|lkT Z<|nG<|aY Z<|sL<|laZ Z<|nG<|aR<|rT ?_
  have hF:diskOk d=false:=dok_n1 (by
   simp[inB]at *
   omega)
  rw[hF]
  refine end_ret ?_ trivial
  rfl
 ·intro h1
  refine lf 0 ty.F34_0 Z<|loL ty.kd31 Z<|lnI ty.sl31 Z ?_
  refine AL.slot 14 (int (d.cells.length:Int)) (congrArg (fun n:Nat=>int (n:Int)) (rowsC_len _)) ?_
  refine lbB Z<|lkB Z<|lmB Z ?_
  refine AL.bool (t:=17) rfl ?_ ?_
  ·intro h2
   refine lno Z<|lno Z<|lno Z<|lno Z<|lkT Z<|nG<|aY Z<|sL<|laZ Z<|nG<|aR<|rT ?_
   have hF:diskOk d=false:=dok_n1 (by
    simp[inB]at *
    omega)
   rw[hF]
   refine end_ret ?_ trivial
   rfl
  ·intro h2
   refine lf 1 ty.F34_1 Z<|loL ty.kd32 Z<|lnI ty.sl32 Z ?_
   refine AL.slot 20 (int (d.dirty.length:Int)) (congrArg (fun n:Nat=>int (n:Int)) (rowsW_len _)) ?_
   refine lbB Z<|lkB Z<|nG ?_
   refine AW.cond rfl ?_ ?_
   ·intro h3
    refine sL<|laZ Z<|nG<|aR<|rT ?_
    have hF:diskOk d=false:=dok_n1 (by
     simp[inB]at *
     omega)
    rw[hF]
    refine end_ret ?_ trivial
    rfl
   ·intro h3
    refine aK<|gT<|aS<|aS ?_
    have hsz:1≤d.cells.length∧d.cells.length≤600∧d.dirty.length≤600:=by
     simp[inB]at *
     omega
    refine aL<|lf 0 ty.F34_0 Z<|loL ty.kd31 Z<|lnI ty.sl31 Z ?_
    refine AL.slot 25 (int (d.cells.length:Int)) (congrArg (fun n:Nat=>int (n:Int)) (rowsC_len _)) ?_
    refine lmI Z<|nG<|aB ?_
    refine aW [1,2,24,25] [2001] (D:=Nat) (fun a=>[(26,int (a:Int))]) (fun a=>[]) (fun a=>a≤d.cells.length∧(d.cells.take a).all cellOk=true) (fun a=>d.cells.length-a) (0) (⟨Nat.zero_le _,rfl⟩) ⟨rfl,trivial⟩ trivial ?_
    intro j hI
    replace hI:j≤d.cells.length∧(d.cells.take j).all cellOk=true:=hI
    refine sL<|lbB Z<|lT [1,2,24,25,26,27] [2001] ?_
    refine nG<|aS ?_
    refine AW.cond rfl ?_ ?_
    ·intro h4
     refine aK<|gT<|aS<|aB<|aS ?_
     have hj:j<d.cells.length:=by have h:=h4;simp only[decide_eq_true_eq]at h;omega
     refine aL<|li j ty.el31 Z (rowsC_at hj)<|lrX (.agg [vL _ _ _]) ty.kd115 Z<|lst (zA 2004 ty.ze115 Z) Z<|lst (zB 2004 ty.co115 ty.inf115 Z) Z<|nA<|lf 0 ty.F115_0 Z<|loL ty.kd56 Z<|lnI ty.sl56 Z<|lbB Z<|lmB Z ?_
     refine AL.bool (t:=34) rfl ?_ ?_
     ·intro h5
      refine lf 0 ty.F115_0 Z<|loL ty.kd56 Z<|lnI ty.sl56 Z<|lbB Z<|lkB Z<|nG ?_
      refine AW.cond rfl ?_ ?_
      ·intro h6
       refine sL<|laZ Z<|nG<|aR<|rB<|rT<|rT<|rB<|rT ?_
       have hc:cellOk d.cells[j]=false:=by
        unfold cellOk
        try unfold inB
        rw[Bool.eq_iff_iff]
        simp only[length_rowsOf,decide_eq_true_eq,decide_eq_false_iff_not,Bool.and_eq_true,Bool.and_eq_false_iff,Bool.or_eq_true,Bool.not_eq_true,Bool.not_eq_false,Bool.not_eq_true',Bool.not_eq_false',Bool.false_eq_true,inB,iff_false,iff_true,ge_iff_le,gt_iff_lt,ne_eq,bne_iff_ne]at *
        omega
       rw[dok_n2 (all_not hj hc)]
       refine end_ret ?_ trivial
       rfl
      ·intro h6
       refine aK<|gB<|gT<|aL<|lgI Z<|lmI Z<|nG ?_
       have hc:cellOk d.cells[j]=true:=by
        unfold cellOk
        try unfold inB
        rw[Bool.eq_iff_iff]
        simp only[length_rowsOf,decide_eq_true_eq,decide_eq_false_iff_not,Bool.and_eq_true,Bool.and_eq_false_iff,Bool.or_eq_true,Bool.not_eq_true,Bool.not_eq_false,Bool.not_eq_true',Bool.not_eq_false',Bool.false_eq_true,inB,iff_false,iff_true,ge_iff_le,gt_iff_lt,ne_eq,bne_iff_ne]at *
        omega
       refine⟨(j+1),⟨hj,all_take hj hI.2 hc⟩,by show d.cells.length-(j+1)<d.cells.length-j;omega,⟨(iq rfl),trivial⟩,trivial,rfl,rfl⟩
     ·intro h5
      refine lno Z<|lno Z<|lno Z<|lno Z<|lkZ Z<|nG<|aN Z<|aK<|gB<|gT<|aL<|lgI Z<|lmI Z<|nG ?_
      have hc:cellOk d.cells[j]=true:=by
       unfold cellOk
       try unfold inB
       rw[Bool.eq_iff_iff]
       simp only[length_rowsOf,decide_eq_true_eq,decide_eq_false_iff_not,Bool.and_eq_true,Bool.and_eq_false_iff,Bool.or_eq_true,Bool.not_eq_true,Bool.not_eq_false,Bool.not_eq_true',Bool.not_eq_false',Bool.false_eq_true,inB,iff_false,iff_true,ge_iff_le,gt_iff_lt,ne_eq,bne_iff_ne]at *
       omega
      refine⟨(j+1),⟨hj,all_take hj hI.2 hc⟩,by show d.cells.length-(j+1)<d.cells.length-j;omega,⟨(iq rfl),trivial⟩,trivial,rfl,rfl⟩
    ·intro h4
     refine aE<|eT<|eT<|eB<|gT<|aS<|aS ?_
     have hje:j=d.cells.length:=by have h:=h4;have h2:=hI.1;simp only[decide_eq_false_iff_not]at h;omega
     have hA:d.cells.all cellOk=true:=by have h:=hI.2;rwa [hje,List.take_length]at h
     clear hI
     refine aL<|lf 1 ty.F34_1 Z<|loL ty.kd32 Z<|lnI ty.sl32 Z ?_
     refine AL.slot 43 (int (d.dirty.length:Int)) (congrArg (fun n:Nat=>int (n:Int)) (rowsW_len _)) ?_
     refine lmI Z<|nG<|aB ?_
     refine aW [1,2,42,43] [2001] (D:=Nat) (fun a=>[(44,int (a:Int))]) (fun a=>[]) (fun a=>a≤d.dirty.length∧(d.dirty.take a).all (wrOk d.cells.length)=true) (fun a=>d.dirty.length-a) (0) (⟨Nat.zero_le _,rfl⟩) ⟨rfl,trivial⟩ trivial ?_
     intro i hI
     have hJ:i≤d.dirty.length∧(d.dirty.take i).all (wrOk d.cells.length)=true:=hI
     refine sL<|lbB Z<|nG<|aS ?_
     refine AW.cond rfl ?_ ?_
     ·intro h7
      refine aK<|gT<|aS<|aB<|aS ?_
      have hi:i<d.dirty.length:=by have h:=h7;simp only[decide_eq_true_eq]at h;omega
      refine aL<|li i ty.el32 Z (rowsW_at hi)<|lrX (.agg [vI _ _,vL _ _ _]) ty.kd123 Z<|lst (zA 2006 ty.ze123 Z) Z<|lT [1,2,6,42,43,44,47] [2001,2006] ?_
      refine lst (zB 2006 ty.co123 ty.inf123 Z) Z<|nA<|lf 0 ty.F123_0 Z<|loI ty.kd3 Z<|lbB Z<|lmB Z ?_
      refine AL.bool (t:=51) rfl ?_ ?_
      ·intro h8
       refine lno Z<|lno Z<|lno Z<|lno Z<|lno Z<|lno Z<|lkT Z<|lmT Z<|lno Z<|lno Z<|lno Z<|lno Z<|lkT Z<|nG<|aY Z<|sL<|laZ Z<|nG<|aR<|rB<|rT<|rT<|rB<|rT ?_
       have hc:wrOk d.cells.length d.dirty[i]=false:=by
        unfold wrOk
        try unfold inB
        rw[Bool.eq_iff_iff]
        simp only[length_rowsOf,decide_eq_true_eq,decide_eq_false_iff_not,Bool.and_eq_true,Bool.and_eq_false_iff,Bool.or_eq_true,Bool.not_eq_true,Bool.not_eq_false,Bool.not_eq_true',Bool.not_eq_false',Bool.false_eq_true,inB,iff_false,iff_true,ge_iff_le,gt_iff_lt,ne_eq,bne_iff_ne]at *
        omega
       rw[dok_n3 (all_not hi hc)]
       refine end_ret ?_ trivial
       rfl
      ·intro h8
       refine lf 0 ty.F123_0 Z<|loI ty.kd3 Z<|lf 0 ty.F34_0 Z<|loL ty.kd31 Z<|lnI ty.sl31 Z ?_
       refine AL.slot 56 (int (d.cells.length:Int)) (congrArg (fun n:Nat=>int (n:Int)) (rowsC_len _)) ?_
       refine lbB Z<|lkB Z<|lmB Z ?_
       refine AL.bool (t:=59) rfl ?_ ?_
       ·intro h9
        refine lno Z<|lno Z<|lno Z<|lno Z<|lkT Z<|nG<|aY Z<|sL<|laZ Z<|nG<|aR<|rB<|rT<|rT<|rB<|rT ?_
        have hc:wrOk d.cells.length d.dirty[i]=false:=by
         unfold wrOk
         try unfold inB
         rw[Bool.eq_iff_iff]
         simp only[length_rowsOf,decide_eq_true_eq,decide_eq_false_iff_not,Bool.and_eq_true,Bool.and_eq_false_iff,Bool.or_eq_true,Bool.not_eq_true,Bool.not_eq_false,Bool.not_eq_true',Bool.not_eq_false',Bool.false_eq_true,inB,iff_false,iff_true,ge_iff_le,gt_iff_lt,ne_eq,bne_iff_ne]at *
         omega
        rw[dok_n3 (all_not hi hc)]
        refine end_ret ?_ trivial
        rfl
       ·intro h9
        refine lf 1 ty.F123_1 Z<|loL ty.kd56 Z<|lnI ty.sl56 Z<|lbB Z<|lkB Z<|nG ?_
        refine AW.cond rfl ?_ ?_
        ·intro h10
         refine sL<|laZ Z<|nG<|aR<|rB<|rT<|rT<|rB<|rT ?_
         have hc:wrOk d.cells.length d.dirty[i]=false:=by
          unfold wrOk
          try unfold inB
          rw[Bool.eq_iff_iff]
          simp only[length_rowsOf,decide_eq_true_eq,decide_eq_false_iff_not,Bool.and_eq_true,Bool.and_eq_false_iff,Bool.or_eq_true,Bool.not_eq_true,Bool.not_eq_false,Bool.not_eq_true',Bool.not_eq_false',Bool.false_eq_true,inB,iff_false,iff_true,ge_iff_le,gt_iff_lt,ne_eq,bne_iff_ne]at *
          omega
         rw[dok_n3 (all_not hi hc)]
         refine end_ret ?_ trivial
         rfl
        ·intro h10
         refine aK<|gB<|gT<|aL<|lgI Z<|lmI Z<|nG ?_
         have hc:wrOk d.cells.length d.dirty[i]=true:=by
          unfold wrOk
          try unfold inB
          rw[Bool.eq_iff_iff]
          simp only[length_rowsOf,decide_eq_true_eq,decide_eq_false_iff_not,Bool.and_eq_true,Bool.and_eq_false_iff,Bool.or_eq_true,Bool.not_eq_true,Bool.not_eq_false,Bool.not_eq_true',Bool.not_eq_false',Bool.false_eq_true,inB,iff_false,iff_true,ge_iff_le,gt_iff_lt,ne_eq,bne_iff_ne]at *
          omega
         refine⟨(i+1),⟨hi,all_take hi hJ.2 hc⟩,by show d.dirty.length-(i+1)<d.dirty.length-i;omega,⟨(iq rfl),trivial⟩,trivial,rfl,rfl⟩
     ·intro h7
      refine aE<|eT<|eT<|eB<|gA<|laT Z<|nG<|aR ?_
      have hie:i=d.dirty.length:=by have h:=h7;have h2:=hJ.1;simp only[decide_eq_false_iff_not]at h;omega
      have hB:d.dirty.all (wrOk d.cells.length)=true:=by have h:=hJ.2;rwa [hie,List.take_length]at h
      rw[dok_y hsz hA hB]
      refine end_ret ?_ trivial
      rfl
theorem dok_iff{d:Disk}(h:diskOk d=true):(1≤d.cells.length∧d.cells.length≤600∧d.dirty.length≤600)∧d.cells.all cellOk=true∧d.dirty.all (wrOk d.cells.length)=true:=by
 unfold diskOk inB at h
 simp only[Bool.and_eq_true,decide_eq_true_eq]at h
 exact⟨⟨by omega,by omega,h.1.1.2⟩,h.1.2,h.2⟩
theorem dok_w{d:Disk}(h:diskOk d=true){j:Nat}(hj:j<d.dirty.length):d.dirty[j].bytes.length=128:=by
 have:=List.all_eq_true.1 (dok_iff h).2.2 _ (List.getElem_mem hj)
 unfold wrOk at this
 simp only[Bool.and_eq_true,decide_eq_true_eq]at this
 exact this.2
theorem dok_c{d:Disk}(h:diskOk d=true){j:Nat}(hj:j<d.cells.length):d.cells[j].bytes.length≤128:=by
 have:=List.all_eq_true.1 (dok_iff h).2.1 _ (List.getElem_mem hj)
 unfold cellOk at this
 simp only[Bool.or_eq_true,decide_eq_true_eq]at this
 omega
theorem lw_drop{i:Int}{b:List Int}:∀(ws:List Write) (j:Nat),lastW (ws.drop j) i=some b→lastW ws i=some b
 |_,0,h=>h
 |[],_+1,h=>h
 |w::r,j+1,h=>by
  have:=lw_drop r j h
  show (match lastW r i with|some b=>some b|none=>_)=some b
  rw[this]
theorem lw_hit{ws:List Write}{i:Int}{j:Nat}(hj:j<ws.length)(h:lastW (ws.drop (j+1)) i=none)(he:ws[j].at_=i):lastW ws i=some ws[j].bytes:=lw_drop ws j (by
 rw[List.drop_eq_getElem_cons hj]
 show (match lastW (ws.drop (j+1)) i with|some b=>some b|none=>if ws[j].at_=i then some ws[j].bytes else none)=_
 rw[h]
 exact if_pos he)
theorem lw_miss{ws:List Write}{i:Int}{j:Nat}(hj:j<ws.length)(h:lastW (ws.drop (j+1)) i=none)(he:ws[j].at_≠i):lastW (ws.drop j) i=none:=by
 rw[List.drop_eq_getElem_cons hj]
 show (match lastW (ws.drop (j+1)) i with|some b=>some b|none=>if ws[j].at_=i then some ws[j].bytes else none)=_
 rw[h]
 exact if_neg he
theorem dAt_w{d:Disk}{i:Nat}{b:List Int}(h:lastW d.dirty i=some b):diskAt d i=b:=by unfold diskAt;rw[h]
theorem dAt_c{d:Disk}{i:Nat}(hi:i<d.cells.length)(h:lastW d.dirty i=none):diskAt d i=fullB d.cells[i].bytes:=by unfold diskAt;rw[h,List.getElem?_eq_getElem hi];rfl
theorem diskRead_o(d:Disk)(i:Nat)(hd:diskOk d=true)(hi:i<d.cells.length):GC Try.prog 119 [diskV d,int (i:Int)] [] (.own 1) [(1,yAr (diskAt d i))]:=by
 refine gi 4 Try.func119 rfl Try.ntmps119 rfl ?_
 intro L O w0
 refine sL<|lst (zX 2002 Z) Z<|laV Z<|nG<|aS<|aS ?_
 have hsz:=(dok_iff hd).1
 refine aL<|lf 1 ty.F34_1 Z<|loL ty.kd32 Z<|lnI ty.sl32 Z ?_
 refine AL.slot 8 (int (d.dirty.length:Int)) (congrArg (fun n:Nat=>int (n:Int)) (rowsW_len _)) ?_
 refine lgI Z<|laI Z<|nG<|aB ?_
 refine aW [1,2,4] [2002] (D:=Nat) (fun a=>[(5,int ((d.dirty.length:Int)-1-(a:Int)))]) (fun a=>[]) (fun a=>a≤d.dirty.length∧lastW (d.dirty.drop (d.dirty.length-a)) i=none) (fun a=>d.dirty.length-a) (0) (⟨Nat.zero_le _,by rw[Nat.sub_zero,List.drop_length];rfl⟩) ⟨(iq rfl),trivial⟩ trivial ?_
 intro k hI
 replace hI:k≤d.dirty.length∧lastW (d.dirty.drop (d.dirty.length-k)) i=none:=hI
 refine aS<|sL<|lmI Z<|lbB Z<|nG ?_
 refine AW.cond rfl ?_ ?_
 ·intro h1
  refine aK<|gT<|aS<|aB<|aS ?_
  have hk:k<d.dirty.length:=by have h:=h1;simp only[ge_iff_le,decide_eq_true_eq]at h;omega
  have hj:(d.dirty.length-1-k)<d.dirty.length:=by omega
  have hJ:d.dirty.length-(k+1)=(d.dirty.length-1-k):=by omega
  have hK:lastW (d.dirty.drop ((d.dirty.length-1-k)+1)) i=none:=by have h:=hI.2;rwa [show d.dirty.length-k=(d.dirty.length-1-k)+1 by omega]at h
  refine aL<|lf 1 ty.F34_1 Z<|loL ty.kd32 Z<|lmI Z<|lsN 16 ((d.dirty.length-1-k:Nat):Int) rfl (by omega)<|li ((d.dirty.length-1-k)) ty.el32 rfl (rowsW_at hj)<|lq (rd (x:=.rp _) (zfr ty.F123_0 rfl) rfl)<|lrI ty.kd3 Z<|lmI Z<|lbB Z<|nG ?_
  refine AW.cond rfl ?_ ?_
  ·intro h2
   refine sL<|lf 1 ty.F34_1 Z<|loL ty.kd32 Z<|lmI Z<|lsN 24 ((d.dirty.length-1-k:Nat):Int) rfl (by omega)<|li ((d.dirty.length-1-k)) ty.el32 rfl (rowsW_at hj)<|lq (rd (x:=.rp _) (zfr ty.F123_1 rfl) rfl)<|lrL ty.kd56 Z<|lst (zC [(1,1)] [1] [] Try.func99 (copyBytes_o d.dirty[(d.dirty.length-1-k)].bytes (by rw[dok_w hd hj];decide)) (trivial) rfl rfl) Z<|lT [1,2,4,5,28] [1,2002] ?_
   refine laO Z<|nG<|aR<|rB<|rT<|rT<|rB<|rT ?_
   rw[dAt_w (lw_hit hj hK (by have h:=h2;simpa using h))]
   refine end_ret ?_ ⟨rfl,trivial⟩
   rfl
  ·intro h2
   refine aK<|gB<|gT<|aL<|lmI Z<|lgI Z<|laI Z<|nG ?_
   refine⟨(k+1),⟨by omega,by rw[hJ];exact lw_miss hj hK (by have h:=h2;simpa using h)⟩,by show d.dirty.length-(k+1)<d.dirty.length-k;omega,⟨(iq rfl),trivial⟩,trivial,rfl,rfl⟩
 ·intro h1
  refine aE<|eT<|eT<|eB<|gT<|aS ?_
  have hke:k=d.dirty.length:=by have h:=h1;have h2:=hI.1;simp only[ge_iff_le,decide_eq_false_iff_not]at h;omega
  have hN:lastW d.dirty i=none:=by have h:=hI.2;rwa [hke,Nat.sub_self,List.drop_zero]at h
  refine aL<|lf 0 ty.F34_0 Z<|loL ty.kd31 Z<|lmI Z<|li i ty.el31 rfl (rowsC_at hi)<|lrX (.agg [vL _ _ _]) ty.kd115 Z<|lst (zC [(1,1)] [1] [] Try.func80 (cellBytes_o d.cells[i].bytes (Nat.le_trans (dok_c hd hi) (by decide))) (trivial) rfl rfl) Z<|laO Z<|nG<|aR ?_
  rw[dAt_c hi hN]
  refine end_ret ?_ ⟨rfl,trivial⟩
  rfl
theorem diskRead_e(d:Disk)(i:Nat)(hd:diskOk d=true)(hi:i<d.cells.length):GC Try.prog 119 [diskV d,int (i:Int)] [] (byV (diskAt d i)) []:=(diskRead_o d i hd hi).frz1
theorem sdiskRead_o(d:Disk)(i:Nat)(hd:diskOk d=true)(hi:i<d.cells.length):GC Try.prog 76 [diskV d,int (i:Int)] [] (.tup [.own 1,boo true]) [(1,yAr (diskAt d i))]:=by
 refine GC.intro (rs:=[.tmp 4,.tmp 5]) Try.func76 rfl Try.ntmps76 (Nat.le_of_ble_eq_true rfl) ⟨rfl,rfl,trivial⟩ ?_
 intro L O w0
 refine sL<|lst (zX 2002 rfl) Z<|laV Z<|laZ Z<|nG<|aS<|sL<|loX (.agg [vL _ _ _,vL _ _ _]) ty.kd34 Z<|lst (zC [] [] [] Try.func41 (sdiskOk_e d) (trivial) rfl rfl) Z<|lsB 8 true rfl (hd)<|luZ Z<|lmZ Z<|lmI Z<|lbB Z<|lsB 12 false rfl (by simp)<|lkZ Z<|lmZ Z<|lmI Z<|lf 0 ty.F34_0 Z<|loL ty.kd31 Z<|lnI ty.sl31 rfl ?_
 refine AL.slot 18 (int (d.cells.length:Int)) (congrArg (fun n:Nat=>int (n:Int)) (rowsC_len _)) ?_
 refine lbB Z<|lsB 19 false rfl (by simp;omega)<|lkZ Z<|nG<|aN Z<|aK<|gT<|aS<|aS ?_
 have hsz:=(dok_iff hd).1
 refine aL<|lf 1 ty.F34_1 Z<|loL ty.kd32 Z<|lnI ty.sl32 Z ?_
 refine AL.slot 23 (int (d.dirty.length:Int)) (congrArg (fun n:Nat=>int (n:Int)) (rowsW_len _)) ?_
 refine lgI Z<|laI Z<|nG<|aB ?_
 refine aW [1,2,4,5] [2002] (D:=Nat) (fun a=>[(6,int ((d.dirty.length:Int)-1-(a:Int)))]) (fun a=>[]) (fun a=>a≤d.dirty.length∧lastW (d.dirty.drop (d.dirty.length-a)) i=none) (fun a=>d.dirty.length-a) (0) (⟨Nat.zero_le _,by rw[Nat.sub_zero,List.drop_length];rfl⟩) ⟨(iq rfl),trivial⟩ trivial ?_
 intro k hI
 replace hI:k≤d.dirty.length∧lastW (d.dirty.drop (d.dirty.length-k)) i=none:=hI
 refine aS<|sL<|lmI Z<|lbB Z<|nG ?_
 refine AW.cond rfl ?_ ?_
 ·intro h1
  refine aK<|gT<|aS<|aB<|aS ?_
  have hk:k<d.dirty.length:=by have h:=h1;simp only[ge_iff_le,decide_eq_true_eq]at h;omega
  have hj:(d.dirty.length-1-k)<d.dirty.length:=by omega
  have hJ:d.dirty.length-(k+1)=(d.dirty.length-1-k):=by omega
  have hK:lastW (d.dirty.drop ((d.dirty.length-1-k)+1)) i=none:=by have h:=hI.2;rwa [show d.dirty.length-k=(d.dirty.length-1-k)+1 by omega]at h
  refine aL<|lf 1 ty.F34_1 Z<|loL ty.kd32 Z<|lmI Z<|lsN 31 ((d.dirty.length-1-k:Nat):Int) rfl (by omega)<|li ((d.dirty.length-1-k)) ty.el32 rfl (rowsW_at hj)<|lq (rd (x:=.rp _) (zfr ty.F123_0 rfl) rfl)<|lrI ty.kd3 Z<|lT [1,2,4,5,6,34] [2002] ?_
  refine lmI Z<|lbB Z<|nG ?_
  refine AW.cond rfl ?_ ?_
  ·intro h2
   refine sL<|lst (zS 1 (rowsOf encU []) ty.el56 ty.ze5 rfl (by intro r hr;cases hr)) Z<|lf 1 ty.F34_1 Z<|loL ty.kd32 Z<|lmI Z<|lsN 40 ((d.dirty.length-1-k:Nat):Int) rfl (by omega)<|li ((d.dirty.length-1-k)) ty.el32 rfl (rowsW_at hj)<|lq (rd (x:=.rp _) (zfr ty.F123_1 rfl) rfl)<|lrL ty.kd56 Z<|lst (zP 1 ty.el56 ty.ze5 ty.by5 rfl (Src.p rfl) (by have:=dok_w hd hj;simp[rowsOf];omega)) Z<|laO Z<|laT Z<|nG<|aR<|rB<|rT<|rT<|rB<|rT ?_
   rw[dAt_w (lw_hit hj hK (by have h:=h2;simpa using h))]
   refine end_ret ?_ ⟨rfl,trivial⟩
   rfl
  ·intro h2
   refine aK<|gB<|gT<|aL<|lmI Z<|lgI Z<|laI Z<|nG ?_
   refine⟨(k+1),⟨by omega,by rw[hJ];exact lw_miss hj hK (by have h:=h2;simpa using h)⟩,by show d.dirty.length-(k+1)<d.dirty.length-k;omega,⟨(iq rfl),trivial⟩,trivial,rfl,rfl⟩
 ·intro h1
  refine aE<|eT<|eT<|eB<|gT<|aS ?_
  have hke:k=d.dirty.length:=by have h:=h1;have h2:=hI.1;simp only[ge_iff_le,decide_eq_false_iff_not]at h;omega
  have hN:lastW d.dirty i=none:=by have h:=hI.2;rwa [hke,Nat.sub_self,List.drop_zero]at h
  refine aL<|lf 0 ty.F34_0 Z<|loL ty.kd31 Z<|lmI Z<|li i ty.el31 rfl (rowsC_at hi)<|lq (rd (x:=.rp _) (zfr ty.F115_0 rfl) rfl)<|lrL ty.kd56 Z<|lst (zC [(1,1)] [1] [] Try.func111 (sfull_o d.cells[i].bytes (Nat.le_trans (dok_c hd hi) (by decide))) (trivial) rfl rfl) Z<|lT [4,5,51] [1,2002] ?_
  refine laO Z<|laT Z<|nG<|aR ?_
  rw[dAt_c hi hN]
  refine end_ret ?_ ⟨rfl,trivial⟩
  rfl
theorem sdiskRead_e(d:Disk)(i:Nat)(hd:diskOk d=true)(hi:i<d.cells.length):GC Try.prog 76 [diskV d,int (i:Int)] [] (.tup [byV (diskAt d i),boo true]) []:=(sdiskRead_o d i hd hi).frz2

def rowsS(l:List Sector):List (List PV):=l.map fun s=>[.v (.int .i64 s.seq),.v (.int .i64 s.epoch),lstB s.body]
abbrev sAr(l:List Sector):AO:=.arr 92 3 (rowsS l)
theorem rowsS_len(l:List Sector):(rowsS l).length=l.length:=List.length_map _
theorem rowsS_app(l:List Sector)(s:Sector):rowsS l++[[.v (.int .i64 s.seq),.v (.int .i64 s.epoch),lstB s.body]]=rowsS (l++[s]):=by unfold rowsS;rw[List.map_append];rfl
def lastE(l:List Sector):Int:=match l.getLast? with|some s=>s.epoch|none=>0
theorem lastE_app(l:List Sector)(s:Sector):lastE (l++[s])=s.epoch:=by unfold lastE;rw[List.getLast?_concat]
theorem goes_iff{acc:List Sector}{b:List Int}:goesOn acc b=true↔secF b=true∧(secC b).seq=(acc.length:Int)∧lastE acc≤(secC b).epoch:=by
 unfold goesOn lastE
 cases h:acc.getLast? with
 |some s=>simp[and_assoc]
 |none=>
  simp only[Bool.and_true,Bool.and_eq_true,beq_iff_eq]
  refine⟨fun⟨h1,h2⟩=>⟨h1,h2,?_⟩,fun⟨h1,h2,_⟩=>⟨h1,h2⟩⟩
  have:=(secOk_iff.1 (secF_iff.1 h1).2.2.1).2.1
  omega
theorem views_len(d:Disk):(views d).length=d.cells.length:=by unfold views;simp
theorem views_at{d:Disk}{i:Nat}(h:i<d.cells.length):(views d).drop i=diskAt d i::(views d).drop (i+1):=by
 rw[List.drop_eq_getElem_cons (by rw[views_len];exact h)]
 congr 1
 unfold views
 simp
theorem run_y{d:Disk}{acc:List Sector}(h:acc.length<d.cells.length)(hg:goesOn acc (diskAt d acc.length)=true):logRun ((views d).drop acc.length) acc=logRun ((views d).drop (acc++[secC (diskAt d acc.length)]).length) (acc++[secC (diskAt d acc.length)]):=by
 rw[views_at h,logRun,if_pos hg];simp
theorem run_n{d:Disk}{acc:List Sector}(h:acc.length<d.cells.length)(hg:goesOn acc (diskAt d acc.length)=false):logRun ((views d).drop acc.length) acc=acc:=by
 rw[views_at h,logRun,if_neg (by simp[hg])]
theorem run_e{d:Disk}{acc:List Sector}(h:acc.length=d.cells.length):logRun ((views d).drop acc.length) acc=acc:=by
 rw[List.drop_of_length_le (by rw[views_len];omega)];rfl
theorem logR_y{d:Disk}(h:diskOk d=true):logR d=logRun (views d) []:=if_pos h
theorem logR_n{d:Disk}(h:diskOk d=false):logR d=[]:=if_neg (by simp[h])
def DkB(d:Disk):Prop:=(∀c∈d.cells,BytesOk c.bytes)∧∀w∈d.dirty,BytesOk w.bytes
theorem lw_mem{i:Int}{b:List Int}:∀ {ws:List Write},lastW ws i=some b→∃w∈ws,w.bytes=b
 |[],h=>by cases h
 |w::r,h=>by
  rw[lastW]at h
  cases q:lastW r i with
  |some b'=>
   rw[q]at h
   injection h with h
   subst h
   obtain⟨w',h1,h2⟩:=lw_mem q
   exact⟨w',List.mem_cons_of_mem _ h1,h2⟩
  |none=>
   rw[q]at h
   dsimp only at h
   split at h
   ·injection h with h;exact⟨w,List.mem_cons_self,h⟩
   ·cases h
theorem diskAt_ok{d:Disk}(hb:DkB d){i:Nat}(hi:i<d.cells.length):BytesOk (diskAt d i):=by
 cases q:lastW d.dirty i with
 |some b=>rw[dAt_w q];obtain⟨w,h1,h2⟩:=lw_mem q;rw[←h2];exact hb.2 w h1
 |none=>
  rw[dAt_c hi q]
  unfold fullB
  split
  ·exact .zero _
  ·exact hb.1 _ (List.getElem_mem hi)
theorem diskAt_len{d:Disk}(h:diskOk d=true){i:Nat}(hi:i<d.cells.length):(diskAt d i).length=128:=by
 cases q:lastW d.dirty i with
 |some b=>
  rw[dAt_w q];obtain⟨w,h1,h2⟩:=lw_mem q
  obtain⟨j,hj,rfl⟩:=List.getElem_of_mem h1
  rw[←h2];exact dok_w h hj
 |none=>
  rw[dAt_c hi q]
  have:=List.all_eq_true.1 (dok_iff h).2.1 _ (List.getElem_mem hi)
  unfold cellOk at this
  simp only[Bool.or_eq_true,decide_eq_true_eq]at this
  rcases this with z|z
  ·rw[fullB_0 z];simp
  ·rw[fullB_n (by omega)];exact z
theorem slogRead_o(d:Disk)(hb:DkB d):GC Try.prog 32 [diskV d] [] (.tup [.own 1,int ((logR d).length:Int)]) [(1,sAr (logR d))]:=by
 refine GC.intro (rs:=[.tmp 2,.tmp 3]) Try.func32 rfl Try.ntmps32 (Nat.le_of_ble_eq_true rfl) ⟨rfl,rfl,trivial⟩ ?_
 intro L O w0
 refine sL<|lst (zX 2001 rfl) Z<|laV Z<|laI Z<|nA<|lst (zS 1 (rowsS []) ty.el58 ty.ze92 rfl (by intro r hr;cases hr)) Z<|laO Z<|nG<|aS<|sL<|loX (.agg [vL _ _ _,vL _ _ _]) ty.kd34 Z<|lst (zC [] [] [] Try.func41 (sdiskOk_e d) (trivial) rfl rfl) Z<|luB Z<|nG ?_
 refine AW.cond rfl ?_ ?_
 ·intro h1
  refine sL<|lmO Z<|laO Z<|laI Z<|nG<|aR<|rT ?_
  have hd:diskOk d=false:=by simpa using h1
  rw[logR_n hd]
  refine end_ret ?_ ⟨rfl,trivial⟩
  rfl
 ·intro h1
  refine aK<|gT<|aS ?_
  have hd:diskOk d=true:=by simpa using h1
  have hsz:=(dok_iff hd).1
  refine aL<|laI Z<|nG<|aS<|sL<|laI Z<|nG<|aB ?_
  refine aW [1,2,3] [2001] (D:=List Sector) (fun l=>[(6,int (l.length:Int)),(5,int (lastE l)),(4,.own 1)]) (fun l=>[(1,sAr l)]) (fun l=>l.length≤d.cells.length∧logRun ((views d).drop l.length) l=logR d) (fun l=>d.cells.length-l.length) ([]) (⟨Nat.zero_le _,(logR_y hd).symm⟩) ⟨rfl,rfl,rfl,trivial⟩ ⟨rfl,trivial⟩ ?_
  intro acc hI
  replace hI:acc.length≤d.cells.length∧logRun ((views d).drop acc.length) acc=logR d:=hI
  refine aS<|sL<|lmI Z<|lf 0 ty.F34_0 Z<|loL ty.kd31 Z<|lnI ty.sl31 Z ?_
  refine AL.slot 19 (int (d.cells.length:Int)) (congrArg (fun n:Nat=>int (n:Int)) (rowsC_len _)) ?_
  refine lbB Z<|nG ?_
  refine AW.cond rfl ?_ ?_
  ·intro h2
   refine aK<|gT<|aS<|aB<|aS ?_
   have hj:acc.length<d.cells.length:=by have h:=h2;simp only[decide_eq_true_eq]at h;omega
   refine aL<|loX (.agg [vL _ _ _,vL _ _ _]) ty.kd34 Z<|lmI Z<|lst (zC [] [] [] Try.func76 (sdiskRead_e d acc.length hd hj) (trivial) Z Z) Z<|lT [1,2,3,4,5,6,26] [1,2001] ?_
   refine lmX (.tup [vL _ _ _,vB true]) Z<|lxL Z<|lxX (vB true) Z<|laL Z<|laT Z<|nA<|lmL Z<|lst (zC [] [] [] Try.func77 (ssectorRead_e (diskAt d acc.length) (diskAt_ok hb hj) (by rw[diskAt_len hd hj];decide)) (trivial) rfl rfl) Z<|lmX (.tup [.agg [vI _ _,vI _ _,vL _ _ _],vB _]) Z<|lxX (.agg [vI _ _,vI _ _,vL _ _ _]) Z<|lxB Z<|lst (zA 2009 ty.ze92 rfl) Z<|lst (zB 2009 ty.co92 ty.inf92 rfl) Z<|laB Z<|nG<|aS<|sL<|lmB Z<|luB Z<|lmB rfl ?_
   refine AL.bool (t:=36) rfl ?_ ?_
   ·intro h3
    refine lno Z<|lno Z<|lno Z<|lno Z<|lkT Z<|lmT Z<|lno Z<|lno Z<|lno Z<|lno Z<|lkT Z<|nG<|aY Z<|aE<|eT<|eO<|eT<|eT<|eB<|gT<|aS ?_
    have hE:acc=logR d:=by first|(rw[←hI.2];exact(run_e (by have h:=h3;simp only[decide_eq_false_iff_not]at h;omega)).symm)|(rw[←hI.2];refine(run_n hj (Bool.eq_false_iff.2 fun q=>?_)).symm;obtain⟨q1,q2,q3⟩:=goes_iff.1 q;first|(have h:=h1;rw[secR_yes q1]at h;simp only[decide_eq_true_eq]at h;omega)|(have h:=h1;rw[q1]at h;exact absurd h (by decide))|(have h:=h1;rw[secR_yes q1]at h;simp[q2]at h;done)|(have h:=h2;rw[secR_yes q1]at h;simp only[decide_eq_true_eq]at h;omega)|(have h:=h2;rw[q1]at h;exact absurd h (by decide))|(have h:=h2;rw[secR_yes q1]at h;simp[q2]at h;done)|(have h:=h3;rw[secR_yes q1]at h;simp only[decide_eq_true_eq]at h;omega)|(have h:=h3;rw[q1]at h;exact absurd h (by decide))|(have h:=h3;rw[secR_yes q1]at h;simp[q2]at h;done))
    refine aL<|lmO Z<|lmO Z<|lnI ty.sl58 Z ?_
    refine AL.slot 56 (int ((logR d).length:Int)) (Eq.trans (b:=int ((rowsS acc).length:Int)) rfl (congrArg (fun n:Nat=>int (n:Int)) (by rw[rowsS_len,hE]))) ?_
    refine laO Z<|laI Z<|nG<|aR ?_
    rw[hE]
    refine end_ret ?_ ⟨rfl,trivial⟩
    rfl
   ·intro h3
    refine lf 0 ty.F92_0 Z<|loI ty.kd3 Z<|lmI Z<|lbB Z<|lkB Z<|lmB Z<|lT [1,2,3,4,5,6,9,42] [1,2001,2009] ?_
    refine AL.bool (t:=42) rfl ?_ ?_
    ·intro h4
     refine lno Z<|lno Z<|lno Z<|lno Z<|lkT Z<|nG<|aY Z<|aE<|eT<|eO<|eT<|eT<|eB<|gT<|aS ?_
     have hE:acc=logR d:=by first|(rw[←hI.2];exact(run_e (by have h:=h4;simp only[decide_eq_false_iff_not]at h;omega)).symm)|(rw[←hI.2];refine(run_n hj (Bool.eq_false_iff.2 fun q=>?_)).symm;obtain⟨q1,q2,q3⟩:=goes_iff.1 q;first|(have h:=h1;rw[secR_yes q1]at h;simp only[decide_eq_true_eq]at h;omega)|(have h:=h1;rw[q1]at h;exact absurd h (by decide))|(have h:=h1;rw[secR_yes q1]at h;simp[q2]at h;done)|(have h:=h2;rw[secR_yes q1]at h;simp only[decide_eq_true_eq]at h;omega)|(have h:=h2;rw[q1]at h;exact absurd h (by decide))|(have h:=h2;rw[secR_yes q1]at h;simp[q2]at h;done)|(have h:=h3;rw[secR_yes q1]at h;simp only[decide_eq_true_eq]at h;omega)|(have h:=h3;rw[q1]at h;exact absurd h (by decide))|(have h:=h3;rw[secR_yes q1]at h;simp[q2]at h;done)|(have h:=h4;rw[secR_yes q1]at h;simp only[decide_eq_true_eq]at h;omega)|(have h:=h4;rw[q1]at h;exact absurd h (by decide))|(have h:=h4;rw[secR_yes q1]at h;simp[q2]at h;done))
     refine aL<|lmO Z<|lmO Z<|lnI ty.sl58 Z ?_
     refine AL.slot 56 (int ((logR d).length:Int)) (Eq.trans (b:=int ((rowsS acc).length:Int)) rfl (congrArg (fun n:Nat=>int (n:Int)) (by rw[rowsS_len,hE]))) ?_
     refine laO Z<|laI Z<|nG<|aR ?_
     rw[hE]
     refine end_ret ?_ ⟨rfl,trivial⟩
     rfl
    ·intro h4
     refine lf 1 ty.F92_1 Z<|loI ty.kd3 Z<|lmI Z<|lbB Z<|lkB Z<|nG ?_
     refine AW.cond rfl ?_ ?_
     ·intro h5
      refine aE<|eT<|eO<|eT<|eT<|eB<|gT<|aS ?_
      have hE:acc=logR d:=by first|(rw[←hI.2];exact(run_e (by have h:=h5;simp only[decide_eq_false_iff_not]at h;omega)).symm)|(rw[←hI.2];refine(run_n hj (Bool.eq_false_iff.2 fun q=>?_)).symm;obtain⟨q1,q2,q3⟩:=goes_iff.1 q;first|(have h:=h1;rw[secR_yes q1]at h;simp only[decide_eq_true_eq]at h;omega)|(have h:=h1;rw[q1]at h;exact absurd h (by decide))|(have h:=h1;rw[secR_yes q1]at h;simp[q2]at h;done)|(have h:=h2;rw[secR_yes q1]at h;simp only[decide_eq_true_eq]at h;omega)|(have h:=h2;rw[q1]at h;exact absurd h (by decide))|(have h:=h2;rw[secR_yes q1]at h;simp[q2]at h;done)|(have h:=h3;rw[secR_yes q1]at h;simp only[decide_eq_true_eq]at h;omega)|(have h:=h3;rw[q1]at h;exact absurd h (by decide))|(have h:=h3;rw[secR_yes q1]at h;simp[q2]at h;done)|(have h:=h4;rw[secR_yes q1]at h;simp only[decide_eq_true_eq]at h;omega)|(have h:=h4;rw[q1]at h;exact absurd h (by decide))|(have h:=h4;rw[secR_yes q1]at h;simp[q2]at h;done)|(have h:=h5;rw[secR_yes q1]at h;simp only[decide_eq_true_eq]at h;omega)|(have h:=h5;rw[q1]at h;exact absurd h (by decide))|(have h:=h5;rw[secR_yes q1]at h;simp[q2]at h;done))
      refine aL<|lmO Z<|lmO Z<|lnI ty.sl58 Z ?_
      refine AL.slot 56 (int ((logR d).length:Int)) (Eq.trans (b:=int ((rowsS acc).length:Int)) rfl (congrArg (fun n:Nat=>int (n:Int)) (by rw[rowsS_len,hE]))) ?_
      refine laO Z<|laI Z<|nG<|aR ?_
      rw[hE]
      refine end_ret ?_ ⟨rfl,trivial⟩
      rfl
     ·intro h5
      refine aK<|gT<|aS ?_
      have hF:secF (diskAt d acc.length)=true:=by first|(simpa using h1)|(simpa using h2)|(simpa using h3)|(simpa using h4)|(simpa using h5)
      have hg:goesOn acc (diskAt d acc.length)=true:=goes_iff.2 ⟨hF,by first|(have h:=h1;rw[secR_yes hF]at h;simpa using h)|(have h:=h2;rw[secR_yes hF]at h;simpa using h)|(have h:=h3;rw[secR_yes hF]at h;simpa using h)|(have h:=h4;rw[secR_yes hF]at h;simpa using h)|(have h:=h5;rw[secR_yes hF]at h;simpa using h),by first|(have h:=h1;rw[secR_yes hF]at h;simp only[decide_eq_false_iff_not]at h;omega)|(have h:=h2;rw[secR_yes hF]at h;simp only[decide_eq_false_iff_not]at h;omega)|(have h:=h3;rw[secR_yes hF]at h;simp only[decide_eq_false_iff_not]at h;omega)|(have h:=h4;rw[secR_yes hF]at h;simp only[decide_eq_false_iff_not]at h;omega)|(have h:=h5;rw[secR_yes hF]at h;simp only[decide_eq_false_iff_not]at h;omega)⟩
      refine aL<|lf 1 ty.F92_1 Z<|loI ty.kd3 Z<|laI Z<|nG<|aL<|lmO Z<|loX (.agg [vI _ _,vI _ _,vL _ _ _]) ty.kd92 Z<|lst (zS 2052 [[.v (.int .i64 (secR (diskAt d acc.length)).seq),.v (.int .i64 (secR (diskAt d acc.length)).epoch),lstB (secR (diskAt d acc.length)).body]] ty.el58 ty.ze92 rfl (by intro r hr;simp at hr;subst hr;rfl)) Z<|lT [1,2,3,4,5,6,50,52] [1,2001,2009,2052] ?_
      refine lst (zP 1 ty.el58 ty.ze92 ty.by92 rfl (Src.own rfl rfl) (by simp[rowsS_len];omega)) Z<|laO Z<|lN<|gB<|gT<|aL<|lmI Z<|lgI Z<|laI Z<|nG ?_
      refine⟨(acc++[secC (diskAt d acc.length)]),⟨by rw[List.length_append];exact hj,by rw[←run_y hj hg];exact hI.2⟩,by show d.cells.length-(acc++[secC (diskAt d acc.length)]).length<d.cells.length-acc.length;rw[List.length_append,List.length_singleton];omega,⟨(Eq.trans (b:=int _) rfl (congrArg int (by rw[List.length_append,List.length_singleton];omega))),(Eq.trans (b:=int (secR (diskAt d acc.length)).epoch) rfl (congrArg int (by rw[lastE_app,secR_yes hF]))),rfl,trivial⟩,⟨(Eq.trans (b:=AO.arr 92 3 (rowsS acc++[[.v (.int .i64 (secR (diskAt d acc.length)).seq),.v (.int .i64 (secR (diskAt d acc.length)).epoch),lstB (secR (diskAt d acc.length)).body]])) rfl (by rw[secR_yes hF,rowsS_app])),trivial⟩,rfl,rfl⟩
  ·intro h2
   refine aE<|eT<|eT<|eB<|gT<|aS ?_
   have hE:acc=logR d:=by first|(rw[←hI.2];exact(run_e (by have h:=h2;simp only[decide_eq_false_iff_not]at h;omega)).symm)|(rw[←hI.2];refine(run_n hj (Bool.eq_false_iff.2 fun q=>?_)).symm;obtain⟨q1,q2,q3⟩:=goes_iff.1 q;first|(have h:=h1;rw[secR_yes q1]at h;simp only[decide_eq_true_eq]at h;omega)|(have h:=h1;rw[q1]at h;exact absurd h (by decide))|(have h:=h1;rw[secR_yes q1]at h;simp[q2]at h;done)|(have h:=h2;rw[secR_yes q1]at h;simp only[decide_eq_true_eq]at h;omega)|(have h:=h2;rw[q1]at h;exact absurd h (by decide))|(have h:=h2;rw[secR_yes q1]at h;simp[q2]at h;done))
   refine aL<|lmO Z<|lmO Z<|lnI ty.sl58 Z ?_
   refine AL.slot 56 (int ((logR d).length:Int)) (Eq.trans (b:=int ((rowsS acc).length:Int)) rfl (congrArg (fun n:Nat=>int (n:Int)) (by rw[rowsS_len,hE]))) ?_
   refine laO Z<|laI Z<|nG<|aR ?_
   rw[hE]
   refine end_ret ?_ ⟨rfl,trivial⟩
   rfl
theorem slogRead_e(d:Disk)(hb:DkB d):GC Try.prog 32 [diskV d] [] (.tup [.p (.lst 92 3 (rowsS (logR d))),int ((logR d).length:Int)]) []:=(slogRead_o d hb).frz2
theorem top_nn(l:List (List Int)):∀t:Int,0≤t→0≤l.foldl (fun t b=>max t (secR b).epoch) t:=by
 induction l with
 |nil=>exact fun t h=>h
 |cons b l ih=>exact fun t h=>ih _ (by show 0≤max t (secR b).epoch;omega)
theorem top_step{d:Disk}{k:Nat}(hj:k<d.cells.length):topOf ((views d).take (k+1))=max (topOf ((views d).take k)) (secR (diskAt d k)).epoch:=by
 rw[List.take_succ_eq_append_getElem (by rw[views_len];exact hj)]
 unfold topOf
 rw[List.foldl_append]
 have:(views d)[k]'(by rw[views_len];exact hj)=diskAt d k:=by unfold views;simp
 rw[this]
 rfl
theorem top_y{d:Disk}{k:Nat}(hj:k<d.cells.length)(h:topOf ((views d).take k)<(secR (diskAt d k)).epoch):(secR (diskAt d k)).epoch=topOf ((views d).take (k+1)):=by rw[top_step hj];omega
theorem top_n1{d:Disk}{k:Nat}(hj:k<d.cells.length)(h:¬topOf ((views d).take k)<(secR (diskAt d k)).epoch):topOf ((views d).take k)=topOf ((views d).take (k+1)):=by rw[top_step hj];omega
theorem top_n2{d:Disk}{k:Nat}(hj:k<d.cells.length)(h:secF (diskAt d k)=false):topOf ((views d).take k)=topOf ((views d).take (k+1)):=by
 have h0:=top_nn ((views d).take k) 0 (Int.le_refl _)
 rw[top_step hj,secR_no h]
 show _=max _ (0:Int)
 unfold topOf
 omega
theorem logTop_y{d:Disk}(h:diskOk d=true):logTop d=topOf (views d):=if_pos h
theorem logTop_n{d:Disk}(h:diskOk d=false):logTop d=0:=if_neg (by simp[h])
theorem slogTop_e(d:Disk)(hb:DkB d):GC Try.prog 33 [diskV d] [] (int (logTop d)) []:=by
 refine gi 2 Try.func33 rfl Try.ntmps33 rfl ?_
 intro L O w0
 refine sL<|lst (zX 2001 Z) Z<|laI Z<|nA<|laI Z<|nG<|aS<|sL<|loX (.agg [vL _ _ _,vL _ _ _]) ty.kd34 Z<|lst (zC [] [] [] Try.func41 (sdiskOk_e d) (trivial) Z Z) Z<|luB Z<|nG ?_
 refine AW.cond rfl ?_ ?_
 ·intro h1
  refine sL<|lmI Z<|laI Z<|nG<|aR<|rT ?_
  have hd:diskOk d=false:=by simpa using h1
  rw[logTop_n hd]
  refine end_ret ?_ trivial
  rfl
 ·intro h1
  refine aK<|gT<|aS<|aS ?_
  have hd:diskOk d=true:=by simpa using h1
  have hsz:=(dok_iff hd).1
  refine aL<|laI Z<|nG<|aB ?_
  refine aW [1,2] [2001] (D:=Nat) (fun a=>[(4,int (a:Int)),(3,int (topOf ((views d).take a)))]) (fun a=>[]) (fun a=>a≤d.cells.length) (fun a=>d.cells.length-a) (0) (Nat.zero_le _) ⟨rfl,rfl,trivial⟩ trivial ?_
  intro k hI
  replace hI:k≤d.cells.length:=hI
  refine aS<|sL<|lmI Z<|lf 0 ty.F34_0 Z<|loL ty.kd31 Z<|lnI ty.sl31 Z ?_
  refine AL.slot 16 (int (d.cells.length:Int)) (congrArg (fun n:Nat=>int (n:Int)) (rowsC_len _)) ?_
  refine lbB Z<|nG ?_
  refine AW.cond rfl ?_ ?_
  ·intro h2
   refine aK<|gT<|aS<|aB<|aS ?_
   have hj:k<d.cells.length:=by have h:=h2;simp only[decide_eq_true_eq]at h;omega
   refine aL<|loX (.agg [vL _ _ _,vL _ _ _]) ty.kd34 Z<|lmI Z<|lst (zC [] [] [] Try.func76 (sdiskRead_e d k hd hj) (trivial) Z Z) Z<|lT [1,2,3,4,23] [2001] ?_
   refine lmX (.tup [vL _ _ _,vB true]) Z<|lxL Z<|lxX (vB true) Z<|laL Z<|laT Z<|nA<|lmL Z<|lst (zC [] [] [] Try.func77 (ssectorRead_e (diskAt d k) (diskAt_ok hb hj) (by rw[diskAt_len hd hj];decide)) (trivial) rfl rfl) Z<|lmX (.tup [.agg [vI _ _,vI _ _,vL _ _ _],vB _]) Z<|lxX (.agg [vI _ _,vI _ _,vL _ _ _]) Z<|lxB Z<|lst (zA 2007 ty.ze92 rfl) Z<|lst (zB 2007 ty.co92 ty.inf92 rfl) Z<|laB Z<|nA<|lmB Z<|lmB rfl ?_
   refine AL.bool (t:=32) rfl ?_ ?_
   ·intro h3
    refine lf 1 ty.F92_1 Z<|loI ty.kd3 Z<|lmI Z<|lbB Z<|lkB Z<|nG ?_
    refine AW.cond rfl ?_ ?_
    ·intro h4
     refine aL<|lf 1 ty.F92_1 Z<|loI ty.kd3 Z<|laI Z<|lN<|gB<|gT<|aL<|lmI Z<|lgI Z<|laI Z<|nG ?_
     refine⟨(k+1),hj,by show d.cells.length-(k+1)<d.cells.length-k;omega,⟨(iq rfl),(Eq.trans (b:=int ((secR (diskAt d k)).epoch)) rfl (congrArg int (top_y hj (by simpa using h4)))),trivial⟩,trivial,rfl,rfl⟩
    ·intro h4
     refine aK<|gB<|gT<|aL<|lmI Z<|lgI Z<|laI Z<|nG ?_
     refine⟨(k+1),hj,by show d.cells.length-(k+1)<d.cells.length-k;omega,⟨(iq rfl),(Eq.trans (b:=int (topOf ((views d).take k))) rfl (congrArg int (top_n1 hj (by simpa using h4)))),trivial⟩,trivial,rfl,rfl⟩
   ·intro h3
    refine lno Z<|lno Z<|lno Z<|lno Z<|lkZ Z<|lT [1,2,3,4,7,37] [2001,2007] ?_
    refine nG<|aN Z<|aK<|gB<|gT<|aL<|lmI Z<|lgI Z<|laI Z<|nG ?_
    refine⟨(k+1),hj,by show d.cells.length-(k+1)<d.cells.length-k;omega,⟨(iq rfl),(Eq.trans (b:=int (topOf ((views d).take k))) rfl (congrArg int (top_n2 hj (by simpa using h3)))),trivial⟩,trivial,rfl,rfl⟩
  ·intro h2
   refine aE<|eT<|eT<|eB<|gA<|lmI Z<|laI Z<|nG<|aR ?_
   have hk:k=d.cells.length:=by have h:=h2;simp only[decide_eq_false_iff_not]at h;omega
   have hT:topOf (views d)=topOf ((views d).take k):=by rw[List.take_of_length_le (by rw[views_len];omega)]
   rw[logTop_y hd,hT]
   refine end_ret ?_ trivial
   rfl
theorem run_mem{s:Sector}:∀ {bs:List (List Int)} {acc:List Sector},s∈logRun bs acc→s∈acc∨∃b∈bs,secF b=true∧s=secC b
 |[],acc,h=>.inl h
 |b::r,acc,h=>by
  rw[logRun]at h
  split at h
  ·rename_i hg
   rcases run_mem h with q|⟨b',q1,q2⟩
   ·rcases List.mem_append.1 q with q|q
    ·exact .inl q
    ·exact .inr ⟨b,List.mem_cons_self,(goes_iff.1 hg).1,List.mem_singleton.1 q⟩
   ·exact .inr ⟨b',List.mem_cons_of_mem _ q1,q2⟩
  ·exact .inl h
theorem logR_ok{d:Disk}(hb:DkB d){s:Sector}(h:s∈logR d):BytesOk s.body∧s.body.length≤100:=by
 cases hd:diskOk d
 ·rw[logR_n hd]at h;cases h
 ·rw[logR_y hd]at h
  rcases run_mem h with q|⟨b,q1,q2,rfl⟩
  ·cases q
  ·unfold views at q1
   obtain⟨i,hi,rfl⟩:=List.mem_map.1 q1
   exact⟨secC_body (diskAt_ok hb (List.mem_range.1 hi)),(secOk_iff.1 (secF_iff.1 q2).2.2.1).2.2⟩
theorem run_len:∀ {bs:List (List Int)} {acc:List Sector},(logRun bs acc).length≤acc.length+bs.length
 |[],acc=>by show acc.length≤_;omega
 |b::r,acc=>by
  rw[logRun]
  split
  ·have:=run_len (bs:=r) (acc:=acc++[secC b])
   simp at this ⊢
   omega
  ·omega
theorem logR_len(d:Disk):(logR d).length≤600:=by
 cases hd:diskOk d
 ·rw[logR_n hd];decide
 ·rw[logR_y hd]
  have h1:=run_len (bs:=views d) (acc:=[])
  rw[views_len]at h1
  have h2:=(dok_iff hd).1.2.1
  simp at h1
  omega
theorem rowsS_at{l:List Sector}{i:Nat}(h:i<l.length):(rowsS l)[i]? = some [.v (.int .i64 l[i].seq),.v (.int .i64 l[i].epoch),lstB l[i].body]:=row_map h
theorem evs_y{l:List Sector}{k:Nat}(hk:k<l.length)(h:evF l[k].body=true):evsOf (l.take k)++[evR l[k].body]=evsOf (l.take (k+1)):=by
 rw[List.take_succ_eq_append_getElem hk,evR_y h];unfold evsOf;rw[List.filterMap_append];simp[h]
theorem evs_n{l:List Sector}{k:Nat}(hk:k<l.length)(h:evF l[k].body=false):evsOf (l.take k)=evsOf (l.take (k+1)):=by
 rw[List.take_succ_eq_append_getElem hk];unfold evsOf;rw[List.filterMap_append];simp[h]
theorem evs_len(l:List Sector):(evsOf l).length≤l.length:=List.length_filterMap_le _ _
abbrev eAr(l:List Event):AO:=.arr 40 7 (rowsOf encEvent l)
theorem slogEvents_o(d:Disk)(hb:DkB d):GC Try.prog 18 [diskV d] [] (.own 1) [(1,eAr (logE d))]:=by
 refine gi 2 Try.func18 rfl Try.ntmps18 rfl ?_
 intro L O w0
 refine sL<|lst (zX 2001 rfl) Z<|laV Z<|nA<|lst (zS 1 (rowsOf encEvent []) ty.el46 ty.ze40 rfl (by intro r hr;cases hr)) Z<|laO Z<|nA<|loX (.agg [vL _ _ _,vL _ _ _]) ty.kd34 Z<|lst (zC [] [] [] Try.func32 (slogRead_e d hb) (trivial) rfl rfl) Z<|lmX (.tup [vL _ _ _,vI _ _]) Z<|lxL Z<|lxI Z<|laL Z<|laI Z<|nG<|aS<|sL<|lmL Z<|lnI ty.sl58 rfl ?_
 refine AL.slot 17 (int ((logR d).length:Int)) (congrArg (fun n:Nat=>int (n:Int)) (rowsS_len _)) ?_
 refine lmI Z<|nG<|aB ?_
 refine aW [2,16,17] [2001] (D:=Nat) (fun a=>[(18,int (a:Int)),(3,.own 1)]) (fun a=>[(1,eAr (evsOf ((logR d).take a)))]) (fun a=>a≤(logR d).length) (fun a=>(logR d).length-a) (0) (Nat.zero_le _) ⟨rfl,rfl,trivial⟩ ⟨rfl,trivial⟩ ?_
 intro k hI
 replace hI:k≤(logR d).length:=hI
 refine sL<|lbB Z<|nG<|aS ?_
 refine AW.cond rfl ?_ ?_
 ·intro h1
  refine aK<|gT<|aS<|aB<|aS ?_
  have hk:k<(logR d).length:=by have h:=h1;simp only[decide_eq_true_eq]at h;omega
  have hS:=logR_ok hb (List.getElem_mem hk)
  have hL:=logR_len d
  have hEl:=evs_len ((logR d).take k)
  have hTl:((logR d).take k).length≤600:=by rw[List.length_take];omega
  refine aL<|li k ty.el58 Z (rowsS_at hk)<|lrX (.agg [vI _ _,vI _ _,vL _ _ _]) ty.kd92 Z<|lst (zA 2007 ty.ze92 Z) Z<|lT [2,3,7,16,17,18,21] [1,2001,2007] ?_
  refine lst (zB 2007 ty.co92 ty.inf92 rfl) Z<|nA<|lf 2 ty.F92_2 Z<|loL ty.kd56 Z<|lst (zC [] [] [] Try.func55 (sbodyEvent_e (logR d)[k].body hS.1 (by have:=hS.2;omega)) (trivial) rfl rfl) Z<|lmX (.tup [.agg [vI _ _,vI _ _,vI _ _,vI _ _,vI _ _,vI _ _,vB _],vB _]) Z<|lxX (.agg [vI _ _,vI _ _,vI _ _,vI _ _,vI _ _,vI _ _,vB _]) Z<|lxB Z<|lst (zA 2008 ty.ze40 rfl) Z<|lst (zB 2008 ty.co40 ty.inf40 rfl) Z<|laB Z<|nA<|lmB Z<|nG ?_
  refine AW.cond rfl ?_ ?_
  ·intro h2
   refine aL<|lmO Z<|loX (.agg [vI _ _,vI _ _,vI _ _,vI _ _,vI _ _,vI _ _,vB _]) ty.kd40 Z<|lst (zS 2031 (rowsOf encEvent [evR (logR d)[k].body]) ty.el46 ty.ze40 Z) Z<|lT [2,3,16,17,18,29,31] [1,2001,2007,2008,2031] ?_
   refine lst (zP 1 ty.el46 ty.ze40 ty.by40 rfl (Src.own rfl rfl) (by simp[rowsOf];omega)) Z<|laO Z<|lN<|gB<|gT<|aL<|lgI Z<|lmI Z<|nG ?_
   refine⟨(k+1),hk,by show (logR d).length-(k+1)<(logR d).length-k;omega,⟨(iq rfl),rfl,trivial⟩,⟨(Eq.trans (b:=AO.arr 40 7 (rowsOf encEvent (evsOf ((logR d).take k))++rowsOf encEvent [evR (logR d)[k].body])) rfl (congrArg (AO.arr 40 7) (Eq.trans (oapp _ _ _).symm (congrArg (rowsOf encEvent) (evs_y hk h2))))),trivial⟩,rfl,rfl⟩
  ·intro h2
   refine aK<|gB<|gT<|aL<|lgI Z<|lmI Z<|nG ?_
   refine⟨(k+1),hk,by show (logR d).length-(k+1)<(logR d).length-k;omega,⟨(iq rfl),rfl,trivial⟩,⟨(congrArg eAr (evs_n hk h2)),trivial⟩,rfl,rfl⟩
 ·intro h1
  refine aE<|eT<|eT<|eB<|gA<|lmO Z<|laO Z<|nG<|aR ?_
  have hk:k=(logR d).length:=by have h:=h1;simp only[decide_eq_false_iff_not]at h;omega
  refine end_ret ?_ ⟨(congrArg (fun l=>eAr (evsOf l)) (List.take_of_length_le (by omega))),trivial⟩
  rfl
end Go.Proofs.Yteblcdnhnckkaaa

