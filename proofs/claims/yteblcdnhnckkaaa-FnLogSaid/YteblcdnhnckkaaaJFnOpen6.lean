/- Texts of the proof of FnFnOpen, joined: LogN, EO1, EO2, EO3, E31, EO4. -/
import Derived.Test.YteblcdnhnckkaaaJFnOpen5
import Derived.Test.YteblcdnhnckkaaaJFnOpen4
namespace Go.Proofs.Yteblcdnhnckkaaa
open Go.RowKit
set_option linter.unusedSimpArgs false
set_option linter.unusedVariables false
abbrev byV(l:List Int):AV:=bytesV 5 l
abbrev lstB(b:List Int):PV:=.lst 5 1 (rowsOf encU b)
def rowsC(cs:List Cell):List (List PV):=cs.map fun c=>[lstB c.bytes]
def rowsW(ws:List Write):List (List PV):=ws.map fun w=>[.v (.int .i64 w.at_),lstB w.bytes]
abbrev diskV(d:Disk):AV:=.agg [.p (.lst 115 1 (rowsC d.cells)),.p (.lst 123 2 (rowsW d.dirty))]
abbrev logV(l:Log):AV:=.agg [.p (.lst 115 1 (rowsC l.disk.cells)),.p (.lst 123 2 (rowsW l.disk.dirty)),int l.next,int l.epoch]
def rowsCV(vs:List Value):List (List PV):=vs.map fun v=>[.v v]
def rowsWV(vs:List Value)(ws:List Write):List (List PV):=List.zipWith (fun v (w:Write)=>[.v (.int .i64 w.at_),.v v]) vs ws
def famB(vs:List Value)(bs:List (List Int)):List AO:=List.zipWith (fun v b=>.arr ⟨5,some v⟩ 1 (rowsOf encU b)) vs bs
abbrev byC(cs:List Cell):List (List Int):=cs.map Cell.bytes
abbrev byW(ws:List Write):List (List Int):=ws.map Write.bytes
theorem rowsC_len(cs:List Cell):(rowsC cs).length=cs.length:=List.length_map _
theorem rowsW_len(ws:List Write):(rowsW ws).length=ws.length:=List.length_map _
theorem rowsC_at{cs:List Cell}{i:Nat}(h:i<cs.length):(rowsC cs)[i]? = some [lstB cs[i].bytes]:=row_map h
theorem rowsW_at{ws:List Write}{i:Nat}(h:i<ws.length):(rowsW ws)[i]? = some [.v (.int .i64 ws[i].at_),lstB ws[i].bytes]:=row_map h
theorem rowsCV_len(vs:List Value):(rowsCV vs).length=vs.length:=List.length_map _
theorem rowsWV_len{vs:List Value}{ws:List Write}(h:vs.length=ws.length):(rowsWV vs ws).length=ws.length:=by unfold rowsWV;rw[List.length_zipWith];omega
theorem famB_len{vs:List Value}{bs:List (List Int)}(h:vs.length=bs.length):(famB vs bs).length=bs.length:=by unfold famB;rw[List.length_zipWith];omega
theorem rowsCV_app{vs:List Value}{u:Value}:rowsCV (vs++[u])=rowsCV vs++[[.v u]]:=List.map_append
theorem rowsWV_app{vs:List Value}{ws:List Write}{u:Value}{w:Write}(h:vs.length=ws.length):rowsWV (vs++[u]) (ws++[w])=rowsWV vs ws++[[.v (.int .i64 w.at_),.v u]]:=by unfold rowsWV;rw[List.zipWith_append h];rfl
theorem famB_app{vs:List Value}{bs:List (List Int)}{u:Value}{b:List Int}(h:vs.length=bs.length):famB (vs++[u]) (bs++[b])=famB vs bs++[.arr ⟨5,some u⟩ 1 (rowsOf encU b)]:=by unfold famB;rw[List.zipWith_append h];rfl
theorem famB_row:∀ {vs:List Value} {bs:List (List Int)},rowF (famB vs bs)
 |[],_=>by unfold famB;simp;exact rowF.nil
 |_::_,[]=>by unfold famB;simp;exact rowF.nil
 |v::vs,p::bs=>fun o ho=>by
  unfold famB at ho
  rw[List.zipWith_cons_cons]at ho
  rcases List.mem_cons.1 ho with rfl|ho
  ·rfl
  ·exact famB_row (vs:=vs) (bs:=bs) o ho
theorem rowsCV_at{vs:List Value}{i:Nat}(hi:i<vs.length):(rowsCV vs)[i]? = some [.v vs[i]]:=row_map hi
theorem rowsWV_at{vs:List Value}{ws:List Write}{i:Nat}(h:vs.length=ws.length)(hi:i<ws.length):(rowsWV vs ws)[i]? = some [.v (.int .i64 ws[i].at_),.v (vs[i]'(by omega))]:=by
 unfold rowsWV
 rw[List.getElem?_zipWith,List.getElem?_eq_getElem hi,List.getElem?_eq_getElem (by omega)]
theorem famB_at{vs:List Value}{bs:List (List Int)}{i:Nat}(h:vs.length=bs.length)(hi:i<bs.length):(famB vs bs)[i]? = some (.arr ⟨5,some (vs[i]'(by omega))⟩ 1 (rowsOf encU bs[i])):=by
 unfold famB
 rw[List.getElem?_zipWith,List.getElem?_eq_getElem hi,List.getElem?_eq_getElem (by omega)]
theorem deepCV{H:Nat→AO}{F:List AO}(hT:Tl H F){vs:List Value}{cs:List Cell}(h:vs.length=cs.length){s:Nat}(hF:∀i,i<cs.length→F[s+i]? = (famB vs (byC cs))[i]?):All2 (All2 (dpC H)) (rowsCV vs) (rowsC cs):=by
 refine All2.of (by rw[rowsCV_len,rowsC_len];exact h) fun i a b ha hb=>?_
 have hi:i<cs.length:=by have:=(List.getElem?_eq_some_iff.1 hb).1;rwa [rowsC_len]at this
 rw[rowsCV_at (by omega)]at ha
 rw[rowsC_at hi]at hb
 injection ha with ha
 injection hb with hb
 subst ha hb
 refine .cons (.inr ⟨_,1000000+(s+i),_,_,_,rfl,?_,rfl⟩) .nil
 rw[hT.1,hF i hi,famB_at (by simpa using h) (by simpa using hi)]
 simp
theorem deepWV{H:Nat→AO}{F:List AO}(hT:Tl H F){vs:List Value}{ws:List Write}(h:vs.length=ws.length){s:Nat}(hF:∀i,i<ws.length→F[s+i]? = (famB vs (byW ws))[i]?):All2 (All2 (dpC H)) (rowsWV vs ws) (rowsW ws):=by
 refine All2.of (by rw[rowsWV_len h,rowsW_len]) fun i a b ha hb=>?_
 have hi:i<ws.length:=by have:=(List.getElem?_eq_some_iff.1 hb).1;rwa [rowsW_len]at this
 rw[rowsWV_at h hi]at ha
 rw[rowsW_at hi]at hb
 injection ha with ha
 injection hb with hb
 subst ha hb
 refine .cons (.inl rfl) (.cons (.inr ⟨_,1000000+(s+i),_,_,_,rfl,?_,rfl⟩) .nil)
 rw[hT.1,hF i hi,famB_at (by simpa using h) (by simpa using hi)]
 simp
abbrev oDisk:AV:=.agg [.own 1,.own 2]
abbrev obD(vs us:List Value)(d:Disk):List (Nat×AO):=[(1,.arr 115 1 (rowsCV vs)),(2,.arr 123 2 (rowsWV us d.dirty))]
def famD(vs us:List Value)(d:Disk):List AO:=famB vs (byC d.cells)++famB us (byW d.dirty)
theorem famD_row{vs us:List Value}{d:Disk}:rowF (famD vs us d):=famB_row.app famB_row
def diskRel(d:Disk):AV→List (Nat×AO)→List AO→Prop:=fun y l1 F1=>∃vs us:List Value,vs.length=d.cells.length∧us.length=d.dirty.length∧y=oDisk∧l1=obD vs us d∧F1=famD vs us d

set_option maxHeartbeats 16000000
set_option maxRecDepth 100000
theorem oapp{α:Type}(enc:α→List Value)(xs ys:List α):rowsOf enc (xs++ys)=rowsOf enc xs++rowsOf enc ys:=List.map_append
abbrev yAr(l:List Int):AO:=.arr 5 1 (rowsOf encU l)
abbrev yv(n:Int):AV:=.p (.v (.int .u8 n))
theorem yapp(l m:List Int):AO.arr 5 1 (rowsOf encU l++rowsOf encU m)=yAr (l++m):=congrArg (AO.arr 5 1) (oapp encU l m).symm
theorem wrap_u8(n:Int):IntKind.u8.wrap n=n%256:=by simp[IntKind.wrap,IntKind.signed,IntKind.bits]
theorem shr_byte{n:Int}{k j:Nat}(h:j<k):IntKind.u8.wrap (n/2 ^ (8*((k:Int)-1-(j:Int))).toNat)=n/256 ^ (k-1-j)%256:=by
 rw[wrap_u8]
 have e:(8*((k:Int)-1-(j:Int))).toNat=8*(k-1-j):=by omega
 rw[e,Int.pow_mul];rfl
theorem put_row{l:List Int}{n:Int}{k j:Nat}(h:j<k):yAr (l++(numB k n).take j++[n/256 ^ (k-1-j)%256])=yAr (l++(numB k n).take (j+1)):=by rw[numB_take h,List.append_assoc]
theorem numB_all(k:Nat)(n:Int):(numB k n).take k=numB k n:=List.take_of_length_le (by rw[numB_length];exact Nat.le_refl _)
theorem putNum_e(l:List Int)(n:Int)(k:Nat)(h0:0≤n)(hk:k≤7)(hl:l.length≤200):GC Try.prog 97 [.own 1,int n,int (k:Int)] [(1,yAr l)] (.own 1) [(1,yAr (l++numB k n))]:=by
 refine gi 6 Try.func97 rfl Try.ntmps97 rfl ?_
 intro L O w0
 refine sL<|laV Z<|nG<|aS<|sL<|lmI Z<|lgI Z<|laI Z<|nG<|aB ?_
 refine aW [1,6] [] (D:=Nat) (fun d=>[(7,int ((k:Int)-1-(d:Int))),(0,.own 1)]) (fun d=>[(1,yAr (l++(numB k n).take d))]) (fun d=>d≤k) (fun d=>k-d) (0) (Nat.zero_le _) ⟨(iq rfl),rfl,trivial⟩ ⟨(by rw[List.take_zero,List.append_nil];rfl),trivial⟩ ?_
 intro j hI
 replace hI:j≤k:=hI
 refine aS<|sL<|lmI Z<|lbB Z<|nG ?_
 refine AW.cond rfl ?_ ?_
 ·intro h1
  refine aK<|gT<|aS<|aB ?_
  have hj:j<k:=by have h:=h1;simp only[decide_eq_true_eq]at h;omega
  have htl:((numB k n).take j).length≤7:=by rw[List.length_take,numB_length];omega
  refine aL<|lmO Z<|lmI Z<|lmI Z<|lgI Z<|lq (rd (x:=vI _ _) (rd_val rfl rfl rfl (run_shr rfl (by omega) (by omega) rfl) rfl) rfl)<|lq (rd (x:=vI _ _) (rd_conv rfl ty.ik3 ty.ik5 rfl) rfl) ?_
  refine AL.slot 19 (yv (n/256 ^ (k-1-j)%256)) (Eq.trans (b:=yv _) rfl (congrArg yv (shr_byte hj))) ?_
  refine lst (zS 2020 (rowsOf encU [n/256 ^ (k-1-j)%256]) ty.el56 ty.ze5 rfl) Z<|lst (zP 1 ty.el56 ty.ze5 ty.by5 rfl (Src.own rfl rfl) (by first|(simp[rowsOf,numB_length];done)|(simp[rowsOf,numB_length];omega))) Z<|lT [1,6,7,21] [1,2020] ?_
  refine laO Z<|lN<|gB<|gT<|aL<|lmI Z<|lgI Z<|laI Z<|nG ?_
  refine⟨(j+1),hj,by show k-(j+1)<k-j;omega,⟨(iq rfl),rfl,trivial⟩,⟨(Eq.trans (yapp _ _) (put_row hj)),trivial⟩,rfl,rfl⟩
 ·intro h1
  refine aE<|eT<|eT<|eB<|gA<|lmO Z<|laO Z<|nG<|aR ?_
  have hj:j=k:=by have h:=h1;simp only[decide_eq_false_iff_not]at h;omega
  subst hj
  refine end_ret ?_ ⟨(congrArg (fun r=>yAr (l++r)) (numB_all _ n)),trivial⟩
  rfl
theorem copyBytes_o(l:List Int)(hl:l.length≤2000000):GC Try.prog 99 [byV l] [] (.own 1) [(1,yAr l)]:=by
 refine gi 2 Try.func99 rfl Try.ntmps99 rfl ?_
 intro L O w0
 refine sL<|laV Z<|nA<|lmL Z<|lst (St.app0 1 rfl rfl (by decide) ty.el56 ty.ze5 rfl (by decide) rfl (Src.p rfl) (by first|(simp[rowsOf,maxLen,numB_length];done)|(simp[rowsOf,maxLen,numB_length];omega)) (Nat.le_trans (Nat.mul_le_mul_left _ ty.by5) (by first|(simp[rowsOf,numB_length];done)|(simp[rowsOf,numB_length];omega)))) Z<|laO Z<|nG<|aR ?_
 refine end_ret ?_ ⟨rfl,trivial⟩
 rfl
theorem copyBytes_f(l:List Int)(hl:l.length≤2000000):GC Try.prog 99 [byV l] [] (byV l) []:=(copyBytes_o l hl).frz1
theorem copyBytes_n(l:List Int)(hl:l.length≤2000000):GN Try.prog 99 [byV l] [] [] (oneR 5 1 (rowsOf encU l)):=(copyBytes_o l hl).fam1 flat_rowsOf
theorem or_num{a x:Int}(h0:0≤a)(h1:a<281474976710656)(h2:0≤x)(h3:x≤255):bits .or .i64 (a*2 ^ (8:Int).toNat) x=a*256+x:=by
 have e:a*2 ^ (8:Int).toNat=a*256:=rfl
 rw[e]
 have:=or_byte (a:=a*256) (b:=x) (by omega) (by omega) (by omega) h2 (by omega)
 rw[←this]
 unfold bits
 have e1:IntKind.i64.bits=64:=rfl
 have q1:(BitVec.ofInt 64 (a*256)).toNat=((a*256)%2 ^ 64).toNat:=by rw[BitVec.toNat_ofInt];rfl
 have q2:(BitVec.ofInt 64 x).toNat=(x%2 ^ 64).toNat:=by rw[BitVec.toNat_ofInt];rfl
 dsimp only
 rw[e1,BitVec.toNat_or,q1,q2]
def getB(b:List Int)(k size:Nat):Int:=if k+size≤b.length then valB ((b.drop k).take size)else 0
def getF(b:List Int)(k size:Nat):Bool:=decide (k+size≤b.length)
theorem getB_y{b:List Int}{k size:Nat}(h:k+size≤b.length):getB b k size=valB ((b.drop k).take size):=if_pos h
theorem valB_take{l:List Int}{j:Nat}(h:j<l.length):valB (l.take (j+1))=valB (l.take j)*256+l[j]:=by rw[List.take_succ_eq_append_getElem h,valB_snoc]
theorem pow_le{j:Nat}(h:j≤6):(256:Int) ^ j≤281474976710656:=by
 have:j=0∨j=1∨j=2∨j=3∨j=4∨j=5∨j=6:=by omega
 rcases this with rfl|rfl|rfl|rfl|rfl|rfl|rfl<;>decide
theorem valB_lim{l:List Int}{j size:Nat}(hb:BytesOk l)(h:j<size)(hs:size≤7):0≤valB (l.take j)∧valB (l.take j)<281474976710656:=by
 have h1:=valB_bd (l.take j) 0 (hb.take j) (Int.le_refl _)
 have h2:(l.take j).length≤6:=by rw[List.length_take];omega
 have h3:=pow_le h2
 unfold valB
 omega
theorem take_drop_rows{b:List Int}{k size:Nat}:((rowsOf encU b).take (k+size)).drop k=rowsOf encU ((b.drop k).take size):=by
 unfold rowsOf;rw[←List.map_take,←List.map_drop];congr 1;first|(rw[List.drop_take];congr 1;omega)|(rw[List.drop_take];congr 1)|rw[List.drop_take]
theorem getNum_e(b:List Int)(k size:Nat)(hb:BytesOk b)(hs0:1≤size)(hs:size≤7)(hk:k≤1000)(hl:b.length≤2000000):GC Try.prog 107 [byV b,int (k:Int),int (size:Int)] [] (.tup [int (getB b k size),boo (getF b k size)]) []:=by
 refine GC.intro (rs:=[.tmp 6,.tmp 7]) Try.func107 rfl Try.ntmps107 (Nat.le_of_ble_eq_true rfl) ⟨rfl,rfl,trivial⟩ ?_
 intro L O w0
 refine sL<|laI Z<|laZ Z<|nG<|aS<|sL<|lmI Z<|lst (zC [] [] [] Try.func47 (in_e _ _ _) (trivial) Z Z) Z ?_
 refine lsB 12 true rfl (inB_true.2 ⟨by omega,by omega⟩)<|luZ Z<|lmZ Z<|lmI Z<|lbB Z<|lsB 16 false rfl (by simp)<|lkZ Z<|lmZ Z<|lmI Z<|lmL Z<|lnI ty.sl56 Z<|lmI rfl ?_
 refine lhI rfl ⟨rfl,fits_i64 (by rw[length_rowsOf];unfold i64;omega)⟩<|lbB Z<|lkB Z<|nG ?_
 refine AW.cond rfl ?_ ?_
 ·intro h1
  refine sL<|laI Z<|laZ Z<|nG<|aR<|rT ?_
  have hkz:¬k+size≤b.length:=by have h:=h1;simp only[decide_eq_true_eq,length_rowsOf]at h;omega
  unfold getB getF
  rw[if_neg hkz,decide_eq_false hkz]
  refine end_ret ?_ trivial
  rfl
 ·intro h1
  refine aK<|gT<|aS ?_
  have hkz:k+size≤b.length:=by have h:=h1;simp only[decide_eq_false_iff_not,length_rowsOf]at h;omega
  have hlen:((b.drop k).take size).length=size:=by rw[List.length_take,List.length_drop];omega
  refine aL<|laI Z<|nG<|aS<|sL<|lmL Z<|lmI Z<|lmI Z<|lmI Z<|lgI Z<|lsN 30 ((k+size:Nat):Int) rfl (by omega) ?_
  refine lq (rd (x:=vL _ _ _) (rd_slc_p (l:=k) (h:=k+size) rfl ty.el56 rfl ⟨_,rfl⟩ ⟨_,(by first|rfl|(show int _=int _;rfl))⟩ (by omega) (by rw[length_rowsOf];exact hkz)) rfl) ?_
  refine AL.slot 31 (byV ((b.drop k).take size)) (Eq.trans (b:=.p (.lst 5 1 (((rowsOf encU b).take (k+size)).drop k))) rfl (congrArg (fun r=>AV.p (.lst 5 1 r)) take_drop_rows)) ?_
  refine lnI ty.sl56 Z<|lsN 32 (size:Int) rfl (by rw[length_rowsOf,hlen])<|lmI Z<|nG<|aB ?_
  refine aW [6,7,31,32] [] (D:=Nat) (fun d=>[(33,int (d:Int)),(8,int (valB (((b.drop k).take size).take d)))]) (fun d=>[]) (fun d=>d≤size) (fun d=>size-d) (0) (Nat.zero_le _) ⟨rfl,rfl,trivial⟩ trivial ?_
  intro j hI
  replace hI:j≤size:=hI
  refine sL<|lbB Z<|nG<|aS ?_
  refine AW.cond rfl ?_ ?_
  ·intro h2
   refine aK<|gT<|aS<|aB<|aS ?_
   have hj:j<size:=by have h:=h2;simp only[decide_eq_true_eq]at h;omega
   have hjl:j<((b.drop k).take size).length:=by omega
   have hlim:=valB_lim (l:=(b.drop k).take size) ((hb.drop k).take size) hj hs
   have hx:=((hb.drop k).take size) _ (List.getElem_mem hjl)
   refine aL<|li j ty.el56 Z (row_map hjl)<|lT [6,7,8,31,32,33,35] [] ?_
   refine lrI ty.kd5 Z<|laI Z<|nG<|aL<|lmI Z ?_
   refine lhI rfl ⟨rfl,by decide,by decide,fits_i64 (by show i64 (_*2 ^ 8);unfold i64;omega)⟩<|lmI Z<|lq (rd (x:=vI _ _) (rd_conv rfl ty.ik5 ty.ik3 rfl) rfl)<|lsN 40 (((b.drop k).take size)[j]) rfl (by rw[IntKind.wrap_i64];omega)<|lq (rd (x:=vI _ _) (rd_val rfl rfl rfl (run_or rfl) rfl) rfl)<|lsN 41 (valB (((b.drop k).take size).take j)*256+((b.drop k).take size)[j]) rfl (or_num hlim.1 hlim.2 hx.1 hx.2)<|laI Z<|lN<|gB<|gT<|aL<|lgI Z<|lmI Z<|nG ?_
   refine⟨(j+1),hj,by show size-(j+1)<size-j;omega,⟨(iq rfl),(congrArg int (valB_take hjl).symm),trivial⟩,trivial,rfl,rfl⟩
  ·intro h2
   refine aE<|eT<|eT<|eB<|gA<|lmI Z<|laI Z<|laT Z<|nG<|aR ?_
   have hj:j=size:=by have h:=h2;simp only[decide_eq_false_iff_not]at h;omega
   subst hj
   unfold getF
   rw[getB_y hkz,decide_eq_true hkz,List.take_of_length_le (l:=(b.drop k).take j) (by omega)]
   refine end_ret ?_ trivial
   rfl
abbrev secV(s:Sector):AV:=.agg [int s.seq,int s.epoch,byV s.body]
def secX(s:Sector):List Int:=if secOk s then secB s else []
theorem secX_y{s:Sector}(h:secOk s=true):secX s=secB s:=if_pos h
theorem secX_n{s:Sector}(h:secOk s=false):secX s=[]:=if_neg (by simp[h])
theorem secX_ok{s:Sector}(h:BytesOk s.body):BytesOk (secX s):=by
 cases q:secOk s
 ·rw[secX_n q];exact .nil
 ·rw[secX_y q];exact secB_ok h (secOk_iff.1 q).2.2
theorem zero_rows(m:Nat):List.replicate m [PV.v (.int .u8 0)]=rowsOf encU (List.replicate m 0):=by unfold rowsOf;rw[List.map_replicate];rfl
theorem u8_len{s:Sector}(h:s.body.length≤100):IntKind.u8.wrap (s.body.length:Int)=(s.body.length:Int):=by rw[wrap_u8];omega
theorem sectorOk_e(s:Sector):GC Try.prog 98 [secV s] [] (boo (secOk s)) []:=by
 refine gi 2 Try.func98 rfl Try.ntmps98 rfl ?_
 intro L O w0
 refine sL<|lst (zX 2001 Z) Z<|laZ Z<|nA<|lf 0 ty.F92_0 Z<|loI ty.kd3 Z<|lst (zC [] [] [] Try.func47 (in_e _ _ _) (trivial) Z Z) Z<|lmB Z ?_
 refine AL.bool (t:=6) rfl ?_ ?_
 ·intro h1
  refine lf 1 ty.F92_1 Z<|loI ty.kd3 Z<|lst (zC [] [] [] Try.func47 (in_e _ _ _) (trivial) Z Z) Z<|lkB Z<|lmB Z ?_
  refine AL.bool (t:=11) rfl ?_ ?_
  ·intro h2
   refine lf 2 ty.F92_2 Z<|loL ty.kd56 Z<|lnI ty.sl56 Z ?_
   refine AL.slot 14 (int (s.body.length:Int)) (congrArg (fun n:Nat=>int (n:Int)) (length_rowsOf _ _)) ?_
   refine lbB Z<|lkB Z<|laB Z<|nG<|aR ?_
   refine eBo trivial ?_
   unfold secOk
   first|(simp_all;done)|(simp_all;omega)
  ·intro h2
   refine lno Z<|lno Z<|lno Z<|lno Z<|lkZ Z<|laZ Z<|nG<|aR ?_
   refine eBo trivial ?_
   unfold secOk
   first|(simp_all;done)|(simp_all;omega)
 ·intro h1
  refine lno Z<|lno Z<|lno Z<|lkZ Z<|lmZ Z<|lno Z<|lno Z<|lno Z<|lno Z<|lkZ Z<|laZ Z<|nG<|aR ?_
  refine eBo trivial ?_
  unfold secOk
  first|(simp_all;done)|(simp_all;omega)
theorem sectorBytes_o(s:Sector):GC Try.prog 50 [secV s] [] (.tup [.own 1,boo (secOk s)]) [(1,yAr (secX s))]:=by
 refine GC.intro (rs:=[.tmp 2,.tmp 3]) Try.func50 rfl Try.ntmps50 (Nat.le_of_ble_eq_true rfl) ⟨rfl,rfl,trivial⟩ ?_
 intro L O w0
 refine sL<|lst (zX 2001 Z) Z<|laV Z<|laZ Z<|nG<|aS<|sL<|loX (.agg [vI _ _,vI _ _,vL _ _ _]) ty.kd92 Z<|lst (zC [] [] [] Try.func98 (sectorOk_e s) (trivial) Z Z) Z<|luB Z<|nG ?_
 refine AW.cond rfl ?_ ?_
 ·intro h1
  refine sL<|laV Z<|laZ Z<|nG ?_
  refine AW.adoptT 1 2 5 1 rfl ?_
  refine aR<|rT ?_
  have hok:secOk s=false:=by simpa using h1
  rw[hok,secX_n hok]
  refine end_ret ?_ ⟨rfl,trivial⟩
  rfl
 ·intro h1
  refine aK<|gT<|aS ?_
  have hok:secOk s=true:=by simpa using h1
  obtain⟨⟨a1,a2⟩,⟨b1,b2⟩,hl⟩:=secOk_iff.1 hok
  refine aG 7 [1]<|tq 1 (rf 0 ty.F92_0 rfl)<|tq 2 (roI ty.kd3 rfl)<|tq 4 (rf 1 ty.F92_1 rfl)<|tq 5 (roI ty.kd3 rfl)<|yst 0 rfl (zS 1 (rowsOf encU [74]) ty.el56 ty.ze5 rfl)<|yst 3 rfl (zC [(1,1)] [1] [] Try.func97 (putNum_e ([74]) (s.seq) 3 (by omega) (by omega) (by first|(simp[numB_length];done)|(simp[numB_length];omega))) (trivial) rfl rfl)<|gX [1,2,3,11,13] [1,2001] ?_
  refine yst 6 rfl (zC [(1,1)] [1] [] Try.func97 (putNum_e ([74]++numB 3 s.seq) (s.epoch) 3 (by omega) (by omega) (by first|(simp[numB_length];done)|(simp[numB_length];omega))) (trivial) rfl rfl)<|yq 7 (raO rfl)<|gD<|gT<|aS<|aG 10 [1]<|tq 0 (rmO rfl)<|tq 1 (rf 2 ty.F92_2 rfl)<|tq 2 (roL ty.kd56 rfl)<|tq 3 (rnI ty.sl56 rfl) ?_
  refine AG.slot 18 (int (s.body.length:Int)) (congrArg (fun n:Nat=>int (n:Int)) (length_rowsOf _ _)) ?_
  refine tq 4 (rd (x:=vI _ _) (rd_conv rfl ty.ik3 ty.ik5 rfl) rfl) ?_
  refine AG.slot 19 (yv (s.body.length:Int)) (Eq.trans (b:=yv _) rfl (congrArg yv (u8_len hl))) ?_
  refine tq 7 (rf 2 ty.F92_2 rfl)<|tq 8 (roL ty.kd56 rfl)<|yst 5 rfl (zS 2020 (rowsOf encU [(s.body.length:Int)]) ty.el56 ty.ze5 rfl)<|yst 6 rfl (zP 1 ty.el56 ty.ze5 ty.by5 rfl (Src.own rfl rfl) (by first|(simp[rowsOf,numB_length];done)|(simp[rowsOf,numB_length];omega)))<|yst 9 rfl (zP 1 ty.el56 ty.ze5 ty.by5 rfl (Src.p rfl) (by first|(simp[rowsOf,numB_length];done)|(simp[rowsOf,numB_length];omega)))<|yq 10 (raO rfl)<|gD<|gT ?_
  refine AW.obj 1 (yAr ([74]++numB 3 s.seq++numB 3 s.epoch++[(s.body.length:Int)]++s.body)) ((Eq.trans (b:=AO.arr 5 1 (rowsOf encU ([74]++numB 3 s.seq++numB 3 s.epoch)++rowsOf encU [(s.body.length:Int)]++rowsOf encU s.body)) rfl (by rw[←oapp,←oapp]))) ?_
  refine sL<|lmO Z<|lmO Z<|lnI ty.sl56 Z ?_
  refine AL.slot 27 (int ((8+s.body.length:Nat):Int)) (Eq.trans (b:=int _) rfl (congrArg (fun n:Nat=>int (n:Int)) (by rw[length_rowsOf];first|(simp[numB_length];done)|(simp[numB_length];omega)))) ?_
  refine lgI Z<|lst (St.appZ 1 (m:=114-s.body.length) rfl rfl (by decide) ty.el56 ty.ze5 rfl ty.ik3 rfl rfl rfl ?hn1 (by rw[length_rowsOf];first|(simp;done)|(simp;omega)) (by omega) (by rw[length_rowsOf];simp[numB_length,maxLen];omega) (Nat.le_trans (Nat.mul_le_mul_left _ ty.by5) (by rw[length_rowsOf];simp[numB_length];omega))) rfl ?_
  case hn1=>omega
  refine lT [1,2,3,29] [1,2001,2020] ?_
  refine laO Z<|nG ?_
  refine AW.obj 1 (yAr ([74]++numB 3 s.seq++numB 3 s.epoch++[(s.body.length:Int)]++s.body++List.replicate (114-s.body.length) 0)) ((Eq.trans (b:=AO.arr 5 1 (rowsOf encU ([74]++numB 3 s.seq++numB 3 s.epoch++[(s.body.length:Int)]++s.body)++List.replicate (114-s.body.length) [PV.v (.int .u8 0)])) rfl (by rw[zero_rows,←oapp]))) ?_
  refine aS<|aG 8 [1]<|tq 0 (rmO rfl)<|tq 1 (rf 0 ty.F92_0 rfl)<|tq 2 (roI ty.kd3 rfl)<|tq 4 (rf 1 ty.F92_1 rfl)<|tq 5 (roI ty.kd3 rfl)<|yst 3 rfl (zC [(1,1)] [1] [] Try.func97 (putNum_e ([74]++numB 3 s.seq++numB 3 s.epoch++[(s.body.length:Int)]++s.body++List.replicate (114-s.body.length) 0) (s.seq) 3 (by omega) (by omega) (by first|(simp[numB_length];done)|(simp[numB_length];omega))) (trivial) rfl rfl)<|yst 6 rfl (zC [(1,1)] [1] [] Try.func97 (putNum_e ([74]++numB 3 s.seq++numB 3 s.epoch++[(s.body.length:Int)]++s.body++List.replicate (114-s.body.length) 0++numB 3 s.seq) (s.epoch) 3 (by omega) (by omega) (by first|(simp[numB_length];done)|(simp[numB_length];omega))) (trivial) rfl rfl)<|yq 7 (raO rfl)<|yq 8 (raT rfl)<|gD<|gT<|aR ?_
  rw[hok,secX_y hok]
  refine end_ret ?_ ⟨rfl,trivial⟩
  rfl
theorem sectorBytes_e(s:Sector):GC Try.prog 50 [secV s] [] (.tup [byV (secX s),boo (secOk s)]) []:=(sectorBytes_o s).frz2
theorem secC_of{b:List Int}(h:b.length=128):getB b 1 3=(secC b).seq∧getB b 4 3=(secC b).epoch:=⟨getB_y (by omega),getB_y (by omega)⟩
theorem get7{b:List Int}(h:7<b.length):b.getD 7 0=b[7]:=by rw[List.getD_eq_getElem?_getD,List.getElem?_eq_getElem h];rfl
theorem secC_b{b:List Int}(h:7<b.length):(secC b).body=(b.drop 8).take (b[7]).toNat:=by unfold secC;rw[get7 h]
theorem secF_y{b:List Int}(h:b.length=128)(h7:7<b.length)(h1:b[7]≤100)(h2:secOk (secC b)=true)(h3:secX (secC b)=b):secF b=true:=secF_iff.2 ⟨h,by rw[get7 h7];exact h1,h2,by rwa [secX_y h2]at h3⟩
theorem secF_n0{b:List Int}(h:b.length≠128):secF b=false:=Bool.eq_false_iff.2 fun q=>h (secF_iff.1 q).1
theorem secF_n1{b:List Int}(h7:7<b.length)(h:¬b[7]≤100):secF b=false:=Bool.eq_false_iff.2 fun q=>h (by have:=(secF_iff.1 q).2.1;rwa [get7 h7]at this)
theorem secF_n2{b:List Int}(h:secOk (secC b)=false):secF b=false:=Bool.eq_false_iff.2 fun q=>by have:=(secF_iff.1 q).2.2.1;rw[h]at this;cases this
theorem secF_n3{b:List Int}(h:secX (secC b)≠b):secF b=false:=Bool.eq_false_iff.2 fun q=>h (by rw[secX_y (secF_iff.1 q).2.2.1];exact(secF_iff.1 q).2.2.2)
def secRel(b:List Int):AV→List (Nat×AO)→Prop:=fun y ob=>ob=[]∧(secF b=true∧y=.tup [secV (secC b),boo true]∨secF b=false∧y=.tup [.agg [int 0,int 0,.p (.v (.slice none 0 0))],boo false])
theorem GX.sec{f:FuncId}{b:List Int}(h:GX Try.prog f [byV b] [] (secRel b)):GC Try.prog f [byV b] [] (.tup [secV (secR b),boo (secF b)]) []:=GX.imp h (fun x ob ⟨e1,e2⟩=>by
 subst e1
 rcases e2 with⟨e,rfl⟩|⟨e,rfl⟩
 ·rw[secR_yes e,e];exact⟨_,Imp.refl _,rfl,rfl⟩
 ·rw[secR_no e,e];exact⟨_,Imp.tup (ImpL.cons (Imp.agg (ImpL.cons (Imp.refl _) (ImpL.cons (Imp.refl _) (ImpL.cons (Imp.nil _ _) ImpL.nil)))) (ImpL.cons (Imp.refl _) ImpL.nil)),rfl,rfl⟩)
theorem sectorRead_0(b:List Int)(hb:BytesOk b)(hl:b.length≤2000000):GX Try.prog 118 [byV b] [] (secRel b):=by
 refine GX.intro (rs:=[.cell 2 92 (some 3),.tmp 3]) Try.func118 rfl Try.ntmps118 (Nat.le_of_ble_eq_true rfl) ⟨rfl,rfl,ty.kd92,rfl,trivial⟩ ?_
 intro L O w0
 refine sL<|lst (zA 2002 ty.ze92 Z) Z<|laZ Z<|nG<|aS<|sL<|lmL Z<|lnI ty.sl56 Z<|lbB Z<|lmB Z ?_
 refine AL.bool (t:=14) rfl ?_ ?_
 ·intro h1
  refine lno Z<|lno Z<|lno Z<|lno Z<|lkT Z<|nG<|aY Z<|sL<|lq (rd (x:=.agg [vI _ _,vI _ _,vV _]) (rd_build Z ty.sa92 Z Z Z) Z)<|lst (zB 2002 ty.co92 ty.inf92 Z) Z<|laZ Z<|nG<|aR<|rT ?_
  have hF:secF b=false:=secF_n0 (by have h:=h1;simp[length_rowsOf]at h;omega)
  refine end_xret ((.tup [.agg [int 0,int 0,.p (.v (.slice none 0 0))],boo false])) [] ?_ rfl trivial
  exact⟨rfl,.inr ⟨hF,rfl⟩⟩
 ·intro h1
  refine lmL rfl ?_
  have h7:7<b.length:=by have h:=h1;simp[length_rowsOf]at h;omega
  refine li 7 ty.el56 Z (row_map h7)<|lrI ty.kd5 Z<|lbB Z<|lkB Z<|nG ?_
  refine AW.cond rfl ?_ ?_
  ·intro h2
   refine sL<|lq (rd (x:=.agg [vI _ _,vI _ _,vV _]) (rd_build Z ty.sa92 Z Z Z) Z)<|lst (zB 2002 ty.co92 ty.inf92 Z) Z<|lT [0,2,3] [2002] ?_
   refine laZ Z<|nG<|aR<|rT ?_
   have hF:secF b=false:=secF_n1 h7 (by have h:=h2;simp at h;omega)
   refine end_xret ((.tup [.agg [int 0,int 0,.p (.v (.slice none 0 0))],boo false])) [] ?_ rfl trivial
   exact⟨rfl,.inr ⟨hF,rfl⟩⟩
  ·intro h2
   refine aK<|gT<|aS ?_
   have h128:b.length=128:=by have h:=h1;simp[length_rowsOf]at h;omega
   have h7:7<b.length:=by omega
   obtain⟨e1,e2⟩:=secC_of h128
   have e3:=secC_b h7
   have hx:=hb _ (List.getElem_mem h7)
   have hle:b[7]≤100:=by have h:=h2;simp at h;omega
   refine aL<|lmL Z<|lst (zC [] [] [] Try.func107 (getNum_e b 1 3 hb (by decide) (by decide) (by decide) hl) (trivial) rfl rfl) Z<|lmX (.tup [vI _ _,vB _]) Z<|lxI rfl ?_
   refine AL.slot 24 (int (secC b).seq) (congrArg int e1) ?_
   refine lxB Z<|laI Z<|laB Z<|nA<|lmL Z<|lst (zC [] [] [] Try.func107 (getNum_e b 4 3 hb (by decide) (by decide) (by decide) hl) (trivial) rfl rfl) Z<|lmX (.tup [vI _ _,vB _]) Z<|lxI rfl ?_
   refine AL.slot 29 (int (secC b).epoch) (congrArg int e2) ?_
   refine lxB Z<|laI Z<|laB Z<|nA<|lmI Z<|lmI Z<|lmL Z<|lmL Z<|li 7 ty.el56 rfl (row_map h7)<|lrI ty.kd5 Z<|lq (rd (x:=vI _ _) (rd_conv rfl ty.ik5 ty.ik3 rfl) rfl)<|lsN 37 b[7] rfl (by rw[IntKind.wrap_i64];omega)<|lgI Z<|lsN 38 ((8+(b[7]).toNat:Nat):Int) rfl (by omega) ?_
   refine lq (rd (x:=vL _ _ _) (rd_slc_p (l:=8) (h:=8+(b[7]).toNat) rfl ty.el56 rfl ⟨_,rfl⟩ ⟨_,rfl⟩ (by omega) (by rw[length_rowsOf];omega)) rfl) ?_
   refine AL.slot 39 (byV (secC b).body) (Eq.trans (b:=.p (.lst 5 1 (((rowsOf encU b).take (8+(b[7]).toNat)).drop 8))) rfl (congrArg (fun r=>AV.p (.lst 5 1 r)) (by rw[take_drop_rows,e3]))) ?_
   refine lst (zC [] [] [] Try.func99 (copyBytes_f _ (by rw[e3];simp;omega)) (trivial) rfl rfl) Z<|lT [0,2,3,31,32,40] [2002] ?_
   refine lq (rd (x:=.agg [vI _ _,vI _ _,vL _ _ _]) (rd_build Z ty.sa92 Z Z Z) Z)<|lst (zA 2008 ty.ze92 Z) Z<|lst (zB 2008 ty.co92 ty.inf92 Z) Z<|nA<|loX (.agg [vI _ _,vI _ _,vL _ _ _]) ty.kd92 Z<|lst (zC [] [] [] Try.func50 (sectorBytes_e (secC b)) (trivial) Z Z) Z<|lmX (.tup [vL _ _ _,vB _]) Z<|lxL Z<|lxB Z<|laL Z<|laB Z<|nG<|aS<|sL<|lmB Z<|luB Z<|lmB Z ?_
   refine AL.bool (t:=49) rfl ?_ ?_
   ·intro h3
    refine lno Z<|lno Z<|lno Z<|lno Z<|lno Z<|lkT Z<|nG<|aY Z<|sL<|lq (rd (x:=.agg [vI _ _,vI _ _,vV _]) (rd_build Z ty.sa92 Z Z Z) Z)<|lst (zB 2002 ty.co92 ty.inf92 Z) Z<|lT [2,3,8] [2002,2008] ?_
    refine laZ Z<|nG<|aR<|rT ?_
    have hF:secF b=false:=by first|exact secF_n2 (by simpa using h3)|exact secF_n3 (by simpa using h3)|exact secF_n2 (by simpa using h1)|exact secF_n2 (by simpa using h2)|exact secF_n2 (by simpa using h3)|exact secF_n3 (by simpa using h1)|exact secF_n3 (by simpa using h2)|exact secF_n3 (by simpa using h3)
    refine end_xret ((.tup [.agg [int 0,int 0,.p (.v (.slice none 0 0))],boo false])) [] ?_ rfl trivial
    exact⟨rfl,.inr ⟨hF,rfl⟩⟩
   ·intro h3
    refine lmL Z<|lq (rd (x:=vV _) (rd_str_p (e:=5) Z Try.underlying56 Try.underlying5 Try.underlying9 Z) Z)<|lmL Z<|lq (rd (x:=vV _) (rd_str_p (e:=5) Z Try.underlying56 Try.underlying5 Try.underlying9 Z) Z)<|lq (rd (x:=vB _) (rd_val Z Z Z (run_strne Try.underlying9 (secX_ok (secC_body hb)) hb) Z) Z)<|lkB Z<|nG ?_
    refine AW.cond rfl ?_ ?_
    ·intro h4
     refine sL<|lq (rd (x:=.agg [vI _ _,vI _ _,vV _]) (rd_build Z ty.sa92 Z Z Z) Z)<|lst (zB 2002 ty.co92 ty.inf92 Z) Z<|laZ Z<|nG<|aR<|rT ?_
     have hF:secF b=false:=by first|exact secF_n2 (by simpa using h4)|exact secF_n3 (by simpa using h4)|exact secF_n2 (by simpa using h1)|exact secF_n2 (by simpa using h2)|exact secF_n2 (by simpa using h3)|exact secF_n2 (by simpa using h4)|exact secF_n3 (by simpa using h1)|exact secF_n3 (by simpa using h2)|exact secF_n3 (by simpa using h3)|exact secF_n3 (by simpa using h4)
     refine end_xret ((.tup [.agg [int 0,int 0,.p (.v (.slice none 0 0))],boo false])) [] ?_ rfl trivial
     exact⟨rfl,.inr ⟨hF,rfl⟩⟩
    ·intro h4
     refine aK<|gA<|loX (.agg [vI _ _,vI _ _,vL _ _ _]) ty.kd92 Z<|lst (zB 2002 ty.co92 ty.inf92 Z) Z<|laT Z<|nG<|aR ?_
     have hF:secF b=true:=secF_y h128 h7 hle (by first|(simpa using h2)|(simpa using h3)|(simpa using h4)) (by first|(simpa using h2)|(simpa using h3)|(simpa using h4))
     refine end_xret ((.tup [secV (secC b),boo true])) [] ?_ rfl trivial
     exact⟨rfl,.inl ⟨hF,rfl⟩⟩
theorem sectorRead_e(b:List Int)(hb:BytesOk b)(hl:b.length≤2000000):GC Try.prog 118 [byV b] [] (.tup [secV (secR b),boo (secF b)]) []:=GX.sec (sectorRead_0 b hb hl)

def evX(e:Event):List Int:=if eventOk e then evB e else []
theorem evX_y{e:Event}(h:eventOk e=true):evX e=evB e:=if_pos h
theorem evX_n{e:Event}(h:eventOk e=false):evX e=[]:=if_neg (by simp[h])
theorem field_bd{has:Bool}{n lo hi:Int}(h:fieldB has n lo hi=true)(h0:0≤lo)(h1:0≤hi):0≤n∧n≤hi:=by
 unfold fieldB at h
 split at h
 ·have:=inB_true.1 h;omega
 ·simp at h;omega
theorem evBd{e:Event}(h:eventOk e=true):(1≤e.kind∧e.kind≤11)∧(0≤e.key∧e.key≤1000000)∧(0≤e.ch∧e.ch≤99)∧(0≤e.to∧e.to≤99)∧(0≤e.amt∧e.amt≤1125899906842624)∧(0≤e.fee∧e.fee≤1125899906842624):=by
 have q:=evAmt h
 rw[amtOk_true,amtOk_true]at q
 unfold eventOk at h
 simp only[Bool.and_eq_true]at h
 obtain⟨⟨⟨⟨⟨⟨⟨h1,h2⟩,h3⟩,h4⟩,_⟩,_⟩,_⟩,_⟩:=h
 exact⟨inB_true.1 h1,field_bd h2 (by decide) (by decide),field_bd h3 (by decide) (by decide),field_bd h4 (by decide) (by decide),q.1,q.2⟩
theorem evB_ok{e:Event}(h:eventOk e=true):BytesOk (evB e):=by
 obtain⟨a,b,c,d,f,g⟩:=evBd h
 unfold evB
 refine(((((BytesOk.cons (by omega) (by omega) (.cons (by omega) (by omega) .nil)).app (numB_ok _ _)).app (.cons (by omega) (by omega) (.cons (by omega) (by omega) .nil))).app (numB_ok _ _)).app (numB_ok _ _)).app ?_
 split
 ·exact .cons (by omega) (by omega) .nil
 ·exact .cons (by omega) (by omega) .nil
theorem evX_ok(e:Event):BytesOk (evX e):=by
 cases q:eventOk e
 ·rw[evX_n q];exact .nil
 ·rw[evX_y q];exact evB_ok q
theorem eventBody_o(e:Event):GC Try.prog 49 [evV e] [] (.tup [.own 1,boo (eventOk e)]) [(1,yAr (evX e))]:=by
 refine GC.intro (rs:=[.tmp 2,.tmp 3]) Try.func49 rfl Try.ntmps49 (Nat.le_of_ble_eq_true rfl) ⟨rfl,rfl,trivial⟩ ?_
 intro L O w0
 refine sL<|lst (zX 2001 Z) Z<|laV Z<|laZ Z<|nG<|aS<|sL<|loX (.agg [vI _ _,vI _ _,vI _ _,vI _ _,vI _ _,vI _ _,vB _]) ty.kd40 Z<|lst (zC [] [] [] Try.func48 (eventOk_e e) (trivial) Z Z) Z<|luB Z<|nG ?_
 refine AW.cond rfl ?_ ?_
 ·intro h1
  refine sL<|laV Z<|laZ Z<|nG ?_
  refine AW.adoptT 1 2 5 1 rfl ?_
  refine aR<|rT ?_
  have hok:eventOk e=false:=by simpa using h1
  rw[hok,evX_n hok]
  refine end_ret ?_ ⟨rfl,trivial⟩
  rfl
 ·intro h1
  refine aK<|gT<|aS ?_
  have hok:eventOk e=true:=by simpa using h1
  obtain⟨⟨b1,b2⟩,⟨b3,b4⟩,⟨b5,b6⟩,⟨b7,b8⟩,⟨b9,b10⟩,⟨b11,b12⟩⟩:=evBd hok
  refine aL<|lf 0 ty.F40_0 Z<|loI ty.kd3 Z<|lq (rd (x:=vI _ _) (rd_conv Z ty.ik3 ty.ik5 Z) Z) ?_
  refine AL.slot 10 (yv e.kind) (Eq.trans (b:=yv _) rfl (congrArg yv (by rw[wrap_u8];omega))) ?_
  refine lst (zS 1 (rowsOf encU [69,e.kind]) ty.el56 ty.ze5 rfl (by intro r hr;simp only[rowsOf,List.map_cons,List.map_nil,List.mem_cons,List.not_mem_nil,or_false]at hr;rcases hr with h|h<;>(subst h;rfl))) Z<|lf 1 ty.F40_1 Z<|loI ty.kd3 Z<|lst (zC [(1,1)] [1] [] Try.func97 (putNum_e ([69,e.kind]) (e.key) 3 (by omega) (by omega) (by first|(simp[numB_length];done)|(simp[numB_length];omega))) (trivial) rfl rfl) Z<|lT [1,2,3,14] [1,2001] ?_
  refine laO Z<|nG<|aS<|aG 15 [1]<|tq 0 (rmO Z)<|tq 1 (rf 2 ty.F40_2 Z)<|tq 2 (roI ty.kd3 Z)<|tq 3 (rd (x:=vI _ _) (rd_conv Z ty.ik3 ty.ik5 Z) Z) ?_
  refine AG.slot 18 (yv e.ch) (Eq.trans (b:=yv _) rfl (congrArg yv (by rw[wrap_u8];omega))) ?_
  refine tq 4 (rf 3 ty.F40_3 Z)<|tq 5 (roI ty.kd3 Z)<|tq 6 (rd (x:=vI _ _) (rd_conv Z ty.ik3 ty.ik5 Z) Z) ?_
  refine AG.slot 21 (yv e.to) (Eq.trans (b:=yv _) rfl (congrArg yv (by rw[wrap_u8];omega))) ?_
  refine tq 9 (rf 4 ty.F40_4 rfl)<|tq 10 (roI ty.kd3 rfl)<|tq 12 (rf 5 ty.F40_5 rfl)<|tq 13 (roI ty.kd3 rfl)<|yst 7 rfl (zS 2022 (rowsOf encU [e.ch,e.to]) ty.el56 ty.ze5 rfl (by intro r hr;simp only[rowsOf,List.map_cons,List.map_nil,List.mem_cons,List.not_mem_nil,or_false]at hr;rcases hr with h|h<;>(subst h;rfl)))<|yst 8 rfl (zP 1 ty.el56 ty.ze5 ty.by5 rfl (Src.own rfl rfl) (by first|(simp[rowsOf,numB_length];done)|(simp[rowsOf,numB_length];omega)))<|gX [1,2,3,23,25,28] [1,2001,2022] ?_
  refine yst 11 rfl (St.call [(1,1)] [1] [] rfl (by intro s hs;cases hs;decide) rfl Try.func97 rfl rfl (putNum_e ([69,e.kind]++numB 3 e.key++[e.ch,e.to]) (e.amt) 7 (by omega) (by omega) (by first|(simp[numB_length];done)|(simp[numB_length];omega))) ⟨rfl,rfl,rfl⟩ (⟨⟨1,rfl,(Eq.trans (b:=AO.arr 5 1 (rowsOf encU ([69,e.kind]++numB 3 e.key)++rowsOf encU [e.ch,e.to])) rfl (yapp _ _))⟩,trivial⟩) (trivial) rfl)<|yst 14 rfl (zC [(1,1)] [1] [] Try.func97 (putNum_e ([69,e.kind]++numB 3 e.key++[e.ch,e.to]++numB 7 e.amt) (e.fee) 7 (by omega) (by omega) (by first|(simp[numB_length];done)|(simp[numB_length];omega))) (trivial) rfl rfl)<|yq 15 (raO rfl)<|gD<|gT<|aS<|sL<|lf 6 ty.F40_6 Z<|loB ty.kd4 Z<|nG ?_
  refine AW.cond rfl ?_ ?_
  ·intro h2
   refine sL<|lmO Z<|lst (zS 2033 (rowsOf encU [1]) ty.el56 ty.ze5 rfl) Z<|lst (zP 1 ty.el56 ty.ze5 ty.by5 rfl (Src.own rfl rfl) (by first|(simp[rowsOf,numB_length];done)|(simp[rowsOf,numB_length];omega))) Z<|laO Z<|laT Z<|nG<|aR<|rT ?_
   rw[hok,evX_y hok]
   refine end_ret ?_ ⟨(Eq.trans (b:=AO.arr 5 1 (rowsOf encU ([69,e.kind]++numB 3 e.key++[e.ch,e.to]++numB 7 e.amt++numB 7 e.fee)++rowsOf encU [1])) rfl (by rw[←oapp];unfold evB;rw[h2];rfl)),trivial⟩
   rfl
  ·intro h2
   refine aK<|gA<|lmO Z<|lst (zS 2036 (rowsOf encU [0]) ty.el56 ty.ze5 rfl) Z<|lst (zP 1 ty.el56 ty.ze5 ty.by5 rfl (Src.own rfl rfl) (by first|(simp[rowsOf,numB_length];done)|(simp[rowsOf,numB_length];omega))) Z<|laO Z<|laT Z<|nG<|aR ?_
   rw[hok,evX_y hok]
   refine end_ret ?_ ⟨(Eq.trans (b:=AO.arr 5 1 (rowsOf encU ([69,e.kind]++numB 3 e.key++[e.ch,e.to]++numB 7 e.amt++numB 7 e.fee)++rowsOf encU [0])) rfl (by rw[←oapp];unfold evB;rw[h2];rfl)),trivial⟩
   rfl
theorem eventBody_e(e:Event):GC Try.prog 49 [evV e] [] (.tup [byV (evX e),boo (eventOk e)]) []:=(eventBody_o e).frz2
theorem getD_at{b:List Int}{i:Nat}(h:i<b.length):b.getD i 0=b[i]:=by rw[List.getD_eq_getElem?_getD,List.getElem?_eq_getElem h];rfl
theorem evF_iff{b:List Int}:evF b=true↔b.length=22∧eventOk (evC b)=true∧evB (evC b)=b:=by unfold evF;simp
theorem evF_y{b:List Int}(h:b.length=22)(h1:eventOk (evC b)=true)(h2:evX (evC b)=b):evF b=true:=evF_iff.2 ⟨h,h1,by rwa [evX_y h1]at h2⟩
theorem evF_n0{b:List Int}(h:b.length≠22):evF b=false:=Bool.eq_false_iff.2 fun q=>h (evF_iff.1 q).1
theorem evF_n1{b:List Int}(h:eventOk (evC b)=false):evF b=false:=Bool.eq_false_iff.2 fun q=>by have:=(evF_iff.1 q).2.1;rw[h]at this;cases this
theorem evF_n2{b:List Int}(h:evX (evC b)≠b):evF b=false:=Bool.eq_false_iff.2 fun q=>h (by rw[evX_y (evF_iff.1 q).2.1];exact(evF_iff.1 q).2.2)
def evR(b:List Int):Event:=if evF b then evC b else ⟨0,0,0,0,0,0,false⟩
theorem evR_y{b:List Int}(h:evF b=true):evR b=evC b:=if_pos h
theorem evR_n{b:List Int}(h:evF b=false):evR b=⟨0,0,0,0,0,0,false⟩:=if_neg (by simp[h])
theorem evC_of{b:List Int}(h:b.length=22):getB b 2 3=(evC b).key∧getB b 7 7=(evC b).amt∧getB b 14 7=(evC b).fee:=⟨getB_y (by omega),getB_y (by omega),getB_y (by omega)⟩
theorem bodyEvent_e(b:List Int)(hb:BytesOk b)(hl:b.length≤2000000):GC Try.prog 58 [byV b] [] (.tup [evV (evR b),boo (evF b)]) []:=by
 refine GC.intro (rs:=[.cell 2 40 (some 7),.tmp 3]) Try.func58 rfl Try.ntmps58 (Nat.le_of_ble_eq_true rfl) ⟨rfl,rfl,ty.kd40,rfl,trivial⟩ ?_
 intro L O w0
 refine sL<|lst (zA 2002 ty.ze40 Z) Z<|laZ Z<|nG<|aS<|sL<|lmL Z<|lnI ty.sl56 Z<|lbB Z<|nG ?_
 refine AW.cond rfl ?_ ?_
 ·intro h1
  refine sL<|lq (rd (x:=.agg [vI _ _,vI _ _,vI _ _,vI _ _,vI _ _,vI _ _,vB false]) (rd_build Z ty.sa40 Z Z Z) Z)<|lst (zB 2002 ty.co40 ty.inf40 Z) Z<|laZ Z<|nG<|aR<|rT ?_
  have hF:evF b=false:=evF_n0 (by have h:=h1;simp[length_rowsOf]at h;omega)
  rw[evR_n hF,hF]
  refine end_ret ?_ trivial
  rfl
 ·intro h1
  refine aK<|gT<|aS ?_
  have h22:b.length=22:=by have h:=h1;simp[length_rowsOf]at h;omega
  have h1:1<b.length:=by omega
  have h5:5<b.length:=by omega
  have h6:6<b.length:=by omega
  have h21:21<b.length:=by omega
  obtain⟨e1,e2,e3⟩:=evC_of h22
  have x1:=hb _ (List.getElem_mem h1)
  have x5:=hb _ (List.getElem_mem h5)
  have x6:=hb _ (List.getElem_mem h6)
  have x21:=hb _ (List.getElem_mem h21)
  refine aF [18]<|pq 0 (qmL rfl)<|sq 1 (ri 1 ty.el56 rfl (row_map h1))<|sq 2 (rrI ty.kd5 rfl)<|sq 3 (rd (x:=vI _ _) (rd_conv rfl ty.ik5 ty.ik3 rfl) rfl)<|fsN 14 (evC b).kind rfl (Eq.trans (show IntKind.i64.wrap b[1]=b[1] by rw[IntKind.wrap_i64];omega) (getD_at h1).symm)<|pq 4 (qmL rfl)<|sq 5 (ri 5 ty.el56 rfl (row_map h5))<|sq 6 (rrI ty.kd5 rfl)<|sq 7 (rd (x:=vI _ _) (rd_conv rfl ty.ik5 ty.ik3 rfl) rfl)<|fsN 18 (evC b).ch rfl (Eq.trans (show IntKind.i64.wrap b[5]=b[5] by rw[IntKind.wrap_i64];omega) (getD_at h5).symm)<|pq 8 (qmL rfl)<|sq 9 (ri 6 ty.el56 rfl (row_map h6))<|sq 10 (rrI ty.kd5 rfl)<|sq 11 (rd (x:=vI _ _) (rd_conv rfl ty.ik5 ty.ik3 rfl) rfl)<|fsN 22 (evC b).to rfl (Eq.trans (show IntKind.i64.wrap b[6]=b[6] by rw[IntKind.wrap_i64];omega) (getD_at h6).symm)<|pq 12 (qmL rfl)<|sq 13 (ri 21 ty.el56 rfl (row_map h21))<|sq 14 (rrI ty.kd5 rfl)<|sq 15 (rbB rfl) ?_
  refine AF.slot 26 (boo (evC b).yes) (congrArg boo (show decide (b[21]=1)=(b.getD 21 0==1) by rw[getD_at h21];exact(dec_beq _ _))) ?_
  refine sq 16 (rd (x:=.agg [vI _ _,vI _ _,vI _ _,vI _ _,vI _ _,vI _ _,vB _]) (rd_build Z ty.sa40 Z Z Z) Z)<|vst 17 Z (zA 2004 ty.ze40 Z) (.inr Z)<|fT [0,2,3,4,27] [2002,2004] ?_
  refine vst 18 rfl (zB 2004 ty.co40 ty.inf40 rfl) (.inl rfl)<|fD<|gA<|lmL Z<|lst (zC [] [] [] Try.func107 (getNum_e b 2 3 hb (by decide) (by decide) (by decide) hl) (trivial) rfl rfl) Z<|lmX (.tup [vI _ _,vB _]) Z<|lxI rfl ?_
  refine AL.slot 31 (int (evC b).key) (congrArg int e1) ?_
  refine lxB Z<|lf 1 ty.F40_1 Z<|lst (zB 2004 ty.co3 ty.inf3 rfl) Z<|nA<|lmL Z<|lst (zC [] [] [] Try.func107 (getNum_e b 7 7 hb (by decide) (by decide) (by decide) hl) (trivial) rfl rfl) Z<|lmX (.tup [vI _ _,vB _]) Z<|lxI rfl ?_
  refine AL.slot 37 (int (evC b).amt) (congrArg int e2) ?_
  refine lxB Z<|lf 4 ty.F40_4 Z<|lst (zB 2004 ty.co3 ty.inf3 Z) Z<|lT [0,2,3,4] [2002,2004] ?_
  refine nA<|lmL Z<|lst (zC [] [] [] Try.func107 (getNum_e b 14 7 hb (by decide) (by decide) (by decide) hl) (trivial) rfl rfl) Z<|lmX (.tup [vI _ _,vB _]) Z<|lxI rfl ?_
  refine AL.slot 43 (int (evC b).fee) (congrArg int e3) ?_
  refine lxB Z<|lf 5 ty.F40_5 Z<|lst (zB 2004 ty.co3 ty.inf3 Z) Z<|nA<|loX (.agg [vI _ _,vI _ _,vI _ _,vI _ _,vI _ _,vI _ _,vB _]) ty.kd40 Z<|lst (zC [] [] [] Try.func49 (eventBody_e (evC b)) (trivial) Z Z) Z<|lmX (.tup [vL _ _ _,vB _]) Z<|lxL Z<|lxB Z<|laL Z<|laB Z<|nG<|aS<|sL<|lmB Z<|luB Z<|lmB Z ?_
  refine AL.bool (t:=53) rfl ?_ ?_
  ·intro h2
   refine lno Z<|lno Z<|lno Z<|lno Z<|lno Z<|lkT Z<|nG<|aY Z<|sL<|lq (rd (x:=.agg [vI _ _,vI _ _,vI _ _,vI _ _,vI _ _,vI _ _,vB false]) (rd_build Z ty.sa40 Z Z Z) Z)<|lst (zB 2002 ty.co40 ty.inf40 Z) Z<|lT [2,3,4] [2002,2004] ?_
   refine laZ Z<|nG<|aR<|rT ?_
   have hF:evF b=false:=by first|exact evF_n1 (by simpa using h2)|exact evF_n2 (by simpa using h2)|exact evF_n1 (by simpa using h1)|exact evF_n2 (by simpa using h1)
   rw[evR_n hF,hF]
   refine end_ret ?_ trivial
   rfl
  ·intro h2
   refine lmL Z<|lq (rd (x:=vV _) (rd_str_p (e:=5) Z Try.underlying56 Try.underlying5 Try.underlying9 Z) Z)<|lmL Z<|lq (rd (x:=vV _) (rd_str_p (e:=5) Z Try.underlying56 Try.underlying5 Try.underlying9 Z) Z)<|lq (rd (x:=vB _) (rd_val Z Z Z (run_strne Try.underlying9 (evX_ok _) hb) Z) Z)<|lkB Z<|nG ?_
   refine AW.cond rfl ?_ ?_
   ·intro h3
    refine sL<|lq (rd (x:=.agg [vI _ _,vI _ _,vI _ _,vI _ _,vI _ _,vI _ _,vB false]) (rd_build Z ty.sa40 Z Z Z) Z)<|lst (zB 2002 ty.co40 ty.inf40 Z) Z<|laZ Z<|nG<|aR<|rT ?_
    have hF:evF b=false:=by first|exact evF_n1 (by simpa using h3)|exact evF_n2 (by simpa using h3)|exact evF_n1 (by simpa using h2)|exact evF_n2 (by simpa using h2)|exact evF_n1 (by simpa using h1)|exact evF_n2 (by simpa using h1)
    rw[evR_n hF,hF]
    refine end_ret ?_ trivial
    rfl
   ·intro h3
    refine aK<|gA<|loX (.agg [vI _ _,vI _ _,vI _ _,vI _ _,vI _ _,vI _ _,vB _]) ty.kd40 Z<|lst (zB 2002 ty.co40 ty.inf40 Z) Z<|laT Z<|nG<|aR ?_
    have hF:evF b=true:=evF_y h22 (by first|(simpa using h2)|(simpa using h3)) (by first|(simpa using h2)|(simpa using h3))
    rw[evR_y hF,hF]
    refine end_ret ?_ trivial
    rfl

theorem spow_e(size:Nat)(hs:size≤7):GC Try.prog 134 [int (size:Int)] [] (int (256 ^ size)) []:=by
 refine gi 2 Try.func134 rfl Try.ntmps134 rfl ?_
 intro L O w0
 refine sL<|laI Z<|nA<|laI Z<|nG<|aS<|sL<|laI Z<|nG<|aB ?_
 refine aW [0,2] [] (D:=Nat) (fun d=>[(4,int (d:Int)),(3,int (256 ^ d))]) (fun d=>[]) (fun d=>d≤size) (fun d=>size-d) (0) (Nat.zero_le _) ⟨rfl,rfl,trivial⟩ trivial ?_
 intro j hI
 replace hI:j≤size:=hI
 refine aS<|sL<|lmI Z<|lmI Z<|lbB Z<|nG ?_
 refine AW.cond rfl ?_ ?_
 ·intro h1
  refine aK<|gT<|aS<|aB ?_
  have hj:j<size:=by have h:=h1;simp only[decide_eq_true_eq]at h;omega
  have hlim:=pow_le (j:=j) (by omega)
  have hpos:(0:Int)≤256 ^ j:=Int.pow_nonneg (by omega)
  refine aL<|lmI Z<|lgI Z<|laI Z<|lN<|gB<|gT<|aL<|lmI Z<|lgI Z<|laI Z<|nG ?_
  refine⟨(j+1),hj,by show size-(j+1)<size-j;omega,⟨(iq rfl),(congrArg int (Int.pow_succ _ _).symm),trivial⟩,trivial,rfl,rfl⟩
 ·intro h1
  refine aE<|eT<|eT<|eB<|gA<|lmI Z<|laI Z<|nG<|aR ?_
  have hj:j=size:=by have h:=h1;simp only[decide_eq_false_iff_not]at h;omega
  subst hj
  refine end_ret ?_ trivial
  rfl
theorem sputNum_o(l:List Int)(n:Int)(size:Nat)(h0:0≤n)(h1:n<256 ^ size)(h7:n<72057594037927936)(hs0:1≤size)(hs:size≤7)(hl:l.length≤200):GC Try.prog 91 [byV l,int n,int (size:Int)] [] (.tup [.own 1,boo true]) [(1,yAr (l++numB size n))]:=by
 refine GC.intro (rs:=[.tmp 6,.tmp 7]) Try.func91 rfl Try.ntmps91 (Nat.le_of_ble_eq_true rfl) ⟨rfl,rfl,trivial⟩ ?_
 intro L O w0
 refine sL<|laV Z<|laZ Z<|nG<|aS<|sL<|lmI Z<|lbB Z<|lsB 11 false rfl (by simp;omega)<|lmZ Z<|lmI Z<|lbB Z<|lsB 14 false rfl (by simp;omega)<|lkZ Z<|lmZ Z<|lmI Z<|lbB Z<|lsB 18 false rfl (by simp;omega)<|lkZ Z<|lmZ Z<|lmI Z<|lmI Z<|lst (zC [] [] [] Try.func134 (spow_e (size) (by omega)) (trivial) rfl rfl) Z<|lT [0,1,2,6,7,20,21,23] [] ?_
 refine lbB Z<|lsB 24 false rfl (by simp;omega)<|lkZ Z<|nG<|aN Z<|aK<|gA<|lst (zS 1 (rowsOf encU []) ty.el56 ty.ze5 rfl (by intro r hr;cases hr)) Z<|lmL Z<|lst (zP 1 ty.el56 ty.ze5 ty.by5 rfl (Src.p rfl) (by first|(simp[rowsOf,numB_length];done)|(simp[rowsOf,numB_length];omega))) Z<|laO Z<|nG<|aS<|sL<|lmI Z<|lgI Z<|laI Z<|nG<|aB ?_
 refine aW [1,6,7] [] (D:=Nat) (fun d=>[(9,int ((size:Int)-1-(d:Int))),(8,.own 1)]) (fun d=>[(1,yAr (l++(numB size n).take d))]) (fun d=>d≤size) (fun d=>size-d) (0) (Nat.zero_le _) ⟨(iq rfl),rfl,trivial⟩ ⟨(by rw[List.take_zero,List.append_nil];rfl),trivial⟩ ?_
 intro j hI
 replace hI:j≤size:=hI
 refine aS<|sL<|lmI Z<|lbB Z<|nG ?_
 refine AW.cond rfl ?_ ?_
 ·intro h1
  refine aK<|gT<|aS<|aB ?_
  have hj:j<size:=by have h:=h1;simp only[ge_iff_le,decide_eq_true_eq]at h;omega
  have htl:((numB size n).take j).length≤7:=by rw[List.length_take,numB_length];omega
  have hpz:(256:Int) ^ (size-1-j)≠0:=Int.ne_of_gt (Int.pow_pos (by omega))
  have hdv:0≤n/256 ^ (size-1-j):=Int.ediv_nonneg h0 (Int.pow_nonneg (by omega))
  have hdl:n/256 ^ (size-1-j)≤n:=Int.ediv_le_self _ h0
  refine aL<|lmO Z<|lmI Z<|lmI Z<|lsN 37 ((size-1-j:Nat):Int) rfl (by omega)<|lst (zC [] [] [] Try.func134 (spow_e (size-1-j) (by omega)) (trivial) rfl rfl) Z<|lT [1,6,7,8,9,35,36,38] [1] ?_
  refine lhI rfl ⟨rfl,hpz,fits_i64 (by rw[Int.tdiv_eq_ediv_of_nonneg h0];unfold i64;omega)⟩<|lsN 39 (n/256 ^ (size-1-j)) rfl (Int.tdiv_eq_ediv_of_nonneg h0) ?_
  refine lhI rfl ⟨rfl,by decide⟩<|lsN 40 (n/256 ^ (size-1-j)%256) rfl (Int.tmod_eq_emod_of_nonneg hdv)<|lq (rd (x:=vI _ _) (rd_conv rfl ty.ik3 ty.ik5 rfl) rfl) ?_
  refine AL.slot 41 (yv (n/256 ^ (size-1-j)%256)) (Eq.trans (b:=yv _) rfl (congrArg yv (by rw[wrap_u8];omega))) ?_
  refine lst (zS 2042 (rowsOf encU [n/256 ^ (size-1-j)%256]) ty.el56 ty.ze5 rfl) Z<|lst (zP 1 ty.el56 ty.ze5 ty.by5 rfl (Src.own rfl rfl) (by first|(simp[rowsOf,numB_length];done)|(simp[rowsOf,numB_length];omega))) Z<|laO Z<|lN<|gB<|gT<|aL<|lmI Z<|lgI Z<|laI Z<|nG ?_
  refine⟨(j+1),hj,by show size-(j+1)<size-j;omega,⟨(iq rfl),rfl,trivial⟩,⟨(Eq.trans (yapp _ _) (put_row hj)),trivial⟩,rfl,rfl⟩
 ·intro h1
  refine aE<|eT<|eT<|eB<|gA<|lmO Z<|laO Z<|laT Z<|nG<|aR ?_
  have hj:j=size:=by have h:=h1;simp only[ge_iff_le,decide_eq_false_iff_not]at h;omega
  subst hj
  refine end_ret ?_ ⟨(congrArg (fun r=>yAr (l++r)) (numB_all _ n)),trivial⟩
  rfl
theorem sgetNum_e(b:List Int)(k size:Nat)(hb:BytesOk b)(hs0:1≤size)(hs:size≤7)(hk:k≤1000)(hl:b.length≤2000000):GC Try.prog 104 [byV b,int (k:Int),int (size:Int)] [] (.tup [int (getB b k size),boo (getF b k size)]) []:=by
 refine GC.intro (rs:=[.tmp 6,.tmp 7]) Try.func104 rfl Try.ntmps104 (Nat.le_of_ble_eq_true rfl) ⟨rfl,rfl,trivial⟩ ?_
 intro L O w0
 refine sL<|laI Z<|laZ Z<|nG<|aS<|sL<|lmI Z<|lbB Z<|lsB 11 false rfl (by simp;omega)<|lmZ Z<|lmI Z<|lbB Z<|lsB 14 false rfl (by simp;omega)<|lkZ Z<|lmZ Z<|lmI Z<|lbB Z<|lsB 18 false rfl (by simp)<|lkZ Z<|lmZ Z<|lmI Z<|lmL Z<|lnI ty.sl56 Z<|lmI rfl ?_
 refine lhI rfl ⟨rfl,fits_i64 (by rw[length_rowsOf];unfold i64;omega)⟩<|lbB Z<|lkB Z<|nG ?_
 refine AW.cond rfl ?_ ?_
 ·intro h1
  refine sL<|laI Z<|laZ Z<|nG<|aR<|rT ?_
  have hkz:¬k+size≤b.length:=by have h:=h1;simp only[gt_iff_lt,decide_eq_true_eq,length_rowsOf]at h;omega
  unfold getB getF
  rw[if_neg hkz,decide_eq_false hkz]
  refine end_ret ?_ trivial
  rfl
 ·intro h1
  refine aK<|gT<|aS ?_
  have hkz:k+size≤b.length:=by have h:=h1;simp only[gt_iff_lt,decide_eq_false_iff_not,length_rowsOf]at h;omega
  have hlen:((b.drop k).take size).length=size:=by rw[List.length_take,List.length_drop];omega
  refine aL<|laI Z<|nG<|aS<|sL<|laI Z<|nG<|aB ?_
  refine aW [0,1,2,6,7] [] (D:=Nat) (fun d=>[(9,int (d:Int)),(8,int (valB (((b.drop k).take size).take d)))]) (fun d=>[]) (fun d=>d≤size) (fun d=>size-d) (0) (Nat.zero_le _) ⟨rfl,rfl,trivial⟩ trivial ?_
  intro j hI
  replace hI:j≤size:=hI
  refine aS<|sL<|lmI Z<|lmI Z<|lbB Z<|nG ?_
  refine AW.cond rfl ?_ ?_
  ·intro h2
   refine aK<|gT<|aS<|aB ?_
   have hj:j<size:=by have h:=h2;simp only[decide_eq_true_eq]at h;omega
   have hjl:j<((b.drop k).take size).length:=by omega
   have hlim:=valB_lim (l:=(b.drop k).take size) ((hb.drop k).take size) hj hs
   have hx:=((hb.drop k).take size) _ (List.getElem_mem hjl)
   have hkj:k+j<b.length:=by omega
   have hbx:b[k+j]=((b.drop k).take size)[j]:=by simp
   refine aL<|lmI Z<|lgI Z<|lmL Z<|lT [0,1,2,6,7,8,9,34,35] [] ?_
   refine lmI Z<|lmI Z<|lgI Z<|lsN 38 ((k+j:Nat):Int) rfl (by omega)<|li ((k+j)) ty.el56 rfl (row_map hkj)<|lrI ty.kd5 Z<|lq (rd (x:=vI _ _) (rd_conv rfl ty.ik5 ty.ik3 rfl) rfl)<|lsN 41 (((b.drop k).take size)[j]) rfl (by rw[IntKind.wrap_i64,←hbx];rw[←hbx]at hx;omega)<|lgI Z<|laI Z<|lN<|gB<|gT<|aL<|lmI Z<|lgI Z<|laI Z<|nG ?_
   refine⟨(j+1),hj,by show size-(j+1)<size-j;omega,⟨(iq rfl),(congrArg int (valB_take hjl).symm),trivial⟩,trivial,rfl,rfl⟩
  ·intro h2
   refine aE<|eT<|eT<|eB<|gA<|lmI Z<|laI Z<|laT Z<|nG<|aR ?_
   have hj:j=size:=by have h:=h2;simp only[decide_eq_false_iff_not]at h;omega
   subst hj
   unfold getF
   rw[getB_y hkz,decide_eq_true hkz,List.take_of_length_le (l:=(b.drop k).take j) (by omega)]
   refine end_ret ?_ trivial
   rfl
theorem sputNum_l(l:List Int)(n:Int)(size:Nat)(h0:0≤n)(h1:n<256 ^ size)(h7:n<72057594037927936)(hs0:1≤size)(hs:size≤7)(hl:l.length≤200):GC Try.prog 91 [.own 2,int n,int (size:Int)] [(2,yAr l)] (.tup [.own 1,boo true]) [(1,yAr (l++numB size n)),(2,yAr l)]:=
 (sputNum_o l n size h0 h1 h7 hs0 hs hl).lent rfl rfl (by intro id hid;simp[ownN,ownNL]at hid;subst hid;rfl) (by intro p hp;simp at hp;subst hp;rfl) (by intro p hp;simp at hp;subst hp;exact⟨rfl,flat_rowsOf⟩) (by intro p hp;simp at hp;subst hp;rfl)
theorem seventBody_o(e:Event):GC Try.prog 43 [evV e] [] (.tup [.own 1,boo (eventOk e)]) [(1,yAr (evX e))]:=by
 refine GC.intro (rs:=[.tmp 2,.tmp 3]) Try.func43 rfl Try.ntmps43 (Nat.le_of_ble_eq_true rfl) ⟨rfl,rfl,trivial⟩ ?_
 intro L O w0
 refine sL<|lst (zX 2001 Z) Z<|laV Z<|laZ Z<|nG<|aS<|sL<|loX (.agg [vI _ _,vI _ _,vI _ _,vI _ _,vI _ _,vI _ _,vB _]) ty.kd40 Z<|lst (zC [] [] [] Try.func42 (seventOk_e e) (trivial) Z Z) Z<|luB Z<|nG ?_
 refine AW.cond rfl ?_ ?_
 ·intro h1
  refine sL<|laV Z<|laZ Z<|nG ?_
  refine AW.adoptT 1 2 5 1 rfl ?_
  refine aR<|rT ?_
  have hok:eventOk e=false:=by simpa using h1
  rw[hok,evX_n hok]
  refine end_ret ?_ ⟨rfl,trivial⟩
  rfl
 ·intro h1
  refine aK<|gT<|aS ?_
  have hok:eventOk e=true:=by simpa using h1
  obtain⟨⟨b1,b2⟩,⟨b3,b4⟩,⟨b5,b6⟩,⟨b7,b8⟩,⟨b9,b10⟩,⟨b11,b12⟩⟩:=evBd hok
  refine aL<|lf 0 ty.F40_0 Z<|loI ty.kd3 Z<|lq (rd (x:=vI _ _) (rd_conv Z ty.ik3 ty.ik5 Z) Z) ?_
  refine AL.slot 10 (yv e.kind) (Eq.trans (b:=yv _) rfl (congrArg yv (by rw[wrap_u8];omega))) ?_
  refine lst (zS 5 (rowsOf encU [69,e.kind]) ty.el56 ty.ze5 rfl (by intro r hr;simp only[rowsOf,List.map_cons,List.map_nil,List.mem_cons,List.not_mem_nil,or_false]at hr;rcases hr with h|h<;>(subst h;rfl))) Z<|laO Z<|nA<|lmO Z<|lf 1 ty.F40_1 Z<|loI ty.kd3 Z<|lst (zC [(1,6),(2,5)] [6,5] [] Try.func91 (sputNum_l ([69,e.kind]) (e.key) 3 (by omega) (by omega) (by omega) (by decide) (by decide) (by first|(simp[numB_length];done)|(simp[numB_length];omega))) (trivial) rfl rfl) Z<|lT [1,2,3,16] [5,6,2001] ?_
  refine lmX (.tup [.own _,vB true]) Z<|lxO Z<|lxX (vB true) Z<|laO Z<|nA<|lmO Z<|lf 2 ty.F40_2 Z<|loI ty.kd3 Z<|lq (rd (x:=vI _ _) (rd_conv Z ty.ik3 ty.ik5 Z) Z) ?_
  refine AL.slot 22 (yv e.ch) (Eq.trans (b:=yv _) rfl (congrArg yv (by rw[wrap_u8];omega))) ?_
  refine lf 3 ty.F40_3 Z<|loI ty.kd3 Z<|lq (rd (x:=vI _ _) (rd_conv Z ty.ik3 ty.ik5 Z) Z) ?_
  refine AL.slot 25 (yv e.to) (Eq.trans (b:=yv _) rfl (congrArg yv (by rw[wrap_u8];omega))) ?_
  refine lst (zS 2026 (rowsOf encU [e.ch,e.to]) ty.el56 ty.ze5 rfl (by intro r hr;simp only[rowsOf,List.map_cons,List.map_nil,List.mem_cons,List.not_mem_nil,or_false]at hr;rcases hr with h|h<;>(subst h;rfl))) Z<|lst (zP 6 ty.el56 ty.ze5 ty.by5 rfl (Src.own rfl rfl) (by first|(simp[rowsOf,numB_length];done)|(simp[rowsOf,numB_length];omega))) Z<|laO Z<|nA<|lmO Z<|lf 4 ty.F40_4 Z<|loI ty.kd3 rfl ?_
  refine lst (St.call [(1,7),(2,6)] [7,6] [] rfl (by intro s hs;cases hs;decide) rfl Try.func91 rfl rfl (sputNum_l ([69,e.kind]++numB 3 e.key++[e.ch,e.to]) (e.amt) 7 (by omega) (by omega) (by omega) (by decide) (by decide) (by first|(simp[numB_length];done)|(simp[numB_length];omega))) ⟨rfl,rfl,rfl⟩ (⟨⟨6,rfl,(Eq.trans (b:=AO.arr 5 1 (rowsOf encU ([69,e.kind]++numB 3 e.key)++rowsOf encU [e.ch,e.to])) rfl (yapp _ _))⟩,trivial⟩) (trivial) rfl) Z<|lT [1,2,3,32] [5,6,7,2001,2026] ?_
  refine lmX (.tup [.own _,vB true]) Z<|lxO Z<|lxX (vB true) Z<|laO Z<|nA<|lmO Z<|lf 5 ty.F40_5 Z<|loI ty.kd3 Z<|lst (zC [(1,1),(2,7)] [1,7] [] Try.func91 (sputNum_l ([69,e.kind]++numB 3 e.key++[e.ch,e.to]++numB 7 e.amt) (e.fee) 7 (by omega) (by omega) (by omega) (by decide) (by decide) (by first|(simp[numB_length];done)|(simp[numB_length];omega))) (trivial) rfl rfl) Z<|lmX (.tup [.own _,vB true]) Z<|lxO Z<|lxX (vB true) Z<|laO Z<|nG<|aS<|sL<|lf 6 ty.F40_6 Z<|loB ty.kd4 Z<|nG ?_
  refine AW.cond rfl ?_ ?_
  ·intro h2
   refine sL<|lmO Z<|lst (zS 2045 (rowsOf encU [1]) ty.el56 ty.ze5 Z) Z<|lT [2,3,4,44,45] [1,5,6,7,2001,2026,2045] ?_
   refine lst (zP 1 ty.el56 ty.ze5 ty.by5 rfl (Src.own rfl rfl) (by first|(simp[rowsOf,numB_length];done)|(simp[rowsOf,numB_length];omega))) Z<|laO Z<|laT Z<|nG<|aR<|rT ?_
   rw[hok,evX_y hok]
   refine end_ret ?_ ⟨(Eq.trans (b:=AO.arr 5 1 (rowsOf encU ([69,e.kind]++numB 3 e.key++[e.ch,e.to]++numB 7 e.amt++numB 7 e.fee)++rowsOf encU [1])) rfl (by rw[←oapp];unfold evB;rw[h2];rfl)),trivial⟩
   rfl
  ·intro h2
   refine aK<|gA<|lmO Z<|lst (zS 2048 (rowsOf encU [0]) ty.el56 ty.ze5 rfl) Z<|lst (zP 1 ty.el56 ty.ze5 ty.by5 rfl (Src.own rfl rfl) (by first|(simp[rowsOf,numB_length];done)|(simp[rowsOf,numB_length];omega))) Z<|laO Z<|laT Z<|nG<|aR ?_
   rw[hok,evX_y hok]
   refine end_ret ?_ ⟨(Eq.trans (b:=AO.arr 5 1 (rowsOf encU ([69,e.kind]++numB 3 e.key++[e.ch,e.to]++numB 7 e.amt++numB 7 e.fee)++rowsOf encU [0])) rfl (by rw[←oapp];unfold evB;rw[h2];rfl)),trivial⟩
   rfl
theorem seventBody_e(e:Event):GC Try.prog 43 [evV e] [] (.tup [byV (evX e),boo (eventOk e)]) []:=(seventBody_o e).frz2
theorem getB_1{b:List Int}{k:Nat}(h:k<b.length):getB b k 1=b.getD k 0:=by
 rw[getB_y (by omega),getD_at h,List.drop_eq_getElem_cons h,List.take_succ_cons,List.take_zero]
 show 0*256+b[k]=b[k]
 omega
def gev(b:List Int):Event:=⟨getB b 1 1,getB b 2 3,getB b 5 1,getB b 6 1,getB b 7 7,getB b 14 7,decide (getB b 21 1=1)⟩
theorem gev_of{b:List Int}(h:b.length=22):gev b=evC b:=by
 obtain⟨e1,e2,e3⟩:=evC_of h
 unfold gev
 rw[getB_1 (by omega),getB_1 (by omega),getB_1 (by omega),getB_1 (by omega),e1,e2,e3]
 unfold evC
 congr 1
theorem gev_y{b:List Int}(h1:eventOk (gev b)=true)(h2:evX (gev b)=b):evF b=true∧gev b=evR b:=by
 have hl:b.length=22:=by rw[←h2,evX_y h1,evB_length]
 have e:=gev_of hl
 have hF:evF b=true:=evF_y hl (by rw[←e];exact h1) (by rw[←e];exact h2)
 exact⟨hF,by rw[evR_y hF,e]⟩
theorem gev_n1{b:List Int}(h:eventOk (gev b)=false):evF b=false:=Bool.eq_false_iff.2 fun q=>by
 have:=(evF_iff.1 q).2.1
 rw[←gev_of (evF_iff.1 q).1,h]at this
 cases this
theorem gev_n2{b:List Int}(h:evX (gev b)≠b):evF b=false:=Bool.eq_false_iff.2 fun q=>h (by
 obtain⟨hl,h1,h2⟩:=evF_iff.1 q
 rw[gev_of hl,evX_y h1,h2])
theorem sbodyEvent_e(b:List Int)(hb:BytesOk b)(hl:b.length≤2000000):GC Try.prog 55 [byV b] [] (.tup [evV (evR b),boo (evF b)]) []:=by
 refine GC.intro (rs:=[.cell 2 40 (some 7),.tmp 3]) Try.func55 rfl Try.ntmps55 (Nat.le_of_ble_eq_true rfl) ⟨rfl,rfl,ty.kd40,rfl,trivial⟩ ?_
 intro L O w0
 refine sL<|lst (zA 2002 ty.ze40 rfl) Z<|laZ Z<|nA<|lq (rd (x:=.agg [vI _ _,vI _ _,vI _ _,vI _ _,vI _ _,vI _ _,vB false]) (rd_build rfl ty.sa40 rfl rfl rfl) rfl)<|lst (zA 2004 ty.ze40 rfl) Z<|lst (zB 2004 ty.co40 ty.inf40 rfl) Z<|nA<|lmL Z<|lst (zC [] [] [] Try.func104 (sgetNum_e b 1 1 hb (by decide) (by decide) (by decide) hl) (trivial) rfl rfl) Z<|lmX (.tup [vI _ _,vB _]) Z<|lxI Z<|lxB Z<|lf 0 ty.F40_0 Z<|lst (zB 2004 ty.co3 ty.inf3 rfl) Z<|nA<|lmL Z<|lst (zC [] [] [] Try.func104 (sgetNum_e b 2 3 hb (by decide) (by decide) (by decide) hl) (trivial) rfl rfl) Z<|lT [0,2,3,4,18] [2002,2004] ?_
 refine lmX (.tup [vI _ _,vB _]) Z<|lxI Z<|lxB Z<|lf 1 ty.F40_1 Z<|lst (zB 2004 ty.co3 ty.inf3 rfl) Z<|nA<|lmL Z<|lst (zC [] [] [] Try.func104 (sgetNum_e b 5 1 hb (by decide) (by decide) (by decide) hl) (trivial) rfl rfl) Z<|lmX (.tup [vI _ _,vB _]) Z<|lxI Z<|lxB Z<|lf 2 ty.F40_2 Z<|lst (zB 2004 ty.co3 ty.inf3 rfl) Z<|nA<|lmL Z<|lst (zC [] [] [] Try.func104 (sgetNum_e b 6 1 hb (by decide) (by decide) (by decide) hl) (trivial) rfl rfl) Z<|lT [0,2,3,4,30] [2002,2004] ?_
 refine lmX (.tup [vI _ _,vB _]) Z<|lxI Z<|lxB Z<|lf 3 ty.F40_3 Z<|lst (zB 2004 ty.co3 ty.inf3 rfl) Z<|nA<|lmL Z<|lst (zC [] [] [] Try.func104 (sgetNum_e b 7 7 hb (by decide) (by decide) (by decide) hl) (trivial) rfl rfl) Z<|lmX (.tup [vI _ _,vB _]) Z<|lxI Z<|lxB Z<|lf 4 ty.F40_4 Z<|lst (zB 2004 ty.co3 ty.inf3 rfl) Z<|nA<|lmL Z<|lst (zC [] [] [] Try.func104 (sgetNum_e b 14 7 hb (by decide) (by decide) (by decide) hl) (trivial) rfl rfl) Z<|lT [0,2,3,4,42] [2002,2004] ?_
 refine lmX (.tup [vI _ _,vB _]) Z<|lxI Z<|lxB Z<|lf 5 ty.F40_5 Z<|lst (zB 2004 ty.co3 ty.inf3 rfl) Z<|nA<|lmL Z<|lst (zC [] [] [] Try.func104 (sgetNum_e b 21 1 hb (by decide) (by decide) (by decide) hl) (trivial) rfl rfl) Z<|lmX (.tup [vI _ _,vB _]) Z<|lxI Z<|lxB Z<|laI Z<|laB Z<|nA<|lmI Z<|lbB Z<|lf 6 ty.F40_6 Z<|lst (zB 2004 ty.co4 ty.inf4 rfl) Z<|lT [0,2,3,4] [2002,2004] ?_
 refine nA<|loX (.agg [vI _ _,vI _ _,vI _ _,vI _ _,vI _ _,vI _ _,vB _]) ty.kd40 Z<|lst (zC [] [] [] Try.func43 (seventBody_e (gev b)) (trivial) Z Z) Z<|lmX (.tup [vL _ _ _,vB _]) Z<|lxL Z<|lxB Z<|laL Z<|laB Z<|nG<|aS<|sL<|lmB Z<|luB Z<|lmB Z ?_
 refine AL.bool (t:=61) rfl ?_ ?_
 ·intro h1
  refine lno Z<|lno Z<|lno Z<|lno Z<|lno Z<|lkT Z<|nG<|aY Z<|sL<|lq (rd (x:=.agg [vI _ _,vI _ _,vI _ _,vI _ _,vI _ _,vI _ _,vB false]) (rd_build Z ty.sa40 Z Z Z) Z)<|lst (zB 2002 ty.co40 ty.inf40 Z) Z<|laZ Z<|nG<|aR<|rT ?_
  have hF:evF b=false:=by first|exact gev_n1 (by simpa using h1)|exact gev_n2 (by simpa using h1)
  rw[evR_n hF,hF]
  refine end_ret ?_ trivial
  rfl
 ·intro h1
  refine lmL Z<|lq (rd (x:=vV _) (rd_str_p (e:=5) Z Try.underlying56 Try.underlying5 Try.underlying9 Z) Z)<|lmL Z<|lq (rd (x:=vV _) (rd_str_p (e:=5) Z Try.underlying56 Try.underlying5 Try.underlying9 Z) Z)<|lq (rd (x:=vB _) (rd_val Z Z Z (run_strne Try.underlying9 (evX_ok _) hb) Z) Z)<|lkB Z<|nG ?_
  refine AW.cond rfl ?_ ?_
  ·intro h2
   refine sL<|lq (rd (x:=.agg [vI _ _,vI _ _,vI _ _,vI _ _,vI _ _,vI _ _,vB false]) (rd_build Z ty.sa40 Z Z Z) Z)<|lst (zB 2002 ty.co40 ty.inf40 Z) Z<|lT [2,3,4] [2002,2004] ?_
   refine laZ Z<|nG<|aR<|rT ?_
   have hF:evF b=false:=by first|exact gev_n1 (by simpa using h2)|exact gev_n2 (by simpa using h2)|exact gev_n1 (by simpa using h1)|exact gev_n2 (by simpa using h1)
   rw[evR_n hF,hF]
   refine end_ret ?_ trivial
   rfl
  ·intro h2
   refine aK<|gA<|loX (.agg [vI _ _,vI _ _,vI _ _,vI _ _,vI _ _,vI _ _,vB _]) ty.kd40 Z<|lst (zB 2002 ty.co40 ty.inf40 Z) Z<|laT Z<|nG<|aR ?_
   obtain⟨hF,hR⟩:=gev_y (b:=b) (by first|(simpa using h1)|(simpa using h2)) (by first|(simpa using h1)|(simpa using h2))
   rw[←hR,hF]
   refine end_ret ?_ trivial
   rfl

section
variable {P:Program}{o:Oper}{τ:Nat→AV}{H:Nat→AO}{X:Nat→Bool}
theorem rd_str_o{s d e:TypeId}{x:Operand}{l:List Int}{id:Nat}{e0:Pin}(ho:o.op=.convert s d x)(hs:P.underlying s=some (.slice e))(he:P.underlying e=some (.int .u8))(hd:P.underlying d=some .string)(hx:ev τ x=.own id)(hH:H id=.arr e0 1 (rowsOf encU l))(hX:X id=false):Rd P o τ H X (strV l):=by
 constructor
 intro L O w0 N ρ fp a w hr
 have h:=hr.ev x
 rw[hx,RV]at h
 have hv:=h.2 (by rw[hH];rfl)
 have hob:=hr.ob id
 rw[hH]at hob
 obtain⟨xs,fr,b1,b2,b3,b4,_⟩:=hob
 have hxs:=rows_flat_u b1
 subst hxs
 refine⟨.string (strOfNums l),RV.v_mk rfl,fun W hK=>?_⟩
 have e1:execOp a.eval o=(do let v ←convert s d (a.eval x);pure (.value v)):=by simp only[execOp,ho]
 rw[e1,hv,Sem.run_bind]
 rcases b3.2 with⟨q,q2⟩|⟨g,cap,cur,q,_,hg,hnc,hcm,_⟩
 ·have:l=[]:=List.length_eq_zero_iff.1 (by rw[length_rowsOf]at q2;exact q2)
  subst this
  rw[q,str_none hs he hd];rfl
 ·obtain⟨hc,hlt⟩:=own_at (fp:=fp id) b3 q
  have hW:W.heap[g]? = w.heap[g]?:=hK.2 g hlt (fun j hj q1 q2=>by
   have hne:j≠id:=fun z=>by subst z;rw[hX]at hj;cases hj
   exact hr.dj j id hne g ((hr.ob j).top q1 q2) (by rw[b4,q];simp[Value.ownBlock]))
  have hcW:CellsAt W g 0 (l.map (Value.int .u8)):=fun j v hj=>by
   rw[World.cell?_of_block (w:=w) (a:=⟨g,0+j,none⟩) hW];exact hc j v hj
  rw[q,str_run hs he hd (length_rowsOf _ _).symm hcW];rfl
end

theorem ssectorOk_e(s:Sector):GC Try.prog 92 [secV s] [] (boo (secOk s)) []:=by
 refine gi 2 Try.func92 rfl Try.ntmps92 rfl ?_
 intro L O w0
 refine sL<|lst (zX 2001 Z) Z<|laZ Z<|nA<|lf 0 ty.F92_0 Z<|loI ty.kd3 Z<|lbB Z<|lmB Z ?_
 refine AL.bool (t:=6) rfl ?_ ?_
 ·intro h1
  refine lf 0 ty.F92_0 Z<|loI ty.kd3 Z<|lbB Z<|lkB Z<|lmB Z ?_
  refine AL.bool (t:=11) rfl ?_ ?_
  ·intro h2
   refine lf 1 ty.F92_1 Z<|loI ty.kd3 Z<|lbB Z<|lkB Z<|lmB Z ?_
   refine AL.bool (t:=16) rfl ?_ ?_
   ·intro h3
    refine lf 1 ty.F92_1 Z<|loI ty.kd3 Z<|lbB Z<|lkB Z<|lmB Z ?_
    refine AL.bool (t:=21) rfl ?_ ?_
    ·intro h4
     refine lf 2 ty.F92_2 Z<|loL ty.kd56 Z<|lnI ty.sl56 Z ?_
     refine AL.slot 24 (int (s.body.length:Int)) (congrArg (fun n:Nat=>int (n:Int)) (length_rowsOf _ _)) ?_
     refine lbB Z<|lkB Z<|laB Z<|nG<|aR ?_
     refine eBo trivial ?_
     unfold secOk inB
     rw[Bool.eq_iff_iff]
     simp only[decide_eq_true_eq,decide_eq_false_iff_not,Bool.and_eq_true,Bool.false_eq_true,false_iff,ge_iff_le]at *
     omega
    ·intro h4
     refine lno Z<|lno Z<|lno Z<|lno Z<|lkZ Z<|laZ Z<|nG<|aR ?_
     refine eBo trivial ?_
     unfold secOk inB
     rw[Bool.eq_iff_iff]
     simp only[decide_eq_true_eq,decide_eq_false_iff_not,Bool.and_eq_true,Bool.false_eq_true,false_iff,ge_iff_le]at *
     omega
   ·intro h3
    refine lno Z<|lno Z<|lno Z<|lkZ Z<|lT [1,2,20] [2001] ?_
    refine lmZ Z<|lno Z<|lno Z<|lno Z<|lno Z<|lkZ Z<|laZ Z<|nG<|aR ?_
    refine eBo trivial ?_
    unfold secOk inB
    rw[Bool.eq_iff_iff]
    simp only[decide_eq_true_eq,decide_eq_false_iff_not,Bool.and_eq_true,Bool.false_eq_true,false_iff,ge_iff_le]at *
    omega
  ·intro h2
   refine lno Z<|lno Z<|lno Z<|lkZ Z<|lmZ Z<|lno Z<|lno Z<|lno Z<|lkZ Z<|lmZ Z<|lno Z<|lno Z<|lno Z<|lno Z<|lkZ Z<|laZ Z<|nG<|aR ?_
   refine eBo trivial ?_
   unfold secOk inB
   rw[Bool.eq_iff_iff]
   simp only[decide_eq_true_eq,decide_eq_false_iff_not,Bool.and_eq_true,Bool.false_eq_true,false_iff,ge_iff_le]at *
   omega
 ·intro h1
  refine lno Z<|lno Z<|lno Z<|lkZ Z<|lmZ Z<|lno Z<|lno Z<|lno Z<|lkZ Z<|lmZ Z<|lno Z<|lno Z<|lno Z<|lkZ Z<|lmZ Z<|lno Z<|lno Z<|lno Z<|lno Z<|lkZ Z<|laZ Z<|nG<|aR ?_
  refine eBo trivial ?_
  unfold secOk inB
  rw[Bool.eq_iff_iff]
  simp only[decide_eq_true_eq,decide_eq_false_iff_not,Bool.and_eq_true,Bool.false_eq_true,false_iff,ge_iff_le]at *
  omega
theorem numB_1{n:Int}(h0:0≤n)(h1:n≤255):numB 1 n=[n]:=by
 show [n/256 ^ 0%256]=[n]
 congr 1
 simp
 omega
theorem ssectorBytes_o(s:Sector):GC Try.prog 44 [secV s] [] (.tup [.own 1,boo (secOk s)]) [(1,yAr (secX s))]:=by
 refine GC.intro (rs:=[.tmp 2,.tmp 3]) Try.func44 rfl Try.ntmps44 (Nat.le_of_ble_eq_true rfl) ⟨rfl,rfl,trivial⟩ ?_
 intro L O w0
 refine sL<|lst (zX 2001 Z) Z<|laV Z<|laZ Z<|nG<|aS<|sL<|loX (.agg [vI _ _,vI _ _,vL _ _ _]) ty.kd92 Z<|lst (zC [] [] [] Try.func92 (ssectorOk_e s) (trivial) Z Z) Z<|luB Z<|nG ?_
 refine AW.cond rfl ?_ ?_
 ·intro h1
  refine sL<|laV Z<|laZ Z<|nG ?_
  refine AW.adoptT 1 2 5 1 rfl ?_
  refine aR<|rT ?_
  have hok:secOk s=false:=by simpa using h1
  rw[hok,secX_n hok]
  refine end_ret ?_ ⟨rfl,trivial⟩
  rfl
 ·intro h1
  refine aK<|gT<|aS ?_
  have hok:secOk s=true:=by simpa using h1
  obtain⟨⟨a1,a2⟩,⟨b1,b2⟩,hl⟩:=secOk_iff.1 hok
  refine aL<|lst (zS 5 (rowsOf encU [74]) ty.el56 ty.ze5 rfl) Z<|lf 0 ty.F92_0 Z<|loI ty.kd3 Z<|lst (zC [(1,6),(2,5)] [6,5] [] Try.func91 (sputNum_l ([74]) (s.seq) 3 (by omega) (by omega) (by omega) (by decide) (by decide) (by first|(simp[numB_length];done)|(simp[numB_length];omega))) (trivial) rfl rfl) Z<|lmX (.tup [.own _,vB true]) Z<|lxO Z<|lxX (vB true) Z<|laO Z<|laT Z<|nA<|lmO Z<|lf 1 ty.F92_1 Z<|loI ty.kd3 Z<|lst (zC [(1,7),(2,6)] [7,6] [] Try.func91 (sputNum_l ([74]++numB 3 s.seq) (s.epoch) 3 (by omega) (by omega) (by omega) (by decide) (by decide) (by first|(simp[numB_length];done)|(simp[numB_length];omega))) (trivial) rfl rfl) Z<|lT [1,2,3,20] [5,6,7,2001] ?_
  refine lmX (.tup [.own _,vB true]) Z<|lxO Z<|lxX (vB true) Z<|laO Z<|nA<|lmO Z<|lf 2 ty.F92_2 Z<|loL ty.kd56 Z<|lnI ty.sl56 Z ?_
  refine AL.slot 27 (int (s.body.length:Int)) (congrArg (fun n:Nat=>int (n:Int)) (length_rowsOf _ _)) ?_
  refine lst (zC [(1,8),(2,7)] [8,7] [] Try.func91 (sputNum_l ([74]++numB 3 s.seq++numB 3 s.epoch) ((s.body.length:Int)) 1 (by omega) (by omega) (by omega) (by decide) (by decide) (by first|(simp[numB_length];done)|(simp[numB_length];omega))) (trivial) rfl rfl) Z<|lmX (.tup [.own _,vB true]) Z<|lxO Z<|lxX (vB true) Z<|laO Z<|nA<|lmO Z<|lf 2 ty.F92_2 Z<|loL ty.kd56 Z<|lst (zP 8 ty.el56 ty.ze5 ty.by5 rfl (Src.p rfl) (by first|(simp[rowsOf,numB_length];done)|(simp[rowsOf,numB_length];omega))) Z<|lT [1,2,3,34] [5,6,7,8,2001] ?_
  refine laO Z<|nG ?_
  refine AW.obj 8 (yAr ([74]++numB 3 s.seq++numB 3 s.epoch++[(s.body.length:Int)]++s.body)) ((Eq.trans (b:=AO.arr 5 1 (rowsOf encU ([74]++numB 3 s.seq++numB 3 s.epoch++numB 1 (s.body.length:Int))++rowsOf encU s.body)) rfl (by rw[numB_1 (by omega) (by omega),←oapp]))) ?_
  refine sL<|lmO Z<|lmO Z<|lnI ty.sl56 Z ?_
  refine AL.slot 37 (int ((8+s.body.length:Nat):Int)) (Eq.trans (b:=int _) rfl (congrArg (fun n:Nat=>int (n:Int)) (by rw[length_rowsOf];first|(simp[numB_length];done)|(simp[numB_length];omega)))) ?_
  refine lgI Z<|lst (St.appZ 8 (m:=114-s.body.length) rfl rfl (by decide) ty.el56 ty.ze5 rfl ty.ik3 rfl rfl rfl ?hn1 (by rw[length_rowsOf];first|(simp;done)|(simp;omega)) (by omega) (by rw[length_rowsOf];simp[numB_length,maxLen];omega) (Nat.le_trans (Nat.mul_le_mul_left _ ty.by5) (by rw[length_rowsOf];simp[numB_length];omega))) rfl ?_
  case hn1=>omega
  refine laO Z<|nG ?_
  refine AW.obj 8 (yAr ([74]++numB 3 s.seq++numB 3 s.epoch++[(s.body.length:Int)]++s.body++List.replicate (114-s.body.length) 0)) ((Eq.trans (b:=AO.arr 5 1 (rowsOf encU ([74]++numB 3 s.seq++numB 3 s.epoch++[(s.body.length:Int)]++s.body)++List.replicate (114-s.body.length) [PV.v (.int .u8 0)])) rfl (by rw[zero_rows,←oapp]))) ?_
  refine sL<|lmO Z<|lf 0 ty.F92_0 Z<|loI ty.kd3 Z<|lst (zC [(1,9),(2,8)] [9,8] [] Try.func91 (sputNum_l ([74]++numB 3 s.seq++numB 3 s.epoch++[(s.body.length:Int)]++s.body++List.replicate (114-s.body.length) 0) (s.seq) 3 (by omega) (by omega) (by omega) (by decide) (by decide) (by first|(simp[numB_length];done)|(simp[numB_length];omega))) (trivial) rfl rfl) Z<|lmX (.tup [.own _,vB true]) Z<|lxO Z<|lxX (vB true) Z<|laO Z<|nA<|lmO Z<|lf 1 ty.F92_1 Z<|loI ty.kd3 Z<|lst (zC [(1,1),(2,9)] [1,9] [] Try.func91 (sputNum_l ([74]++numB 3 s.seq++numB 3 s.epoch++[(s.body.length:Int)]++s.body++List.replicate (114-s.body.length) 0++numB 3 s.seq) (s.epoch) 3 (by omega) (by omega) (by omega) (by decide) (by decide) (by first|(simp[numB_length];done)|(simp[numB_length];omega))) (trivial) rfl rfl) Z<|lT [2,3,50] [1,5,6,7,8,9,2001] ?_
  refine lxO Z<|lxX (vB true) Z<|laO Z<|laT Z<|nG<|aR ?_
  rw[hok,secX_y hok]
  refine end_ret ?_ ⟨rfl,trivial⟩
  rfl
theorem ssectorBytes_e(s:Sector):GC Try.prog 44 [secV s] [] (.tup [byV (secX s),boo (secOk s)]) []:=(ssectorBytes_o s).frz2
theorem ssectorBytes_l{u:Value}(s:Sector):GC Try.prog 44 [.agg [int s.seq,int s.epoch,.own 2]] [(2,.arr ⟨5,some u⟩ 1 (rowsOf encU s.body))] (.tup [.own 1,boo (secOk s)]) [(1,yAr (secX s)),(2,.arr ⟨5,some u⟩ 1 (rowsOf encU s.body))]:=
 (ssectorBytes_o s).lent rfl rfl (by intro id hid;simp[ownN,ownNL]at hid;subst hid;rfl) (by intro p hp;simp at hp;subst hp;rfl) (by intro p hp;simp at hp;subst hp;exact⟨rfl,flat_rowsOf⟩) (by intro p hp;simp at hp;subst hp;rfl)
def gsC(b:List Int):Sector:=⟨getB b 1 3,getB b 4 3,(b.drop 8).take (getB b 7 1).toNat⟩
def gs0(b:List Int):Sector:=⟨getB b 1 3,getB b 4 3,[]⟩
theorem gsC_of{b:List Int}(h:b.length=128):gsC b=secC b:=by
 obtain⟨e1,e2⟩:=secC_of h
 unfold gsC
 rw[getB_1 (by omega),e1,e2]
 rfl
theorem gs_y{b:List Int}(h:b.length=128)(hn:getB b 7 1≤100)(h1:secOk (gsC b)=true)(h2:secX (gsC b)=b):secF b=true:=by
 rw[gsC_of h]at h1 h2
 rw[getB_1 (by omega),get7 (by omega)]at hn
 exact secF_y h (by omega) hn h1 h2
theorem gs_n1{b:List Int}(h:b.length=128)(h1:secOk (gsC b)=false):secF b=false:=secF_n2 (by rwa [gsC_of h]at h1)
theorem gs_n2{b:List Int}(h:b.length=128)(h1:secX (gsC b)≠b):secF b=false:=secF_n3 (by rwa [gsC_of h]at h1)
theorem gs_n3{b:List Int}(h:¬(getB b 7 1≤100∧b.length=128)):secF b=false:=Bool.eq_false_iff.2 fun q=>h (by
 obtain⟨q1,q2,_⟩:=secF_iff.1 q
 exact⟨by rw[getB_1 (by omega)];exact q2,q1⟩)
theorem gs0_y{b:List Int}(h1:secOk (gs0 b)=true)(h2:secX (gs0 b)=b):getB b 7 1≤100∧b.length=128:=by
 rw[secX_y h1]at h2
 have hl:b.length=128:=by rw[←h2];exact secB_length (by show 0≤100;omega)
 refine⟨?_,hl⟩
 have e:=secC_secB h1
 rw[h2]at e
 have e2:((b.drop 8).take (b.getD 7 0).toNat).length=0:=by
  have:(secC b).body=[]:=by rw[e];rfl
  have:=congrArg List.length this
  exact this
 rw[List.length_take,List.length_drop]at e2
 rw[getB_1 (by omega)]
 omega
def secRelO(b:List Int):AV→List (Nat×AO)→Prop:=fun y ob=>secF b=true∧y=.tup [.agg [int (secC b).seq,int (secC b).epoch,.own 1],boo true]∧ob=[(1,yAr (secC b).body)]∨secF b=false∧y=.tup [.agg [int 0,int 0,.p (.v (.slice none 0 0))],boo false]∧ob=[]
theorem GX.secO{f:FuncId}{b:List Int}(h:GX Try.prog f [byV b] [] (secRelO b)):GX Try.prog f [byV b] [] (secRel b):=
 (GX.frozen (Z:=fun y=>secRel b y []) h fun x ob q=>by
   rcases q with⟨h1,rfl,rfl⟩|⟨h1,rfl,rfl⟩
   ·exact⟨_,Still.tup (.cons (Still.agg (.cons (Still.p _) (.cons (Still.p _) (.cons (Still.row (e:=⟨5,none⟩) (sz:=1) (rows:=rowsOf encU (secC b).body) rfl) .nil)))) (.cons (Still.p _) .nil)),rfl,.inl ⟨h1,rfl⟩⟩
   ·exact⟨_,Still.tup (.cons (Still.agg (.cons (Still.p _) (.cons (Still.p _) (.cons (Still.p _) .nil)))) (.cons (Still.p _) .nil)),rfl,.inr ⟨h1,rfl⟩⟩).mono fun y o ⟨e1,e2⟩=>by subst e1;exact e2
theorem ssectorRead_0(b:List Int)(hb:BytesOk b)(hl:b.length≤2000000):GX Try.prog 77 [byV b] [] (secRelO b):=by
 refine GX.intro (rs:=[.cell 2 92 (some 3),.tmp 3]) Try.func77 rfl Try.ntmps77 (Nat.le_of_ble_eq_true rfl) ⟨rfl,rfl,ty.kd92,rfl,trivial⟩ ?_
 intro L O w0
 refine sL<|lst (zA 2002 ty.ze92 rfl) Z<|laZ Z<|nA<|lq (rd (x:=.agg [vI _ _,vI _ _,vV _]) (rd_build rfl ty.sa92 rfl rfl rfl) rfl)<|lst (zA 3 ty.ze92 rfl) Z<|lst (zB 3 ty.co92 ty.inf92 rfl) Z<|nA<|lmL Z<|lst (zC [] [] [] Try.func104 (sgetNum_e b 1 3 hb (by decide) (by decide) (by decide) hl) (trivial) rfl rfl) Z<|lmX (.tup [vI _ _,vB _]) Z<|lxI Z<|lxB Z<|lf 0 ty.F92_0 Z<|lst (zB 3 ty.co3 ty.inf3 rfl) Z<|nA<|lmL Z<|lst (zC [] [] [] Try.func104 (sgetNum_e b 4 3 hb (by decide) (by decide) (by decide) hl) (trivial) rfl rfl) Z<|lT [0,2,3,4,18] [3,2002] ?_
 refine lmX (.tup [vI _ _,vB _]) Z<|lxI Z<|lxB Z<|lf 1 ty.F92_1 Z<|lst (zB 3 ty.co3 ty.inf3 rfl) Z<|nA<|lmL Z<|lst (zC [] [] [] Try.func104 (sgetNum_e b 7 1 hb (by decide) (by decide) (by decide) hl) (trivial) rfl rfl) Z<|lmX (.tup [vI _ _,vB _]) Z<|lxI Z<|lxB Z<|laI Z<|laB Z<|nG<|aS<|sL<|lmI Z<|lbB Z<|lmB rfl ?_
 refine AL.bool (t:=29) rfl ?_ ?_
 ·intro h1
  refine lmL Z<|lnI ty.sl56 Z<|lbB Z<|lkB Z<|nG ?_
  refine AW.cond rfl ?_ ?_
  ·intro h2
   have hn:getB b 7 1≤100:=by first|(have h:=h1;simp at h;omega)|(have h:=h2;simp at h;omega)
   have h128:b.length=128:=by first|(have h:=h1;simp[length_rowsOf]at h;omega)|(have h:=h2;simp[length_rowsOf]at h;omega)
   have h7:7<b.length:=by omega
   have hg:0≤getB b 7 1:=by rw[getB_1 h7,get7 h7];exact(hb _ (List.getElem_mem h7)).1
   refine aL<|lst (zS 1 (rowsOf encU []) ty.el56 ty.ze5 rfl (by intro r hr;cases hr)) Z<|lT [0,2,3,4,5,34] [1,3,2002] ?_
   refine lmL Z<|lmI Z<|lgI Z<|lsN 37 ((8+(getB b 7 1).toNat:Nat):Int) rfl (by omega) ?_
   refine lq (rd (x:=vL _ _ _) (rd_slc_p (l:=8) (h:=8+(getB b 7 1).toNat) rfl ty.el56 rfl ⟨_,rfl⟩ ⟨_,rfl⟩ (by omega) (by rw[length_rowsOf];omega)) rfl) ?_
   refine AL.slot 38 (byV ((b.drop 8).take (getB b 7 1).toNat)) (Eq.trans (b:=.p (.lst 5 1 (((rowsOf encU b).take (8+(getB b 7 1).toNat)).drop 8))) rfl (congrArg (fun r=>AV.p (.lst 5 1 r)) take_drop_rows)) ?_
   refine lst (zP 1 ty.el56 ty.ze5 ty.by5 rfl (Src.p rfl) (by first|(simp[rowsOf,numB_length];done)|(simp[rowsOf,numB_length];omega))) Z<|lf 2 ty.F92_2 Z<|lst (zB 3 ty.co56 ty.inf56 rfl) Z<|nG ?_
   refine AW.obj 1 (yAr ((b.drop 8).take (getB b 7 1).toNat)) ((Eq.trans (b:=AO.arr 5 1 (rowsOf encU []++rowsOf encU ((b.drop 8).take (getB b 7 1).toNat))) rfl rfl)) ?_
   refine aS ?_
   refine AW.pinA 1 rfl ?_
   intro u1
   refine aL<|loX (.agg [vI _ _,vI _ _,.own _]) ty.kd92 Z ?_
   refine lst (zC [(1,4),(2,1)] [4] [2] Try.func44 (ssectorBytes_l (gsC b)) (⟨stays.arr rfl,trivial⟩) rfl rfl) Z<|lmX (.tup [.own _,vB _]) Z<|lxO Z<|lxB Z<|laO Z<|laB Z<|nG ?_
   refine AW.unpin 1 rfl ?_
   refine aS<|sL<|lmB Z<|luB Z<|lmB Z ?_
   refine AL.bool (t:=48) rfl ?_ ?_
   ·intro h3
    refine lno Z<|lno Z<|lno Z<|lno Z<|lno Z<|lkT Z<|nG<|aY Z<|sL<|lq (rd (x:=.agg [vI _ _,vI _ _,vV _]) (rd_build Z ty.sa92 Z Z Z) Z)<|lst (zB 2002 ty.co92 ty.inf92 Z) Z<|lT [2,3,4] [1,3,4,2002] ?_
    refine laZ Z<|nG<|aR<|rT ?_
    have hF:secF b=false:=by first|exact gs_n1 h128 (by simpa using h3)|exact gs_n2 h128 (by simpa using h3)|exact gs_n1 h128 (by simpa using h2)|exact gs_n2 h128 (by simpa using h2)|exact gs_n1 h128 (by simpa using h1)|exact gs_n2 h128 (by simpa using h1)
    refine end_xret ((.tup [.agg [int 0,int 0,.p (.v (.slice none 0 0))],boo false])) [] ?_ rfl trivial
    exact .inr ⟨hF,rfl,rfl⟩
   ·intro h3
    refine lmO Z<|lq (rd (x:=vV _) (rd_str_o (e:=5) rfl Try.underlying56 Try.underlying5 Try.underlying9 rfl rfl rfl) rfl)<|lmL Z<|lq (rd (x:=vV _) (rd_str_p (e:=5) rfl Try.underlying56 Try.underlying5 Try.underlying9 rfl) rfl)<|lq (rd (x:=vB _) (rd_val rfl rfl rfl (run_strne Try.underlying9 (secX_ok (by first|exact .nil|exact(hb.drop 8).take _)) hb) rfl) rfl)<|lkB Z<|nG ?_
    refine AW.cond rfl ?_ ?_
    ·intro h4
     refine sL<|lq (rd (x:=.agg [vI _ _,vI _ _,vV _]) (rd_build Z ty.sa92 Z Z Z) Z)<|lst (zB 2002 ty.co92 ty.inf92 Z) Z<|laZ Z<|nG<|aR<|rT ?_
     have hF:secF b=false:=by first|exact gs_n1 h128 (by simpa using h4)|exact gs_n2 h128 (by simpa using h4)|exact gs_n1 h128 (by simpa using h3)|exact gs_n2 h128 (by simpa using h3)|exact gs_n1 h128 (by simpa using h2)|exact gs_n2 h128 (by simpa using h2)|exact gs_n1 h128 (by simpa using h1)|exact gs_n2 h128 (by simpa using h1)
     refine end_xret ((.tup [.agg [int 0,int 0,.p (.v (.slice none 0 0))],boo false])) [] ?_ rfl trivial
     exact .inr ⟨hF,rfl,rfl⟩
    ·intro h4
     refine aK<|gA<|loX (.agg [vI _ _,vI _ _,.own _]) ty.kd92 Z<|lst (zB 2002 ty.co92 ty.inf92 Z) Z<|laT Z<|nG<|aR ?_
     have hF:=gs_y h128 hn (by first|(simpa using h1)|(simpa using h2)|(simpa using h3)|(simpa using h4)) (by first|(simpa using h1)|(simpa using h2)|(simpa using h3)|(simpa using h4))
     have hC:=gsC_of h128
     refine end_xret ((.tup [.agg [int (gsC b).seq,int (gsC b).epoch,.own 1],boo true])) [(1,yAr (gsC b).body)] ?_ rfl ⟨rfl,trivial⟩
     exact .inl ⟨hF,by rw[hC],by rw[hC]⟩
  ·intro h2
   refine aK<|gT<|aS ?_
   have hno:¬(getB b 7 1≤100∧b.length=128):=by first|(have h:=h2;simp[length_rowsOf]at h;omega)
   refine AW.adoptB 1 3 2 5 1 rfl (by decide) rfl ?_
   refine AW.pinA 1 rfl ?_
   intro u1
   refine aL<|loX (.agg [vI _ _,vI _ _,.own _]) ty.kd92 Z ?_
   refine lst (zC [(1,4),(2,1)] [4] [2] Try.func44 (ssectorBytes_l (gs0 b)) (⟨stays.arr rfl,trivial⟩) rfl rfl) Z<|lT [0,2,3,4,43] [1,3,4,2002] ?_
   refine lmX (.tup [.own _,vB _]) Z<|lxO Z<|lxB Z<|laO Z<|laB Z<|nG ?_
   refine AW.unpin 1 rfl ?_
   refine aS<|sL<|lmB Z<|luB Z<|lmB Z ?_
   refine AL.bool (t:=48) rfl ?_ ?_
   ·intro h5
    refine lno Z<|lno Z<|lno Z<|lno Z<|lno Z<|lkT Z<|nG<|aY Z<|sL<|lq (rd (x:=.agg [vI _ _,vI _ _,vV _]) (rd_build Z ty.sa92 Z Z Z) Z)<|lst (zB 2002 ty.co92 ty.inf92 Z) Z<|laZ Z<|nG<|aR<|rT ?_
    have hF:secF b=false:=gs_n3 hno
    refine end_xret ((.tup [.agg [int 0,int 0,.p (.v (.slice none 0 0))],boo false])) [] ?_ rfl trivial
    exact .inr ⟨hF,rfl,rfl⟩
   ·intro h5
    refine lmO Z<|lq (rd (x:=vV _) (rd_str_o (e:=5) rfl Try.underlying56 Try.underlying5 Try.underlying9 rfl rfl rfl) rfl)<|lmL Z<|lq (rd (x:=vV _) (rd_str_p (e:=5) rfl Try.underlying56 Try.underlying5 Try.underlying9 rfl) rfl)<|lq (rd (x:=vB _) (rd_val rfl rfl rfl (run_strne Try.underlying9 (secX_ok (by first|exact .nil|exact(hb.drop 8).take _)) hb) rfl) rfl)<|lkB Z<|nG ?_
    refine AW.cond rfl ?_ ?_
    ·intro h6
     refine sL<|lq (rd (x:=.agg [vI _ _,vI _ _,vV _]) (rd_build Z ty.sa92 Z Z Z) Z)<|lst (zB 2002 ty.co92 ty.inf92 Z) Z<|lT [2,3,4] [1,3,4,2002] ?_
     refine laZ Z<|nG<|aR<|rT ?_
     have hF:secF b=false:=gs_n3 hno
     refine end_xret ((.tup [.agg [int 0,int 0,.p (.v (.slice none 0 0))],boo false])) [] ?_ rfl trivial
     exact .inr ⟨hF,rfl,rfl⟩
    ·intro h6
     refine aK<|gA<|loX (.agg [vI _ _,vI _ _,.own _]) ty.kd92 Z<|lst (zB 2002 ty.co92 ty.inf92 Z) Z<|laT Z<|nG<|aR ?_
     have hF:=hno (gs0_y (by first|(simpa using h1)|(simpa using h2)|(simpa using h5)|(simpa using h6)) (by first|(simpa using h1)|(simpa using h2)|(simpa using h5)|(simpa using h6)))
     refine end_xret ((.tup [.agg [int (getB b 1 3),int (getB b 4 3),.own 1],boo true])) [] ?_ rfl trivial
     exact hF.elim
 ·intro h1
  refine lno Z<|lno Z<|lno Z<|lkZ Z<|nG<|aN Z<|aK<|gT<|aS ?_
  have hno:¬(getB b 7 1≤100∧b.length=128):=by first|(have h:=h1;simp[length_rowsOf]at h;omega)
  refine AW.adoptB 1 3 2 5 1 rfl (by decide) rfl ?_
  refine AW.pinA 1 rfl ?_
  intro u1
  refine aL<|loX (.agg [vI _ _,vI _ _,.own _]) ty.kd92 Z ?_
  refine lst (zC [(1,4),(2,1)] [4] [2] Try.func44 (ssectorBytes_l (gs0 b)) (⟨stays.arr rfl,trivial⟩) rfl rfl) Z<|lmX (.tup [.own _,vB _]) Z<|lxO Z<|lxB Z<|laO Z<|laB Z<|nG ?_
  refine AW.unpin 1 rfl ?_
  refine aS<|sL<|lmB Z<|luB Z<|lmB Z ?_
  refine AL.bool (t:=48) rfl ?_ ?_
  ·intro h7
   refine lno Z<|lno Z<|lno Z<|lno Z<|lno Z<|lkT Z<|nG<|aY Z<|sL<|lq (rd (x:=.agg [vI _ _,vI _ _,vV _]) (rd_build Z ty.sa92 Z Z Z) Z)<|lst (zB 2002 ty.co92 ty.inf92 Z) Z<|lT [2,3,4] [1,3,4,2002] ?_
   refine laZ Z<|nG<|aR<|rT ?_
   have hF:secF b=false:=gs_n3 hno
   refine end_xret ((.tup [.agg [int 0,int 0,.p (.v (.slice none 0 0))],boo false])) [] ?_ rfl trivial
   exact .inr ⟨hF,rfl,rfl⟩
  ·intro h7
   refine lmO Z<|lq (rd (x:=vV _) (rd_str_o (e:=5) rfl Try.underlying56 Try.underlying5 Try.underlying9 rfl rfl rfl) rfl)<|lmL Z<|lq (rd (x:=vV _) (rd_str_p (e:=5) rfl Try.underlying56 Try.underlying5 Try.underlying9 rfl) rfl)<|lq (rd (x:=vB _) (rd_val rfl rfl rfl (run_strne Try.underlying9 (secX_ok (by first|exact .nil|exact(hb.drop 8).take _)) hb) rfl) rfl)<|lkB Z<|nG ?_
   refine AW.cond rfl ?_ ?_
   ·intro h8
    refine sL<|lq (rd (x:=.agg [vI _ _,vI _ _,vV _]) (rd_build Z ty.sa92 Z Z Z) Z)<|lst (zB 2002 ty.co92 ty.inf92 Z) Z<|laZ Z<|nG<|aR<|rT ?_
    have hF:secF b=false:=gs_n3 hno
    refine end_xret ((.tup [.agg [int 0,int 0,.p (.v (.slice none 0 0))],boo false])) [] ?_ rfl trivial
    exact .inr ⟨hF,rfl,rfl⟩
   ·intro h8
    refine aK<|gA<|loX (.agg [vI _ _,vI _ _,.own _]) ty.kd92 Z<|lst (zB 2002 ty.co92 ty.inf92 Z) Z<|laT Z<|nG<|aR ?_
    have hF:=hno (gs0_y (by first|(simpa using h1)|(simpa using h7)|(simpa using h8)) (by first|(simpa using h1)|(simpa using h7)|(simpa using h8)))
    refine end_xret ((.tup [.agg [int (getB b 1 3),int (getB b 4 3),.own 1],boo true])) [] ?_ rfl trivial
    exact hF.elim
theorem ssectorRead_e(b:List Int)(hb:BytesOk b)(hl:b.length≤2000000):GC Try.prog 77 [byV b] [] (.tup [secV (secR b),boo (secF b)]) []:=GX.sec (GX.secO (ssectorRead_0 b hb hl))
end Go.Proofs.Yteblcdnhnckkaaa

