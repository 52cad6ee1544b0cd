/- Texts of the proof of FnLogEvents, joined: LogN, EO1, EO2, EO3, EO4, EO5, EO6, EO8, EO9, EA5, EA6. -/
import Derived.Test.YteblcdnhnckkaaaJLogEvents5
import Derived.Test.YteblcdnhnckkaaaJLogEvents3
namespace Go.Proofs.Yteblcdnhnckkaaa
open Go.RowKit
set_option linter.unusedSimpArgs false
set_option linter.unusedVariables false
abbrev byV(l:List Int):AV:=bytesV 5 l
abbrev lstB(b:List Int):PV:=.lst 5 1 (rowsOf encU b)
def rowsC(cs:List Cell):List (List PV):=cs.map fun c=>[lstB c.bytes]
def rowsW(ws:List Write):List (List PV):=ws.map fun w=>[.v (.int .i64 w.at_),lstB w.bytes]
abbrev diskV(d:Disk):AV:=.agg [.p (.lst 115 1 (rowsC d.cells)),.p (.lst 123 2 (rowsW d.dirty))]
abbrev logV(l:Log):AV:=.agg [.p (.lst 115 1 (rowsC l.disk.cells)),.p (.lst 123 2 (rowsW l.disk.dirty)),int l.next,int l.epoch]
def rowsCV(vs:List Value):List (List PV):=vs.map fun v=>[.v v]
def rowsWV(vs:List Value)(ws:List Write):List (List PV):=List.zipWith (fun v (w:Write)=>[.v (.int .i64 w.at_),.v v]) vs ws
def famB(vs:List Value)(bs:List (List Int)):List AO:=List.zipWith (fun v b=>.arr ⟨5,some v⟩ 1 (rowsOf encU b)) vs bs
abbrev byC(cs:List Cell):List (List Int):=cs.map Cell.bytes
abbrev byW(ws:List Write):List (List Int):=ws.map Write.bytes
theorem rowsC_len(cs:List Cell):(rowsC cs).length=cs.length:=List.length_map _
theorem rowsW_len(ws:List Write):(rowsW ws).length=ws.length:=List.length_map _
theorem rowsC_at{cs:List Cell}{i:Nat}(h:i<cs.length):(rowsC cs)[i]? = some [lstB cs[i].bytes]:=row_map h
theorem rowsW_at{ws:List Write}{i:Nat}(h:i<ws.length):(rowsW ws)[i]? = some [.v (.int .i64 ws[i].at_),lstB ws[i].bytes]:=row_map h
theorem rowsCV_len(vs:List Value):(rowsCV vs).length=vs.length:=List.length_map _
theorem rowsWV_len{vs:List Value}{ws:List Write}(h:vs.length=ws.length):(rowsWV vs ws).length=ws.length:=by unfold rowsWV;rw[List.length_zipWith];omega
theorem famB_len{vs:List Value}{bs:List (List Int)}(h:vs.length=bs.length):(famB vs bs).length=bs.length:=by unfold famB;rw[List.length_zipWith];omega
theorem rowsCV_app{vs:List Value}{u:Value}:rowsCV (vs++[u])=rowsCV vs++[[.v u]]:=List.map_append
theorem rowsWV_app{vs:List Value}{ws:List Write}{u:Value}{w:Write}(h:vs.length=ws.length):rowsWV (vs++[u]) (ws++[w])=rowsWV vs ws++[[.v (.int .i64 w.at_),.v u]]:=by unfold rowsWV;rw[List.zipWith_append h];rfl
theorem famB_app{vs:List Value}{bs:List (List Int)}{u:Value}{b:List Int}(h:vs.length=bs.length):famB (vs++[u]) (bs++[b])=famB vs bs++[.arr ⟨5,some u⟩ 1 (rowsOf encU b)]:=by unfold famB;rw[List.zipWith_append h];rfl
theorem famB_row:∀ {vs:List Value} {bs:List (List Int)},rowF (famB vs bs)
 |[],_=>by unfold famB;simp;exact rowF.nil
 |_::_,[]=>by unfold famB;simp;exact rowF.nil
 |v::vs,p::bs=>fun o ho=>by
  unfold famB at ho
  rw[List.zipWith_cons_cons]at ho
  rcases List.mem_cons.1 ho with rfl|ho
  ·rfl
  ·exact famB_row (vs:=vs) (bs:=bs) o ho
theorem rowsCV_at{vs:List Value}{i:Nat}(hi:i<vs.length):(rowsCV vs)[i]? = some [.v vs[i]]:=row_map hi
theorem rowsWV_at{vs:List Value}{ws:List Write}{i:Nat}(h:vs.length=ws.length)(hi:i<ws.length):(rowsWV vs ws)[i]? = some [.v (.int .i64 ws[i].at_),.v (vs[i]'(by omega))]:=by
 unfold rowsWV
 rw[List.getElem?_zipWith,List.getElem?_eq_getElem hi,List.getElem?_eq_getElem (by omega)]
theorem famB_at{vs:List Value}{bs:List (List Int)}{i:Nat}(h:vs.length=bs.length)(hi:i<bs.length):(famB vs bs)[i]? = some (.arr ⟨5,some (vs[i]'(by omega))⟩ 1 (rowsOf encU bs[i])):=by
 unfold famB
 rw[List.getElem?_zipWith,List.getElem?_eq_getElem hi,List.getElem?_eq_getElem (by omega)]
theorem deepCV{H:Nat→AO}{F:List AO}(hT:Tl H F){vs:List Value}{cs:List Cell}(h:vs.length=cs.length){s:Nat}(hF:∀i,i<cs.length→F[s+i]? = (famB vs (byC cs))[i]?):All2 (All2 (dpC H)) (rowsCV vs) (rowsC cs):=by
 refine All2.of (by rw[rowsCV_len,rowsC_len];exact h) fun i a b ha hb=>?_
 have hi:i<cs.length:=by have:=(List.getElem?_eq_some_iff.1 hb).1;rwa [rowsC_len]at this
 rw[rowsCV_at (by omega)]at ha
 rw[rowsC_at hi]at hb
 injection ha with ha
 injection hb with hb
 subst ha hb
 refine .cons (.inr ⟨_,1000000+(s+i),_,_,_,rfl,?_,rfl⟩) .nil
 rw[hT.1,hF i hi,famB_at (by simpa using h) (by simpa using hi)]
 simp
theorem deepWV{H:Nat→AO}{F:List AO}(hT:Tl H F){vs:List Value}{ws:List Write}(h:vs.length=ws.length){s:Nat}(hF:∀i,i<ws.length→F[s+i]? = (famB vs (byW ws))[i]?):All2 (All2 (dpC H)) (rowsWV vs ws) (rowsW ws):=by
 refine All2.of (by rw[rowsWV_len h,rowsW_len]) fun i a b ha hb=>?_
 have hi:i<ws.length:=by have:=(List.getElem?_eq_some_iff.1 hb).1;rwa [rowsW_len]at this
 rw[rowsWV_at h hi]at ha
 rw[rowsW_at hi]at hb
 injection ha with ha
 injection hb with hb
 subst ha hb
 refine .cons (.inl rfl) (.cons (.inr ⟨_,1000000+(s+i),_,_,_,rfl,?_,rfl⟩) .nil)
 rw[hT.1,hF i hi,famB_at (by simpa using h) (by simpa using hi)]
 simp
abbrev oDisk:AV:=.agg [.own 1,.own 2]
abbrev obD(vs us:List Value)(d:Disk):List (Nat×AO):=[(1,.arr 115 1 (rowsCV vs)),(2,.arr 123 2 (rowsWV us d.dirty))]
def famD(vs us:List Value)(d:Disk):List AO:=famB vs (byC d.cells)++famB us (byW d.dirty)
theorem famD_row{vs us:List Value}{d:Disk}:rowF (famD vs us d):=famB_row.app famB_row
def diskRel(d:Disk):AV→List (Nat×AO)→List AO→Prop:=fun y l1 F1=>∃vs us:List Value,vs.length=d.cells.length∧us.length=d.dirty.length∧y=oDisk∧l1=obD vs us d∧F1=famD vs us d

set_option maxHeartbeats 16000000
set_option maxRecDepth 100000
theorem oapp{α:Type}(enc:α→List Value)(xs ys:List α):rowsOf enc (xs++ys)=rowsOf enc xs++rowsOf enc ys:=List.map_append
abbrev yAr(l:List Int):AO:=.arr 5 1 (rowsOf encU l)
abbrev yv(n:Int):AV:=.p (.v (.int .u8 n))
theorem yapp(l m:List Int):AO.arr 5 1 (rowsOf encU l++rowsOf encU m)=yAr (l++m):=congrArg (AO.arr 5 1) (oapp encU l m).symm
theorem wrap_u8(n:Int):IntKind.u8.wrap n=n%256:=by simp[IntKind.wrap,IntKind.signed,IntKind.bits]
theorem shr_byte{n:Int}{k j:Nat}(h:j<k):IntKind.u8.wrap (n/2 ^ (8*((k:Int)-1-(j:Int))).toNat)=n/256 ^ (k-1-j)%256:=by
 rw[wrap_u8]
 have e:(8*((k:Int)-1-(j:Int))).toNat=8*(k-1-j):=by omega
 rw[e,Int.pow_mul];rfl
theorem put_row{l:List Int}{n:Int}{k j:Nat}(h:j<k):yAr (l++(numB k n).take j++[n/256 ^ (k-1-j)%256])=yAr (l++(numB k n).take (j+1)):=by rw[numB_take h,List.append_assoc]
theorem numB_all(k:Nat)(n:Int):(numB k n).take k=numB k n:=List.take_of_length_le (by rw[numB_length];exact Nat.le_refl _)
theorem putNum_e(l:List Int)(n:Int)(k:Nat)(h0:0≤n)(hk:k≤7)(hl:l.length≤200):GC Try.prog 97 [.own 1,int n,int (k:Int)] [(1,yAr l)] (.own 1) [(1,yAr (l++numB k n))]:=by
 refine gi 6 Try.func97 rfl Try.ntmps97 rfl ?_
 intro L O w0
 refine sL<|laV Z<|nG<|aS<|sL<|lmI Z<|lgI Z<|laI Z<|nG<|aB ?_
 refine aW [1,6] [] (D:=Nat) (fun d=>[(7,int ((k:Int)-1-(d:Int))),(0,.own 1)]) (fun d=>[(1,yAr (l++(numB k n).take d))]) (fun d=>d≤k) (fun d=>k-d) (0) (Nat.zero_le _) ⟨(iq rfl),rfl,trivial⟩ ⟨(by rw[List.take_zero,List.append_nil];rfl),trivial⟩ ?_
 intro j hI
 replace hI:j≤k:=hI
 refine aS<|sL<|lmI Z<|lbB Z<|nG ?_
 refine AW.cond rfl ?_ ?_
 ·intro h1
  refine aK<|gT<|aS<|aB ?_
  have hj:j<k:=by have h:=h1;simp only[decide_eq_true_eq]at h;omega
  have htl:((numB k n).take j).length≤7:=by rw[List.length_take,numB_length];omega
  refine aL<|lmO Z<|lmI Z<|lmI Z<|lgI Z<|lq (rd (x:=vI _ _) (rd_val rfl rfl rfl (run_shr rfl (by omega) (by omega) rfl) rfl) rfl)<|lq (rd (x:=vI _ _) (rd_conv rfl ty.ik3 ty.ik5 rfl) rfl) ?_
  refine AL.slot 19 (yv (n/256 ^ (k-1-j)%256)) (Eq.trans (b:=yv _) rfl (congrArg yv (shr_byte hj))) ?_
  refine lst (zS 2020 (rowsOf encU [n/256 ^ (k-1-j)%256]) ty.el56 ty.ze5 rfl) Z<|lst (zP 1 ty.el56 ty.ze5 ty.by5 rfl (Src.own rfl rfl) (by first|(simp[rowsOf,numB_length];done)|(simp[rowsOf,numB_length];omega))) Z<|lT [1,6,7,21] [1,2020] ?_
  refine laO Z<|lN<|gB<|gT<|aL<|lmI Z<|lgI Z<|laI Z<|nG ?_
  refine⟨(j+1),hj,by show k-(j+1)<k-j;omega,⟨(iq rfl),rfl,trivial⟩,⟨(Eq.trans (yapp _ _) (put_row hj)),trivial⟩,rfl,rfl⟩
 ·intro h1
  refine aE<|eT<|eT<|eB<|gA<|lmO Z<|laO Z<|nG<|aR ?_
  have hj:j=k:=by have h:=h1;simp only[decide_eq_false_iff_not]at h;omega
  subst hj
  refine end_ret ?_ ⟨(congrArg (fun r=>yAr (l++r)) (numB_all _ n)),trivial⟩
  rfl
theorem copyBytes_o(l:List Int)(hl:l.length≤2000000):GC Try.prog 99 [byV l] [] (.own 1) [(1,yAr l)]:=by
 refine gi 2 Try.func99 rfl Try.ntmps99 rfl ?_
 intro L O w0
 refine sL<|laV Z<|nA<|lmL Z<|lst (St.app0 1 rfl rfl (by decide) ty.el56 ty.ze5 rfl (by decide) rfl (Src.p rfl) (by first|(simp[rowsOf,maxLen,numB_length];done)|(simp[rowsOf,maxLen,numB_length];omega)) (Nat.le_trans (Nat.mul_le_mul_left _ ty.by5) (by first|(simp[rowsOf,numB_length];done)|(simp[rowsOf,numB_length];omega)))) Z<|laO Z<|nG<|aR ?_
 refine end_ret ?_ ⟨rfl,trivial⟩
 rfl
theorem copyBytes_n(l:List Int)(hl:l.length≤2000000):GN Try.prog 99 [byV l] [] [] (oneR 5 1 (rowsOf encU l)):=(copyBytes_o l hl).fam1 flat_rowsOf
theorem pow_le{j:Nat}(h:j≤6):(256:Int) ^ j≤281474976710656:=by
 have:j=0∨j=1∨j=2∨j=3∨j=4∨j=5∨j=6:=by omega
 rcases this with rfl|rfl|rfl|rfl|rfl|rfl|rfl<;>decide
abbrev secV(s:Sector):AV:=.agg [int s.seq,int s.epoch,byV s.body]
def secX(s:Sector):List Int:=if secOk s then secB s else []
theorem secX_y{s:Sector}(h:secOk s=true):secX s=secB s:=if_pos h
theorem secX_n{s:Sector}(h:secOk s=false):secX s=[]:=if_neg (by simp[h])
theorem zero_rows(m:Nat):List.replicate m [PV.v (.int .u8 0)]=rowsOf encU (List.replicate m 0):=by unfold rowsOf;rw[List.map_replicate];rfl
theorem u8_len{s:Sector}(h:s.body.length≤100):IntKind.u8.wrap (s.body.length:Int)=(s.body.length:Int):=by rw[wrap_u8];omega
theorem sectorOk_e(s:Sector):GC Try.prog 98 [secV s] [] (boo (secOk s)) []:=by
 refine gi 2 Try.func98 rfl Try.ntmps98 rfl ?_
 intro L O w0
 refine sL<|lst (zX 2001 Z) Z<|laZ Z<|nA<|lf 0 ty.F92_0 Z<|loI ty.kd3 Z<|lst (zC [] [] [] Try.func47 (in_e _ _ _) (trivial) Z Z) Z<|lmB Z ?_
 refine AL.bool (t:=6) rfl ?_ ?_
 ·intro h1
  refine lf 1 ty.F92_1 Z<|loI ty.kd3 Z<|lst (zC [] [] [] Try.func47 (in_e _ _ _) (trivial) Z Z) Z<|lkB Z<|lmB Z ?_
  refine AL.bool (t:=11) rfl ?_ ?_
  ·intro h2
   refine lf 2 ty.F92_2 Z<|loL ty.kd56 Z<|lnI ty.sl56 Z ?_
   refine AL.slot 14 (int (s.body.length:Int)) (congrArg (fun n:Nat=>int (n:Int)) (length_rowsOf _ _)) ?_
   refine lbB Z<|lkB Z<|laB Z<|nG<|aR ?_
   refine eBo trivial ?_
   unfold secOk
   first|(simp_all;done)|(simp_all;omega)
  ·intro h2
   refine lno Z<|lno Z<|lno Z<|lno Z<|lkZ Z<|laZ Z<|nG<|aR ?_
   refine eBo trivial ?_
   unfold secOk
   first|(simp_all;done)|(simp_all;omega)
 ·intro h1
  refine lno Z<|lno Z<|lno Z<|lkZ Z<|lmZ Z<|lno Z<|lno Z<|lno Z<|lno Z<|lkZ Z<|laZ Z<|nG<|aR ?_
  refine eBo trivial ?_
  unfold secOk
  first|(simp_all;done)|(simp_all;omega)
theorem sectorBytes_o(s:Sector):GC Try.prog 50 [secV s] [] (.tup [.own 1,boo (secOk s)]) [(1,yAr (secX s))]:=by
 refine GC.intro (rs:=[.tmp 2,.tmp 3]) Try.func50 rfl Try.ntmps50 (Nat.le_of_ble_eq_true rfl) ⟨rfl,rfl,trivial⟩ ?_
 intro L O w0
 refine sL<|lst (zX 2001 Z) Z<|laV Z<|laZ Z<|nG<|aS<|sL<|loX (.agg [vI _ _,vI _ _,vL _ _ _]) ty.kd92 Z<|lst (zC [] [] [] Try.func98 (sectorOk_e s) (trivial) Z Z) Z<|luB Z<|nG ?_
 refine AW.cond rfl ?_ ?_
 ·intro h1
  refine sL<|laV Z<|laZ Z<|nG ?_
  refine AW.adoptT 1 2 5 1 rfl ?_
  refine aR<|rT ?_
  have hok:secOk s=false:=by simpa using h1
  rw[hok,secX_n hok]
  refine end_ret ?_ ⟨rfl,trivial⟩
  rfl
 ·intro h1
  refine aK<|gT<|aS ?_
  have hok:secOk s=true:=by simpa using h1
  obtain⟨⟨a1,a2⟩,⟨b1,b2⟩,hl⟩:=secOk_iff.1 hok
  refine aG 7 [1]<|tq 1 (rf 0 ty.F92_0 rfl)<|tq 2 (roI ty.kd3 rfl)<|tq 4 (rf 1 ty.F92_1 rfl)<|tq 5 (roI ty.kd3 rfl)<|yst 0 rfl (zS 1 (rowsOf encU [74]) ty.el56 ty.ze5 rfl)<|yst 3 rfl (zC [(1,1)] [1] [] Try.func97 (putNum_e ([74]) (s.seq) 3 (by omega) (by omega) (by first|(simp[numB_length];done)|(simp[numB_length];omega))) (trivial) rfl rfl)<|gX [1,2,3,11,13] [1,2001] ?_
  refine yst 6 rfl (zC [(1,1)] [1] [] Try.func97 (putNum_e ([74]++numB 3 s.seq) (s.epoch) 3 (by omega) (by omega) (by first|(simp[numB_length];done)|(simp[numB_length];omega))) (trivial) rfl rfl)<|yq 7 (raO rfl)<|gD<|gT<|aS<|aG 10 [1]<|tq 0 (rmO rfl)<|tq 1 (rf 2 ty.F92_2 rfl)<|tq 2 (roL ty.kd56 rfl)<|tq 3 (rnI ty.sl56 rfl) ?_
  refine AG.slot 18 (int (s.body.length:Int)) (congrArg (fun n:Nat=>int (n:Int)) (length_rowsOf _ _)) ?_
  refine tq 4 (rd (x:=vI _ _) (rd_conv rfl ty.ik3 ty.ik5 rfl) rfl) ?_
  refine AG.slot 19 (yv (s.body.length:Int)) (Eq.trans (b:=yv _) rfl (congrArg yv (u8_len hl))) ?_
  refine tq 7 (rf 2 ty.F92_2 rfl)<|tq 8 (roL ty.kd56 rfl)<|yst 5 rfl (zS 2020 (rowsOf encU [(s.body.length:Int)]) ty.el56 ty.ze5 rfl)<|yst 6 rfl (zP 1 ty.el56 ty.ze5 ty.by5 rfl (Src.own rfl rfl) (by first|(simp[rowsOf,numB_length];done)|(simp[rowsOf,numB_length];omega)))<|yst 9 rfl (zP 1 ty.el56 ty.ze5 ty.by5 rfl (Src.p rfl) (by first|(simp[rowsOf,numB_length];done)|(simp[rowsOf,numB_length];omega)))<|yq 10 (raO rfl)<|gD<|gT ?_
  refine AW.obj 1 (yAr ([74]++numB 3 s.seq++numB 3 s.epoch++[(s.body.length:Int)]++s.body)) ((Eq.trans (b:=AO.arr 5 1 (rowsOf encU ([74]++numB 3 s.seq++numB 3 s.epoch)++rowsOf encU [(s.body.length:Int)]++rowsOf encU s.body)) rfl (by rw[←oapp,←oapp]))) ?_
  refine sL<|lmO Z<|lmO Z<|lnI ty.sl56 Z ?_
  refine AL.slot 27 (int ((8+s.body.length:Nat):Int)) (Eq.trans (b:=int _) rfl (congrArg (fun n:Nat=>int (n:Int)) (by rw[length_rowsOf];first|(simp[numB_length];done)|(simp[numB_length];omega)))) ?_
  refine lgI Z<|lst (St.appZ 1 (m:=114-s.body.length) rfl rfl (by decide) ty.el56 ty.ze5 rfl ty.ik3 rfl rfl rfl ?hn1 (by rw[length_rowsOf];first|(simp;done)|(simp;omega)) (by omega) (by rw[length_rowsOf];simp[numB_length,maxLen];omega) (Nat.le_trans (Nat.mul_le_mul_left _ ty.by5) (by rw[length_rowsOf];simp[numB_length];omega))) rfl ?_
  case hn1=>omega
  refine lT [1,2,3,29] [1,2001,2020] ?_
  refine laO Z<|nG ?_
  refine AW.obj 1 (yAr ([74]++numB 3 s.seq++numB 3 s.epoch++[(s.body.length:Int)]++s.body++List.replicate (114-s.body.length) 0)) ((Eq.trans (b:=AO.arr 5 1 (rowsOf encU ([74]++numB 3 s.seq++numB 3 s.epoch++[(s.body.length:Int)]++s.body)++List.replicate (114-s.body.length) [PV.v (.int .u8 0)])) rfl (by rw[zero_rows,←oapp]))) ?_
  refine aS<|aG 8 [1]<|tq 0 (rmO rfl)<|tq 1 (rf 0 ty.F92_0 rfl)<|tq 2 (roI ty.kd3 rfl)<|tq 4 (rf 1 ty.F92_1 rfl)<|tq 5 (roI ty.kd3 rfl)<|yst 3 rfl (zC [(1,1)] [1] [] Try.func97 (putNum_e ([74]++numB 3 s.seq++numB 3 s.epoch++[(s.body.length:Int)]++s.body++List.replicate (114-s.body.length) 0) (s.seq) 3 (by omega) (by omega) (by first|(simp[numB_length];done)|(simp[numB_length];omega))) (trivial) rfl rfl)<|yst 6 rfl (zC [(1,1)] [1] [] Try.func97 (putNum_e ([74]++numB 3 s.seq++numB 3 s.epoch++[(s.body.length:Int)]++s.body++List.replicate (114-s.body.length) 0++numB 3 s.seq) (s.epoch) 3 (by omega) (by omega) (by first|(simp[numB_length];done)|(simp[numB_length];omega))) (trivial) rfl rfl)<|yq 7 (raO rfl)<|yq 8 (raT rfl)<|gD<|gT<|aR ?_
  rw[hok,secX_y hok]
  refine end_ret ?_ ⟨rfl,trivial⟩
  rfl
theorem sectorBytes_e(s:Sector):GC Try.prog 50 [secV s] [] (.tup [byV (secX s),boo (secOk s)]) []:=(sectorBytes_o s).frz2

def evX(e:Event):List Int:=if eventOk e then evB e else []
theorem evX_y{e:Event}(h:eventOk e=true):evX e=evB e:=if_pos h
theorem evX_n{e:Event}(h:eventOk e=false):evX e=[]:=if_neg (by simp[h])
theorem field_bd{has:Bool}{n lo hi:Int}(h:fieldB has n lo hi=true)(h0:0≤lo)(h1:0≤hi):0≤n∧n≤hi:=by
 unfold fieldB at h
 split at h
 ·have:=inB_true.1 h;omega
 ·simp at h;omega
theorem evBd{e:Event}(h:eventOk e=true):(1≤e.kind∧e.kind≤11)∧(0≤e.key∧e.key≤1000000)∧(0≤e.ch∧e.ch≤99)∧(0≤e.to∧e.to≤99)∧(0≤e.amt∧e.amt≤1125899906842624)∧(0≤e.fee∧e.fee≤1125899906842624):=by
 have q:=evAmt h
 rw[amtOk_true,amtOk_true]at q
 unfold eventOk at h
 simp only[Bool.and_eq_true]at h
 obtain⟨⟨⟨⟨⟨⟨⟨h1,h2⟩,h3⟩,h4⟩,_⟩,_⟩,_⟩,_⟩:=h
 exact⟨inB_true.1 h1,field_bd h2 (by decide) (by decide),field_bd h3 (by decide) (by decide),field_bd h4 (by decide) (by decide),q.1,q.2⟩
theorem eventBody_o(e:Event):GC Try.prog 49 [evV e] [] (.tup [.own 1,boo (eventOk e)]) [(1,yAr (evX e))]:=by
 refine GC.intro (rs:=[.tmp 2,.tmp 3]) Try.func49 rfl Try.ntmps49 (Nat.le_of_ble_eq_true rfl) ⟨rfl,rfl,trivial⟩ ?_
 intro L O w0
 refine sL<|lst (zX 2001 Z) Z<|laV Z<|laZ Z<|nG<|aS<|sL<|loX (.agg [vI _ _,vI _ _,vI _ _,vI _ _,vI _ _,vI _ _,vB _]) ty.kd40 Z<|lst (zC [] [] [] Try.func48 (eventOk_e e) (trivial) Z Z) Z<|luB Z<|nG ?_
 refine AW.cond rfl ?_ ?_
 ·intro h1
  refine sL<|laV Z<|laZ Z<|nG ?_
  refine AW.adoptT 1 2 5 1 rfl ?_
  refine aR<|rT ?_
  have hok:eventOk e=false:=by simpa using h1
  rw[hok,evX_n hok]
  refine end_ret ?_ ⟨rfl,trivial⟩
  rfl
 ·intro h1
  refine aK<|gT<|aS ?_
  have hok:eventOk e=true:=by simpa using h1
  obtain⟨⟨b1,b2⟩,⟨b3,b4⟩,⟨b5,b6⟩,⟨b7,b8⟩,⟨b9,b10⟩,⟨b11,b12⟩⟩:=evBd hok
  refine aL<|lf 0 ty.F40_0 Z<|loI ty.kd3 Z<|lq (rd (x:=vI _ _) (rd_conv Z ty.ik3 ty.ik5 Z) Z) ?_
  refine AL.slot 10 (yv e.kind) (Eq.trans (b:=yv _) rfl (congrArg yv (by rw[wrap_u8];omega))) ?_
  refine lst (zS 1 (rowsOf encU [69,e.kind]) ty.el56 ty.ze5 rfl (by intro r hr;simp only[rowsOf,List.map_cons,List.map_nil,List.mem_cons,List.not_mem_nil,or_false]at hr;rcases hr with h|h<;>(subst h;rfl))) Z<|lf 1 ty.F40_1 Z<|loI ty.kd3 Z<|lst (zC [(1,1)] [1] [] Try.func97 (putNum_e ([69,e.kind]) (e.key) 3 (by omega) (by omega) (by first|(simp[numB_length];done)|(simp[numB_length];omega))) (trivial) rfl rfl) Z<|lT [1,2,3,14] [1,2001] ?_
  refine laO Z<|nG<|aS<|aG 15 [1]<|tq 0 (rmO Z)<|tq 1 (rf 2 ty.F40_2 Z)<|tq 2 (roI ty.kd3 Z)<|tq 3 (rd (x:=vI _ _) (rd_conv Z ty.ik3 ty.ik5 Z) Z) ?_
  refine AG.slot 18 (yv e.ch) (Eq.trans (b:=yv _) rfl (congrArg yv (by rw[wrap_u8];omega))) ?_
  refine tq 4 (rf 3 ty.F40_3 Z)<|tq 5 (roI ty.kd3 Z)<|tq 6 (rd (x:=vI _ _) (rd_conv Z ty.ik3 ty.ik5 Z) Z) ?_
  refine AG.slot 21 (yv e.to) (Eq.trans (b:=yv _) rfl (congrArg yv (by rw[wrap_u8];omega))) ?_
  refine tq 9 (rf 4 ty.F40_4 rfl)<|tq 10 (roI ty.kd3 rfl)<|tq 12 (rf 5 ty.F40_5 rfl)<|tq 13 (roI ty.kd3 rfl)<|yst 7 rfl (zS 2022 (rowsOf encU [e.ch,e.to]) ty.el56 ty.ze5 rfl (by intro r hr;simp only[rowsOf,List.map_cons,List.map_nil,List.mem_cons,List.not_mem_nil,or_false]at hr;rcases hr with h|h<;>(subst h;rfl)))<|yst 8 rfl (zP 1 ty.el56 ty.ze5 ty.by5 rfl (Src.own rfl rfl) (by first|(simp[rowsOf,numB_length];done)|(simp[rowsOf,numB_length];omega)))<|gX [1,2,3,23,25,28] [1,2001,2022] ?_
  refine yst 11 rfl (St.call [(1,1)] [1] [] rfl (by intro s hs;cases hs;decide) rfl Try.func97 rfl rfl (putNum_e ([69,e.kind]++numB 3 e.key++[e.ch,e.to]) (e.amt) 7 (by omega) (by omega) (by first|(simp[numB_length];done)|(simp[numB_length];omega))) ⟨rfl,rfl,rfl⟩ (⟨⟨1,rfl,(Eq.trans (b:=AO.arr 5 1 (rowsOf encU ([69,e.kind]++numB 3 e.key)++rowsOf encU [e.ch,e.to])) rfl (yapp _ _))⟩,trivial⟩) (trivial) rfl)<|yst 14 rfl (zC [(1,1)] [1] [] Try.func97 (putNum_e ([69,e.kind]++numB 3 e.key++[e.ch,e.to]++numB 7 e.amt) (e.fee) 7 (by omega) (by omega) (by first|(simp[numB_length];done)|(simp[numB_length];omega))) (trivial) rfl rfl)<|yq 15 (raO rfl)<|gD<|gT<|aS<|sL<|lf 6 ty.F40_6 Z<|loB ty.kd4 Z<|nG ?_
  refine AW.cond rfl ?_ ?_
  ·intro h2
   refine sL<|lmO Z<|lst (zS 2033 (rowsOf encU [1]) ty.el56 ty.ze5 rfl) Z<|lst (zP 1 ty.el56 ty.ze5 ty.by5 rfl (Src.own rfl rfl) (by first|(simp[rowsOf,numB_length];done)|(simp[rowsOf,numB_length];omega))) Z<|laO Z<|laT Z<|nG<|aR<|rT ?_
   rw[hok,evX_y hok]
   refine end_ret ?_ ⟨(Eq.trans (b:=AO.arr 5 1 (rowsOf encU ([69,e.kind]++numB 3 e.key++[e.ch,e.to]++numB 7 e.amt++numB 7 e.fee)++rowsOf encU [1])) rfl (by rw[←oapp];unfold evB;rw[h2];rfl)),trivial⟩
   rfl
  ·intro h2
   refine aK<|gA<|lmO Z<|lst (zS 2036 (rowsOf encU [0]) ty.el56 ty.ze5 rfl) Z<|lst (zP 1 ty.el56 ty.ze5 ty.by5 rfl (Src.own rfl rfl) (by first|(simp[rowsOf,numB_length];done)|(simp[rowsOf,numB_length];omega))) Z<|laO Z<|laT Z<|nG<|aR ?_
   rw[hok,evX_y hok]
   refine end_ret ?_ ⟨(Eq.trans (b:=AO.arr 5 1 (rowsOf encU ([69,e.kind]++numB 3 e.key++[e.ch,e.to]++numB 7 e.amt++numB 7 e.fee)++rowsOf encU [0])) rfl (by rw[←oapp];unfold evB;rw[h2];rfl)),trivial⟩
   rfl
theorem eventBody_e(e:Event):GC Try.prog 49 [evV e] [] (.tup [byV (evX e),boo (eventOk e)]) []:=(eventBody_o e).frz2

theorem spow_e(size:Nat)(hs:size≤7):GC Try.prog 134 [int (size:Int)] [] (int (256 ^ size)) []:=by
 refine gi 2 Try.func134 rfl Try.ntmps134 rfl ?_
 intro L O w0
 refine sL<|laI Z<|nA<|laI Z<|nG<|aS<|sL<|laI Z<|nG<|aB ?_
 refine aW [0,2] [] (D:=Nat) (fun d=>[(4,int (d:Int)),(3,int (256 ^ d))]) (fun d=>[]) (fun d=>d≤size) (fun d=>size-d) (0) (Nat.zero_le _) ⟨rfl,rfl,trivial⟩ trivial ?_
 intro j hI
 replace hI:j≤size:=hI
 refine aS<|sL<|lmI Z<|lmI Z<|lbB Z<|nG ?_
 refine AW.cond rfl ?_ ?_
 ·intro h1
  refine aK<|gT<|aS<|aB ?_
  have hj:j<size:=by have h:=h1;simp only[decide_eq_true_eq]at h;omega
  have hlim:=pow_le (j:=j) (by omega)
  have hpos:(0:Int)≤256 ^ j:=Int.pow_nonneg (by omega)
  refine aL<|lmI Z<|lgI Z<|laI Z<|lN<|gB<|gT<|aL<|lmI Z<|lgI Z<|laI Z<|nG ?_
  refine⟨(j+1),hj,by show size-(j+1)<size-j;omega,⟨(iq rfl),(congrArg int (Int.pow_succ _ _).symm),trivial⟩,trivial,rfl,rfl⟩
 ·intro h1
  refine aE<|eT<|eT<|eB<|gA<|lmI Z<|laI Z<|nG<|aR ?_
  have hj:j=size:=by have h:=h1;simp only[decide_eq_false_iff_not]at h;omega
  subst hj
  refine end_ret ?_ trivial
  rfl
theorem sputNum_o(l:List Int)(n:Int)(size:Nat)(h0:0≤n)(h1:n<256 ^ size)(h7:n<72057594037927936)(hs0:1≤size)(hs:size≤7)(hl:l.length≤200):GC Try.prog 91 [byV l,int n,int (size:Int)] [] (.tup [.own 1,boo true]) [(1,yAr (l++numB size n))]:=by
 refine GC.intro (rs:=[.tmp 6,.tmp 7]) Try.func91 rfl Try.ntmps91 (Nat.le_of_ble_eq_true rfl) ⟨rfl,rfl,trivial⟩ ?_
 intro L O w0
 refine sL<|laV Z<|laZ Z<|nG<|aS<|sL<|lmI Z<|lbB Z<|lsB 11 false rfl (by simp;omega)<|lmZ Z<|lmI Z<|lbB Z<|lsB 14 false rfl (by simp;omega)<|lkZ Z<|lmZ Z<|lmI Z<|lbB Z<|lsB 18 false rfl (by simp;omega)<|lkZ Z<|lmZ Z<|lmI Z<|lmI Z<|lst (zC [] [] [] Try.func134 (spow_e (size) (by omega)) (trivial) rfl rfl) Z<|lT [0,1,2,6,7,20,21,23] [] ?_
 refine lbB Z<|lsB 24 false rfl (by simp;omega)<|lkZ Z<|nG<|aN Z<|aK<|gA<|lst (zS 1 (rowsOf encU []) ty.el56 ty.ze5 rfl (by intro r hr;cases hr)) Z<|lmL Z<|lst (zP 1 ty.el56 ty.ze5 ty.by5 rfl (Src.p rfl) (by first|(simp[rowsOf,numB_length];done)|(simp[rowsOf,numB_length];omega))) Z<|laO Z<|nG<|aS<|sL<|lmI Z<|lgI Z<|laI Z<|nG<|aB ?_
 refine aW [1,6,7] [] (D:=Nat) (fun d=>[(9,int ((size:Int)-1-(d:Int))),(8,.own 1)]) (fun d=>[(1,yAr (l++(numB size n).take d))]) (fun d=>d≤size) (fun d=>size-d) (0) (Nat.zero_le _) ⟨(iq rfl),rfl,trivial⟩ ⟨(by rw[List.take_zero,List.append_nil];rfl),trivial⟩ ?_
 intro j hI
 replace hI:j≤size:=hI
 refine aS<|sL<|lmI Z<|lbB Z<|nG ?_
 refine AW.cond rfl ?_ ?_
 ·intro h1
  refine aK<|gT<|aS<|aB ?_
  have hj:j<size:=by have h:=h1;simp only[ge_iff_le,decide_eq_true_eq]at h;omega
  have htl:((numB size n).take j).length≤7:=by rw[List.length_take,numB_length];omega
  have hpz:(256:Int) ^ (size-1-j)≠0:=Int.ne_of_gt (Int.pow_pos (by omega))
  have hdv:0≤n/256 ^ (size-1-j):=Int.ediv_nonneg h0 (Int.pow_nonneg (by omega))
  have hdl:n/256 ^ (size-1-j)≤n:=Int.ediv_le_self _ h0
  refine aL<|lmO Z<|lmI Z<|lmI Z<|lsN 37 ((size-1-j:Nat):Int) rfl (by omega)<|lst (zC [] [] [] Try.func134 (spow_e (size-1-j) (by omega)) (trivial) rfl rfl) Z<|lT [1,6,7,8,9,35,36,38] [1] ?_
  refine lhI rfl ⟨rfl,hpz,fits_i64 (by rw[Int.tdiv_eq_ediv_of_nonneg h0];unfold i64;omega)⟩<|lsN 39 (n/256 ^ (size-1-j)) rfl (Int.tdiv_eq_ediv_of_nonneg h0) ?_
  refine lhI rfl ⟨rfl,by decide⟩<|lsN 40 (n/256 ^ (size-1-j)%256) rfl (Int.tmod_eq_emod_of_nonneg hdv)<|lq (rd (x:=vI _ _) (rd_conv rfl ty.ik3 ty.ik5 rfl) rfl) ?_
  refine AL.slot 41 (yv (n/256 ^ (size-1-j)%256)) (Eq.trans (b:=yv _) rfl (congrArg yv (by rw[wrap_u8];omega))) ?_
  refine lst (zS 2042 (rowsOf encU [n/256 ^ (size-1-j)%256]) ty.el56 ty.ze5 rfl) Z<|lst (zP 1 ty.el56 ty.ze5 ty.by5 rfl (Src.own rfl rfl) (by first|(simp[rowsOf,numB_length];done)|(simp[rowsOf,numB_length];omega))) Z<|laO Z<|lN<|gB<|gT<|aL<|lmI Z<|lgI Z<|laI Z<|nG ?_
  refine⟨(j+1),hj,by show size-(j+1)<size-j;omega,⟨(iq rfl),rfl,trivial⟩,⟨(Eq.trans (yapp _ _) (put_row hj)),trivial⟩,rfl,rfl⟩
 ·intro h1
  refine aE<|eT<|eT<|eB<|gA<|lmO Z<|laO Z<|laT Z<|nG<|aR ?_
  have hj:j=size:=by have h:=h1;simp only[ge_iff_le,decide_eq_false_iff_not]at h;omega
  subst hj
  refine end_ret ?_ ⟨(congrArg (fun r=>yAr (l++r)) (numB_all _ n)),trivial⟩
  rfl
theorem sputNum_l(l:List Int)(n:Int)(size:Nat)(h0:0≤n)(h1:n<256 ^ size)(h7:n<72057594037927936)(hs0:1≤size)(hs:size≤7)(hl:l.length≤200):GC Try.prog 91 [.own 2,int n,int (size:Int)] [(2,yAr l)] (.tup [.own 1,boo true]) [(1,yAr (l++numB size n)),(2,yAr l)]:=
 (sputNum_o l n size h0 h1 h7 hs0 hs hl).lent rfl rfl (by intro id hid;simp[ownN,ownNL]at hid;subst hid;rfl) (by intro p hp;simp at hp;subst hp;rfl) (by intro p hp;simp at hp;subst hp;exact⟨rfl,flat_rowsOf⟩) (by intro p hp;simp at hp;subst hp;rfl)
theorem seventBody_o(e:Event):GC Try.prog 43 [evV e] [] (.tup [.own 1,boo (eventOk e)]) [(1,yAr (evX e))]:=by
 refine GC.intro (rs:=[.tmp 2,.tmp 3]) Try.func43 rfl Try.ntmps43 (Nat.le_of_ble_eq_true rfl) ⟨rfl,rfl,trivial⟩ ?_
 intro L O w0
 refine sL<|lst (zX 2001 Z) Z<|laV Z<|laZ Z<|nG<|aS<|sL<|loX (.agg [vI _ _,vI _ _,vI _ _,vI _ _,vI _ _,vI _ _,vB _]) ty.kd40 Z<|lst (zC [] [] [] Try.func42 (seventOk_e e) (trivial) Z Z) Z<|luB Z<|nG ?_
 refine AW.cond rfl ?_ ?_
 ·intro h1
  refine sL<|laV Z<|laZ Z<|nG ?_
  refine AW.adoptT 1 2 5 1 rfl ?_
  refine aR<|rT ?_
  have hok:eventOk e=false:=by simpa using h1
  rw[hok,evX_n hok]
  refine end_ret ?_ ⟨rfl,trivial⟩
  rfl
 ·intro h1
  refine aK<|gT<|aS ?_
  have hok:eventOk e=true:=by simpa using h1
  obtain⟨⟨b1,b2⟩,⟨b3,b4⟩,⟨b5,b6⟩,⟨b7,b8⟩,⟨b9,b10⟩,⟨b11,b12⟩⟩:=evBd hok
  refine aL<|lf 0 ty.F40_0 Z<|loI ty.kd3 Z<|lq (rd (x:=vI _ _) (rd_conv Z ty.ik3 ty.ik5 Z) Z) ?_
  refine AL.slot 10 (yv e.kind) (Eq.trans (b:=yv _) rfl (congrArg yv (by rw[wrap_u8];omega))) ?_
  refine lst (zS 5 (rowsOf encU [69,e.kind]) ty.el56 ty.ze5 rfl (by intro r hr;simp only[rowsOf,List.map_cons,List.map_nil,List.mem_cons,List.not_mem_nil,or_false]at hr;rcases hr with h|h<;>(subst h;rfl))) Z<|laO Z<|nA<|lmO Z<|lf 1 ty.F40_1 Z<|loI ty.kd3 Z<|lst (zC [(1,6),(2,5)] [6,5] [] Try.func91 (sputNum_l ([69,e.kind]) (e.key) 3 (by omega) (by omega) (by omega) (by decide) (by decide) (by first|(simp[numB_length];done)|(simp[numB_length];omega))) (trivial) rfl rfl) Z<|lT [1,2,3,16] [5,6,2001] ?_
  refine lmX (.tup [.own _,vB true]) Z<|lxO Z<|lxX (vB true) Z<|laO Z<|nA<|lmO Z<|lf 2 ty.F40_2 Z<|loI ty.kd3 Z<|lq (rd (x:=vI _ _) (rd_conv Z ty.ik3 ty.ik5 Z) Z) ?_
  refine AL.slot 22 (yv e.ch) (Eq.trans (b:=yv _) rfl (congrArg yv (by rw[wrap_u8];omega))) ?_
  refine lf 3 ty.F40_3 Z<|loI ty.kd3 Z<|lq (rd (x:=vI _ _) (rd_conv Z ty.ik3 ty.ik5 Z) Z) ?_
  refine AL.slot 25 (yv e.to) (Eq.trans (b:=yv _) rfl (congrArg yv (by rw[wrap_u8];omega))) ?_
  refine lst (zS 2026 (rowsOf encU [e.ch,e.to]) ty.el56 ty.ze5 rfl (by intro r hr;simp only[rowsOf,List.map_cons,List.map_nil,List.mem_cons,List.not_mem_nil,or_false]at hr;rcases hr with h|h<;>(subst h;rfl))) Z<|lst (zP 6 ty.el56 ty.ze5 ty.by5 rfl (Src.own rfl rfl) (by first|(simp[rowsOf,numB_length];done)|(simp[rowsOf,numB_length];omega))) Z<|laO Z<|nA<|lmO Z<|lf 4 ty.F40_4 Z<|loI ty.kd3 rfl ?_
  refine lst (St.call [(1,7),(2,6)] [7,6] [] rfl (by intro s hs;cases hs;decide) rfl Try.func91 rfl rfl (sputNum_l ([69,e.kind]++numB 3 e.key++[e.ch,e.to]) (e.amt) 7 (by omega) (by omega) (by omega) (by decide) (by decide) (by first|(simp[numB_length];done)|(simp[numB_length];omega))) ⟨rfl,rfl,rfl⟩ (⟨⟨6,rfl,(Eq.trans (b:=AO.arr 5 1 (rowsOf encU ([69,e.kind]++numB 3 e.key)++rowsOf encU [e.ch,e.to])) rfl (yapp _ _))⟩,trivial⟩) (trivial) rfl) Z<|lT [1,2,3,32] [5,6,7,2001,2026] ?_
  refine lmX (.tup [.own _,vB true]) Z<|lxO Z<|lxX (vB true) Z<|laO Z<|nA<|lmO Z<|lf 5 ty.F40_5 Z<|loI ty.kd3 Z<|lst (zC [(1,1),(2,7)] [1,7] [] Try.func91 (sputNum_l ([69,e.kind]++numB 3 e.key++[e.ch,e.to]++numB 7 e.amt) (e.fee) 7 (by omega) (by omega) (by omega) (by decide) (by decide) (by first|(simp[numB_length];done)|(simp[numB_length];omega))) (trivial) rfl rfl) Z<|lmX (.tup [.own _,vB true]) Z<|lxO Z<|lxX (vB true) Z<|laO Z<|nG<|aS<|sL<|lf 6 ty.F40_6 Z<|loB ty.kd4 Z<|nG ?_
  refine AW.cond rfl ?_ ?_
  ·intro h2
   refine sL<|lmO Z<|lst (zS 2045 (rowsOf encU [1]) ty.el56 ty.ze5 Z) Z<|lT [2,3,4,44,45] [1,5,6,7,2001,2026,2045] ?_
   refine lst (zP 1 ty.el56 ty.ze5 ty.by5 rfl (Src.own rfl rfl) (by first|(simp[rowsOf,numB_length];done)|(simp[rowsOf,numB_length];omega))) Z<|laO Z<|laT Z<|nG<|aR<|rT ?_
   rw[hok,evX_y hok]
   refine end_ret ?_ ⟨(Eq.trans (b:=AO.arr 5 1 (rowsOf encU ([69,e.kind]++numB 3 e.key++[e.ch,e.to]++numB 7 e.amt++numB 7 e.fee)++rowsOf encU [1])) rfl (by rw[←oapp];unfold evB;rw[h2];rfl)),trivial⟩
   rfl
  ·intro h2
   refine aK<|gA<|lmO Z<|lst (zS 2048 (rowsOf encU [0]) ty.el56 ty.ze5 rfl) Z<|lst (zP 1 ty.el56 ty.ze5 ty.by5 rfl (Src.own rfl rfl) (by first|(simp[rowsOf,numB_length];done)|(simp[rowsOf,numB_length];omega))) Z<|laO Z<|laT Z<|nG<|aR ?_
   rw[hok,evX_y hok]
   refine end_ret ?_ ⟨(Eq.trans (b:=AO.arr 5 1 (rowsOf encU ([69,e.kind]++numB 3 e.key++[e.ch,e.to]++numB 7 e.amt++numB 7 e.fee)++rowsOf encU [0])) rfl (by rw[←oapp];unfold evB;rw[h2];rfl)),trivial⟩
   rfl
theorem seventBody_e(e:Event):GC Try.prog 43 [evV e] [] (.tup [byV (evX e),boo (eventOk e)]) []:=(seventBody_o e).frz2

theorem ssectorOk_e(s:Sector):GC Try.prog 92 [secV s] [] (boo (secOk s)) []:=by
 refine gi 2 Try.func92 rfl Try.ntmps92 rfl ?_
 intro L O w0
 refine sL<|lst (zX 2001 Z) Z<|laZ Z<|nA<|lf 0 ty.F92_0 Z<|loI ty.kd3 Z<|lbB Z<|lmB Z ?_
 refine AL.bool (t:=6) rfl ?_ ?_
 ·intro h1
  refine lf 0 ty.F92_0 Z<|loI ty.kd3 Z<|lbB Z<|lkB Z<|lmB Z ?_
  refine AL.bool (t:=11) rfl ?_ ?_
  ·intro h2
   refine lf 1 ty.F92_1 Z<|loI ty.kd3 Z<|lbB Z<|lkB Z<|lmB Z ?_
   refine AL.bool (t:=16) rfl ?_ ?_
   ·intro h3
    refine lf 1 ty.F92_1 Z<|loI ty.kd3 Z<|lbB Z<|lkB Z<|lmB Z ?_
    refine AL.bool (t:=21) rfl ?_ ?_
    ·intro h4
     refine lf 2 ty.F92_2 Z<|loL ty.kd56 Z<|lnI ty.sl56 Z ?_
     refine AL.slot 24 (int (s.body.length:Int)) (congrArg (fun n:Nat=>int (n:Int)) (length_rowsOf _ _)) ?_
     refine lbB Z<|lkB Z<|laB Z<|nG<|aR ?_
     refine eBo trivial ?_
     unfold secOk inB
     rw[Bool.eq_iff_iff]
     simp only[decide_eq_true_eq,decide_eq_false_iff_not,Bool.and_eq_true,Bool.false_eq_true,false_iff,ge_iff_le]at *
     omega
    ·intro h4
     refine lno Z<|lno Z<|lno Z<|lno Z<|lkZ Z<|laZ Z<|nG<|aR ?_
     refine eBo trivial ?_
     unfold secOk inB
     rw[Bool.eq_iff_iff]
     simp only[decide_eq_true_eq,decide_eq_false_iff_not,Bool.and_eq_true,Bool.false_eq_true,false_iff,ge_iff_le]at *
     omega
   ·intro h3
    refine lno Z<|lno Z<|lno Z<|lkZ Z<|lT [1,2,20] [2001] ?_
    refine lmZ Z<|lno Z<|lno Z<|lno Z<|lno Z<|lkZ Z<|laZ Z<|nG<|aR ?_
    refine eBo trivial ?_
    unfold secOk inB
    rw[Bool.eq_iff_iff]
    simp only[decide_eq_true_eq,decide_eq_false_iff_not,Bool.and_eq_true,Bool.false_eq_true,false_iff,ge_iff_le]at *
    omega
  ·intro h2
   refine lno Z<|lno Z<|lno Z<|lkZ Z<|lmZ Z<|lno Z<|lno Z<|lno Z<|lkZ Z<|lmZ Z<|lno Z<|lno Z<|lno Z<|lno Z<|lkZ Z<|laZ Z<|nG<|aR ?_
   refine eBo trivial ?_
   unfold secOk inB
   rw[Bool.eq_iff_iff]
   simp only[decide_eq_true_eq,decide_eq_false_iff_not,Bool.and_eq_true,Bool.false_eq_true,false_iff,ge_iff_le]at *
   omega
 ·intro h1
  refine lno Z<|lno Z<|lno Z<|lkZ Z<|lmZ Z<|lno Z<|lno Z<|lno Z<|lkZ Z<|lmZ Z<|lno Z<|lno Z<|lno Z<|lkZ Z<|lmZ Z<|lno Z<|lno Z<|lno Z<|lno Z<|lkZ Z<|laZ Z<|nG<|aR ?_
  refine eBo trivial ?_
  unfold secOk inB
  rw[Bool.eq_iff_iff]
  simp only[decide_eq_true_eq,decide_eq_false_iff_not,Bool.and_eq_true,Bool.false_eq_true,false_iff,ge_iff_le]at *
  omega
theorem numB_1{n:Int}(h0:0≤n)(h1:n≤255):numB 1 n=[n]:=by
 show [n/256 ^ 0%256]=[n]
 congr 1
 simp
 omega
theorem ssectorBytes_o(s:Sector):GC Try.prog 44 [secV s] [] (.tup [.own 1,boo (secOk s)]) [(1,yAr (secX s))]:=by
 refine GC.intro (rs:=[.tmp 2,.tmp 3]) Try.func44 rfl Try.ntmps44 (Nat.le_of_ble_eq_true rfl) ⟨rfl,rfl,trivial⟩ ?_
 intro L O w0
 refine sL<|lst (zX 2001 Z) Z<|laV Z<|laZ Z<|nG<|aS<|sL<|loX (.agg [vI _ _,vI _ _,vL _ _ _]) ty.kd92 Z<|lst (zC [] [] [] Try.func92 (ssectorOk_e s) (trivial) Z Z) Z<|luB Z<|nG ?_
 refine AW.cond rfl ?_ ?_
 ·intro h1
  refine sL<|laV Z<|laZ Z<|nG ?_
  refine AW.adoptT 1 2 5 1 rfl ?_
  refine aR<|rT ?_
  have hok:secOk s=false:=by simpa using h1
  rw[hok,secX_n hok]
  refine end_ret ?_ ⟨rfl,trivial⟩
  rfl
 ·intro h1
  refine aK<|gT<|aS ?_
  have hok:secOk s=true:=by simpa using h1
  obtain⟨⟨a1,a2⟩,⟨b1,b2⟩,hl⟩:=secOk_iff.1 hok
  refine aL<|lst (zS 5 (rowsOf encU [74]) ty.el56 ty.ze5 rfl) Z<|lf 0 ty.F92_0 Z<|loI ty.kd3 Z<|lst (zC [(1,6),(2,5)] [6,5] [] Try.func91 (sputNum_l ([74]) (s.seq) 3 (by omega) (by omega) (by omega) (by decide) (by decide) (by first|(simp[numB_length];done)|(simp[numB_length];omega))) (trivial) rfl rfl) Z<|lmX (.tup [.own _,vB true]) Z<|lxO Z<|lxX (vB true) Z<|laO Z<|laT Z<|nA<|lmO Z<|lf 1 ty.F92_1 Z<|loI ty.kd3 Z<|lst (zC [(1,7),(2,6)] [7,6] [] Try.func91 (sputNum_l ([74]++numB 3 s.seq) (s.epoch) 3 (by omega) (by omega) (by omega) (by decide) (by decide) (by first|(simp[numB_length];done)|(simp[numB_length];omega))) (trivial) rfl rfl) Z<|lT [1,2,3,20] [5,6,7,2001] ?_
  refine lmX (.tup [.own _,vB true]) Z<|lxO Z<|lxX (vB true) Z<|laO Z<|nA<|lmO Z<|lf 2 ty.F92_2 Z<|loL ty.kd56 Z<|lnI ty.sl56 Z ?_
  refine AL.slot 27 (int (s.body.length:Int)) (congrArg (fun n:Nat=>int (n:Int)) (length_rowsOf _ _)) ?_
  refine lst (zC [(1,8),(2,7)] [8,7] [] Try.func91 (sputNum_l ([74]++numB 3 s.seq++numB 3 s.epoch) ((s.body.length:Int)) 1 (by omega) (by omega) (by omega) (by decide) (by decide) (by first|(simp[numB_length];done)|(simp[numB_length];omega))) (trivial) rfl rfl) Z<|lmX (.tup [.own _,vB true]) Z<|lxO Z<|lxX (vB true) Z<|laO Z<|nA<|lmO Z<|lf 2 ty.F92_2 Z<|loL ty.kd56 Z<|lst (zP 8 ty.el56 ty.ze5 ty.by5 rfl (Src.p rfl) (by first|(simp[rowsOf,numB_length];done)|(simp[rowsOf,numB_length];omega))) Z<|lT [1,2,3,34] [5,6,7,8,2001] ?_
  refine laO Z<|nG ?_
  refine AW.obj 8 (yAr ([74]++numB 3 s.seq++numB 3 s.epoch++[(s.body.length:Int)]++s.body)) ((Eq.trans (b:=AO.arr 5 1 (rowsOf encU ([74]++numB 3 s.seq++numB 3 s.epoch++numB 1 (s.body.length:Int))++rowsOf encU s.body)) rfl (by rw[numB_1 (by omega) (by omega),←oapp]))) ?_
  refine sL<|lmO Z<|lmO Z<|lnI ty.sl56 Z ?_
  refine AL.slot 37 (int ((8+s.body.length:Nat):Int)) (Eq.trans (b:=int _) rfl (congrArg (fun n:Nat=>int (n:Int)) (by rw[length_rowsOf];first|(simp[numB_length];done)|(simp[numB_length];omega)))) ?_
  refine lgI Z<|lst (St.appZ 8 (m:=114-s.body.length) rfl rfl (by decide) ty.el56 ty.ze5 rfl ty.ik3 rfl rfl rfl ?hn1 (by rw[length_rowsOf];first|(simp;done)|(simp;omega)) (by omega) (by rw[length_rowsOf];simp[numB_length,maxLen];omega) (Nat.le_trans (Nat.mul_le_mul_left _ ty.by5) (by rw[length_rowsOf];simp[numB_length];omega))) rfl ?_
  case hn1=>omega
  refine laO Z<|nG ?_
  refine AW.obj 8 (yAr ([74]++numB 3 s.seq++numB 3 s.epoch++[(s.body.length:Int)]++s.body++List.replicate (114-s.body.length) 0)) ((Eq.trans (b:=AO.arr 5 1 (rowsOf encU ([74]++numB 3 s.seq++numB 3 s.epoch++[(s.body.length:Int)]++s.body)++List.replicate (114-s.body.length) [PV.v (.int .u8 0)])) rfl (by rw[zero_rows,←oapp]))) ?_
  refine sL<|lmO Z<|lf 0 ty.F92_0 Z<|loI ty.kd3 Z<|lst (zC [(1,9),(2,8)] [9,8] [] Try.func91 (sputNum_l ([74]++numB 3 s.seq++numB 3 s.epoch++[(s.body.length:Int)]++s.body++List.replicate (114-s.body.length) 0) (s.seq) 3 (by omega) (by omega) (by omega) (by decide) (by decide) (by first|(simp[numB_length];done)|(simp[numB_length];omega))) (trivial) rfl rfl) Z<|lmX (.tup [.own _,vB true]) Z<|lxO Z<|lxX (vB true) Z<|laO Z<|nA<|lmO Z<|lf 1 ty.F92_1 Z<|loI ty.kd3 Z<|lst (zC [(1,1),(2,9)] [1,9] [] Try.func91 (sputNum_l ([74]++numB 3 s.seq++numB 3 s.epoch++[(s.body.length:Int)]++s.body++List.replicate (114-s.body.length) 0++numB 3 s.seq) (s.epoch) 3 (by omega) (by omega) (by omega) (by decide) (by decide) (by first|(simp[numB_length];done)|(simp[numB_length];omega))) (trivial) rfl rfl) Z<|lT [2,3,50] [1,5,6,7,8,9,2001] ?_
  refine lxO Z<|lxX (vB true) Z<|laO Z<|laT Z<|nG<|aR ?_
  rw[hok,secX_y hok]
  refine end_ret ?_ ⟨rfl,trivial⟩
  rfl
theorem ssectorBytes_e(s:Sector):GC Try.prog 44 [secV s] [] (.tup [byV (secX s),boo (secOk s)]) []:=(ssectorBytes_o s).frz2

theorem all_take{α:Type}{p:α→Bool}{l:List α}{j:Nat}(hj:j<l.length)(h:(l.take j).all p=true)(hp:p l[j]=true):(l.take (j+1)).all p=true:=by rw[List.take_succ_eq_append_getElem hj,List.all_append,h];simp[hp]
theorem all_not{α:Type}{p:α→Bool}{l:List α}{j:Nat}(hj:j<l.length)(hp:p l[j]=false):l.all p=false:=Bool.eq_false_iff.2 fun q=>by have:=List.all_eq_true.1 q _ (List.getElem_mem hj);rw[hp]at this;cases this
theorem dok_n1{d:Disk}(h:¬(1≤d.cells.length∧d.cells.length≤600∧d.dirty.length≤600)):diskOk d=false:=by
 unfold diskOk inB
 rw[Bool.eq_false_iff]
 intro q
 simp only[Bool.and_eq_true,decide_eq_true_eq]at q
 omega
theorem dok_n2{d:Disk}(h:d.cells.all cellOk=false):diskOk d=false:=by unfold diskOk;rw[h];simp
theorem dok_n3{d:Disk}(h:d.dirty.all (wrOk d.cells.length)=false):diskOk d=false:=by unfold diskOk;rw[h];simp
theorem dok_y{d:Disk}(h:1≤d.cells.length∧d.cells.length≤600∧d.dirty.length≤600)(h1:d.cells.all cellOk=true)(h2:d.dirty.all (wrOk d.cells.length)=true):diskOk d=true:=by
 unfold diskOk inB
 rw[h1,h2]
 simp
 omega
theorem diskOk_e(d:Disk):GC Try.prog 46 [diskV d] [] (boo (diskOk d)) []:=by
 refine gi 2 Try.func46 rfl Try.ntmps46 rfl ?_
 intro L O w0
 refine sL<|lst (zX 2001 Z) Z<|laZ Z<|nG<|aS<|sL<|lf 0 ty.F34_0 Z<|loL ty.kd31 Z<|lnI ty.sl31 Z ?_
 refine AL.slot 9 (int (d.cells.length:Int)) (congrArg (fun n:Nat=>int (n:Int)) (rowsC_len _)) ?_
 refine lst (zL Try.func47 (in_e _ _ _) Z) Z<|luB Z<|lmB Z ?_
 refine AL.bool (t:=12) rfl ?_ ?_
 ·intro h1
  refine lno Z<|lno Z<|lno Z<|lno Z<|lkT Z<|nG<|aY Z<|sL<|laZ Z<|nG<|aR<|rT ?_
  have hF:diskOk d=false:=dok_n1 (by
   simp[inB]at *
   omega)
  rw[hF]
  refine end_ret ?_ trivial
  rfl
 ·intro h1
  refine lf 1 ty.F34_1 Z<|loL ty.kd32 Z<|lnI ty.sl32 Z ?_
  refine AL.slot 15 (int (d.dirty.length:Int)) (congrArg (fun n:Nat=>int (n:Int)) (rowsW_len _)) ?_
  refine lbB Z<|lkB Z<|nG ?_
  refine AW.cond rfl ?_ ?_
  ·intro h2
   refine sL<|laZ Z<|nG<|aR<|rT ?_
   have hF:diskOk d=false:=dok_n1 (by
    simp[inB]at *
    omega)
   rw[hF]
   refine end_ret ?_ trivial
   rfl
  ·intro h2
   refine aK<|gT<|aS<|aS ?_
   have hsz:1≤d.cells.length∧d.cells.length≤600∧d.dirty.length≤600:=by
    simp[inB]at *
    omega
   refine aL<|lf 0 ty.F34_0 Z<|loL ty.kd31 Z<|lnI ty.sl31 Z ?_
   refine AL.slot 20 (int (d.cells.length:Int)) (congrArg (fun n:Nat=>int (n:Int)) (rowsC_len _)) ?_
   refine lmI Z<|nG<|aB ?_
   refine aW [1,2,19,20] [2001] (D:=Nat) (fun a=>[(21,int (a:Int))]) (fun a=>[]) (fun a=>a≤d.cells.length∧(d.cells.take a).all cellOk=true) (fun a=>d.cells.length-a) (0) (⟨Nat.zero_le _,rfl⟩) ⟨rfl,trivial⟩ trivial ?_
   intro j hI
   replace hI:j≤d.cells.length∧(d.cells.take j).all cellOk=true:=hI
   refine sL<|lbB Z<|nG<|aS ?_
   refine AW.cond rfl ?_ ?_
   ·intro h3
    refine aK<|gT<|aS<|aB<|aS ?_
    have hj:j<d.cells.length:=by have h:=h3;simp only[decide_eq_true_eq]at h;omega
    refine aL<|li j ty.el31 Z (rowsC_at hj)<|lrX (.agg [vL _ _ _]) ty.kd115 Z<|lst (zA 2004 ty.ze115 Z) Z<|lT [1,2,4,19,20,21,24] [2001,2004] ?_
    refine lst (zB 2004 ty.co115 ty.inf115 Z) Z<|nA<|lf 0 ty.F115_0 Z<|loL ty.kd56 Z<|lnI ty.sl56 Z<|lbB Z<|lmB Z ?_
    refine AL.bool (t:=29) rfl ?_ ?_
    ·intro h4
     refine lf 0 ty.F115_0 Z<|loL ty.kd56 Z<|lnI ty.sl56 Z<|lbB Z<|lkB Z<|nG ?_
     refine AW.cond rfl ?_ ?_
     ·intro h5
      refine sL<|laZ Z<|nG<|aR<|rB<|rT<|rT<|rB<|rT ?_
      have hc:cellOk d.cells[j]=false:=by
       unfold cellOk
       try unfold inB
       rw[Bool.eq_iff_iff]
       simp only[length_rowsOf,decide_eq_true_eq,decide_eq_false_iff_not,Bool.and_eq_true,Bool.and_eq_false_iff,Bool.or_eq_true,Bool.not_eq_true,Bool.not_eq_false,Bool.not_eq_true',Bool.not_eq_false',Bool.false_eq_true,inB,iff_false,iff_true,ge_iff_le,gt_iff_lt,ne_eq,bne_iff_ne]at *
       omega
      rw[dok_n2 (all_not hj hc)]
      refine end_ret ?_ trivial
      rfl
     ·intro h5
      refine aK<|gB<|gT<|aL<|lgI Z<|lmI Z<|nG ?_
      have hc:cellOk d.cells[j]=true:=by
       unfold cellOk
       try unfold inB
       rw[Bool.eq_iff_iff]
       simp only[length_rowsOf,decide_eq_true_eq,decide_eq_false_iff_not,Bool.and_eq_true,Bool.and_eq_false_iff,Bool.or_eq_true,Bool.not_eq_true,Bool.not_eq_false,Bool.not_eq_true',Bool.not_eq_false',Bool.false_eq_true,inB,iff_false,iff_true,ge_iff_le,gt_iff_lt,ne_eq,bne_iff_ne]at *
       omega
      refine⟨(j+1),⟨hj,all_take hj hI.2 hc⟩,by show d.cells.length-(j+1)<d.cells.length-j;omega,⟨(iq rfl),trivial⟩,trivial,rfl,rfl⟩
    ·intro h4
     refine lno Z<|lno Z<|lno Z<|lno Z<|lkZ Z<|nG<|aN Z<|aK<|gB<|gT<|aL<|lgI Z<|lmI Z<|nG ?_
     have hc:cellOk d.cells[j]=true:=by
      unfold cellOk
      try unfold inB
      rw[Bool.eq_iff_iff]
      simp only[length_rowsOf,decide_eq_true_eq,decide_eq_false_iff_not,Bool.and_eq_true,Bool.and_eq_false_iff,Bool.or_eq_true,Bool.not_eq_true,Bool.not_eq_false,Bool.not_eq_true',Bool.not_eq_false',Bool.false_eq_true,inB,iff_false,iff_true,ge_iff_le,gt_iff_lt,ne_eq,bne_iff_ne]at *
      omega
     refine⟨(j+1),⟨hj,all_take hj hI.2 hc⟩,by show d.cells.length-(j+1)<d.cells.length-j;omega,⟨(iq rfl),trivial⟩,trivial,rfl,rfl⟩
   ·intro h3
    refine aE<|eT<|eT<|eB<|gT<|aS<|aS ?_
    have hje:j=d.cells.length:=by have h:=h3;have h2:=hI.1;simp only[decide_eq_false_iff_not]at h;omega
    have hA:d.cells.all cellOk=true:=by have h:=hI.2;rwa [hje,List.take_length]at h
    clear hI
    refine aL<|lf 1 ty.F34_1 Z<|loL ty.kd32 Z<|lnI ty.sl32 Z ?_
    refine AL.slot 38 (int (d.dirty.length:Int)) (congrArg (fun n:Nat=>int (n:Int)) (rowsW_len _)) ?_
    refine lmI Z<|nG<|aB ?_
    refine aW [1,2,37,38] [2001] (D:=Nat) (fun a=>[(39,int (a:Int))]) (fun a=>[]) (fun a=>a≤d.dirty.length∧(d.dirty.take a).all (wrOk d.cells.length)=true) (fun a=>d.dirty.length-a) (0) (⟨Nat.zero_le _,rfl⟩) ⟨rfl,trivial⟩ trivial ?_
    intro i hI
    have hJ:i≤d.dirty.length∧(d.dirty.take i).all (wrOk d.cells.length)=true:=hI
    refine sL<|lbB Z<|nG<|aS ?_
    refine AW.cond rfl ?_ ?_
    ·intro h6
     refine aK<|gT<|aS<|aB<|aS ?_
     have hi:i<d.dirty.length:=by have h:=h6;simp only[decide_eq_true_eq]at h;omega
     refine aL<|li i ty.el32 Z (rowsW_at hi)<|lrX (.agg [vI _ _,vL _ _ _]) ty.kd123 Z<|lst (zA 2006 ty.ze123 Z) Z<|lT [1,2,6,37,38,39,42] [2001,2006] ?_
     refine lst (zB 2006 ty.co123 ty.inf123 Z) Z<|nA<|lf 0 ty.F123_0 Z<|loI ty.kd3 Z<|lf 0 ty.F34_0 Z<|loL ty.kd31 Z<|lnI ty.sl31 Z ?_
     refine AL.slot 47 (int (d.cells.length:Int)) (congrArg (fun n:Nat=>int (n:Int)) (rowsC_len _)) ?_
     refine lgI Z<|lst (zL Try.func47 (in_e _ _ _) Z) Z<|luB Z<|lmB Z ?_
     refine AL.bool (t:=51) rfl ?_ ?_
     ·intro h7
      refine lno Z<|lno Z<|lno Z<|lno Z<|lkT Z<|nG<|aY Z<|sL<|laZ Z<|nG<|aR<|rB<|rT<|rT<|rB<|rT ?_
      have hc:wrOk d.cells.length d.dirty[i]=false:=by
       unfold wrOk
       try unfold inB
       rw[Bool.eq_iff_iff]
       simp only[length_rowsOf,decide_eq_true_eq,decide_eq_false_iff_not,Bool.and_eq_true,Bool.and_eq_false_iff,Bool.or_eq_true,Bool.not_eq_true,Bool.not_eq_false,Bool.not_eq_true',Bool.not_eq_false',Bool.false_eq_true,inB,iff_false,iff_true,ge_iff_le,gt_iff_lt,ne_eq,bne_iff_ne]at *
       omega
      rw[dok_n3 (all_not hi hc)]
      refine end_ret ?_ trivial
      rfl
     ·intro h7
      refine lf 1 ty.F123_1 Z<|loL ty.kd56 Z<|lnI ty.sl56 Z<|lbB Z<|lkB Z<|nG ?_
      refine AW.cond rfl ?_ ?_
      ·intro h8
       refine sL<|laZ Z<|nG<|aR<|rB<|rT<|rT<|rB<|rT ?_
       have hc:wrOk d.cells.length d.dirty[i]=false:=by
        unfold wrOk
        try unfold inB
        rw[Bool.eq_iff_iff]
        simp only[length_rowsOf,decide_eq_true_eq,decide_eq_false_iff_not,Bool.and_eq_true,Bool.and_eq_false_iff,Bool.or_eq_true,Bool.not_eq_true,Bool.not_eq_false,Bool.not_eq_true',Bool.not_eq_false',Bool.false_eq_true,inB,iff_false,iff_true,ge_iff_le,gt_iff_lt,ne_eq,bne_iff_ne]at *
        omega
       rw[dok_n3 (all_not hi hc)]
       refine end_ret ?_ trivial
       rfl
      ·intro h8
       refine aK<|gB<|gT<|aL<|lgI Z<|lmI Z<|nG ?_
       have hc:wrOk d.cells.length d.dirty[i]=true:=by
        unfold wrOk
        try unfold inB
        rw[Bool.eq_iff_iff]
        simp only[length_rowsOf,decide_eq_true_eq,decide_eq_false_iff_not,Bool.and_eq_true,Bool.and_eq_false_iff,Bool.or_eq_true,Bool.not_eq_true,Bool.not_eq_false,Bool.not_eq_true',Bool.not_eq_false',Bool.false_eq_true,inB,iff_false,iff_true,ge_iff_le,gt_iff_lt,ne_eq,bne_iff_ne]at *
        omega
       refine⟨(i+1),⟨hi,all_take hi hJ.2 hc⟩,by show d.dirty.length-(i+1)<d.dirty.length-i;omega,⟨(iq rfl),trivial⟩,trivial,rfl,rfl⟩
    ·intro h6
     refine aE<|eT<|eT<|eB<|gA<|laT Z<|nG<|aR ?_
     have hie:i=d.dirty.length:=by have h:=h6;have h2:=hJ.1;simp only[decide_eq_false_iff_not]at h;omega
     have hB:d.dirty.all (wrOk d.cells.length)=true:=by have h:=hJ.2;rwa [hie,List.take_length]at h
     rw[dok_y hsz hA hB]
     refine end_ret ?_ trivial
     rfl
theorem sdiskOk_e(d:Disk):GC Try.prog 41 [diskV d] [] (boo (diskOk d)) []:=by
 refine gi 2 Try.func41 rfl Try.ntmps41 rfl ?_
 intro L O w0
 refine sL<|lst (zX 2001 Z) Z<|laZ Z<|nG<|aS<|sL<|lf 0 ty.F34_0 Z<|loL ty.kd31 Z<|lnI ty.sl31 Z ?_
 refine AL.slot 9 (int (d.cells.length:Int)) (congrArg (fun n:Nat=>int (n:Int)) (rowsC_len _)) ?_
 refine lbB Z<|lmB Z ?_
 refine AL.bool (t:=11) rfl ?_ ?_
 ·intro h1
  refine lno Z<|lno Z<|lno Z<|lno Z<|lkT Z<|lmT Z<|lno Z<|lno Z<|lno Z<|lno Z<|lkT Z<|nG<|aY Z<|sL<|laZ Z<|nG<|aR<|rT ?_
  have hF:diskOk d=false:=dok_n1 (by
   simp[inB]at *
   omega)
  rw[hF]
  refine end_ret ?_ trivial
  rfl
 ·intro h1
  refine lf 0 ty.F34_0 Z<|loL ty.kd31 Z<|lnI ty.sl31 Z ?_
  refine AL.slot 14 (int (d.cells.length:Int)) (congrArg (fun n:Nat=>int (n:Int)) (rowsC_len _)) ?_
  refine lbB Z<|lkB Z<|lmB Z ?_
  refine AL.bool (t:=17) rfl ?_ ?_
  ·intro h2
   refine lno Z<|lno Z<|lno Z<|lno Z<|lkT Z<|nG<|aY Z<|sL<|laZ Z<|nG<|aR<|rT ?_
   have hF:diskOk d=false:=dok_n1 (by
    simp[inB]at *
    omega)
   rw[hF]
   refine end_ret ?_ trivial
   rfl
  ·intro h2
   refine lf 1 ty.F34_1 Z<|loL ty.kd32 Z<|lnI ty.sl32 Z ?_
   refine AL.slot 20 (int (d.dirty.length:Int)) (congrArg (fun n:Nat=>int (n:Int)) (rowsW_len _)) ?_
   refine lbB Z<|lkB Z<|nG ?_
   refine AW.cond rfl ?_ ?_
   ·intro h3
    refine sL<|laZ Z<|nG<|aR<|rT ?_
    have hF:diskOk d=false:=dok_n1 (by
     simp[inB]at *
     omega)
    rw[hF]
    refine end_ret ?_ trivial
    rfl
   ·intro h3
    refine aK<|gT<|aS<|aS ?_
    have hsz:1≤d.cells.length∧d.cells.length≤600∧d.dirty.length≤600:=by
     simp[inB]at *
     omega
    refine aL<|lf 0 ty.F34_0 Z<|loL ty.kd31 Z<|lnI ty.sl31 Z ?_
    refine AL.slot 25 (int (d.cells.length:Int)) (congrArg (fun n:Nat=>int (n:Int)) (rowsC_len _)) ?_
    refine lmI Z<|nG<|aB ?_
    refine aW [1,2,24,25] [2001] (D:=Nat) (fun a=>[(26,int (a:Int))]) (fun a=>[]) (fun a=>a≤d.cells.length∧(d.cells.take a).all cellOk=true) (fun a=>d.cells.length-a) (0) (⟨Nat.zero_le _,rfl⟩) ⟨rfl,trivial⟩ trivial ?_
    intro j hI
    replace hI:j≤d.cells.length∧(d.cells.take j).all cellOk=true:=hI
    refine sL<|lbB Z<|lT [1,2,24,25,26,27] [2001] ?_
    refine nG<|aS ?_
    refine AW.cond rfl ?_ ?_
    ·intro h4
     refine aK<|gT<|aS<|aB<|aS ?_
     have hj:j<d.cells.length:=by have h:=h4;simp only[decide_eq_true_eq]at h;omega
     refine aL<|li j ty.el31 Z (rowsC_at hj)<|lrX (.agg [vL _ _ _]) ty.kd115 Z<|lst (zA 2004 ty.ze115 Z) Z<|lst (zB 2004 ty.co115 ty.inf115 Z) Z<|nA<|lf 0 ty.F115_0 Z<|loL ty.kd56 Z<|lnI ty.sl56 Z<|lbB Z<|lmB Z ?_
     refine AL.bool (t:=34) rfl ?_ ?_
     ·intro h5
      refine lf 0 ty.F115_0 Z<|loL ty.kd56 Z<|lnI ty.sl56 Z<|lbB Z<|lkB Z<|nG ?_
      refine AW.cond rfl ?_ ?_
      ·intro h6
       refine sL<|laZ Z<|nG<|aR<|rB<|rT<|rT<|rB<|rT ?_
       have hc:cellOk d.cells[j]=false:=by
        unfold cellOk
        try unfold inB
        rw[Bool.eq_iff_iff]
        simp only[length_rowsOf,decide_eq_true_eq,decide_eq_false_iff_not,Bool.and_eq_true,Bool.and_eq_false_iff,Bool.or_eq_true,Bool.not_eq_true,Bool.not_eq_false,Bool.not_eq_true',Bool.not_eq_false',Bool.false_eq_true,inB,iff_false,iff_true,ge_iff_le,gt_iff_lt,ne_eq,bne_iff_ne]at *
        omega
       rw[dok_n2 (all_not hj hc)]
       refine end_ret ?_ trivial
       rfl
      ·intro h6
       refine aK<|gB<|gT<|aL<|lgI Z<|lmI Z<|nG ?_
       have hc:cellOk d.cells[j]=true:=by
        unfold cellOk
        try unfold inB
        rw[Bool.eq_iff_iff]
        simp only[length_rowsOf,decide_eq_true_eq,decide_eq_false_iff_not,Bool.and_eq_true,Bool.and_eq_false_iff,Bool.or_eq_true,Bool.not_eq_true,Bool.not_eq_false,Bool.not_eq_true',Bool.not_eq_false',Bool.false_eq_true,inB,iff_false,iff_true,ge_iff_le,gt_iff_lt,ne_eq,bne_iff_ne]at *
        omega
       refine⟨(j+1),⟨hj,all_take hj hI.2 hc⟩,by show d.cells.length-(j+1)<d.cells.length-j;omega,⟨(iq rfl),trivial⟩,trivial,rfl,rfl⟩
     ·intro h5
      refine lno Z<|lno Z<|lno Z<|lno Z<|lkZ Z<|nG<|aN Z<|aK<|gB<|gT<|aL<|lgI Z<|lmI Z<|nG ?_
      have hc:cellOk d.cells[j]=true:=by
       unfold cellOk
       try unfold inB
       rw[Bool.eq_iff_iff]
       simp only[length_rowsOf,decide_eq_true_eq,decide_eq_false_iff_not,Bool.and_eq_true,Bool.and_eq_false_iff,Bool.or_eq_true,Bool.not_eq_true,Bool.not_eq_false,Bool.not_eq_true',Bool.not_eq_false',Bool.false_eq_true,inB,iff_false,iff_true,ge_iff_le,gt_iff_lt,ne_eq,bne_iff_ne]at *
       omega
      refine⟨(j+1),⟨hj,all_take hj hI.2 hc⟩,by show d.cells.length-(j+1)<d.cells.length-j;omega,⟨(iq rfl),trivial⟩,trivial,rfl,rfl⟩
    ·intro h4
     refine aE<|eT<|eT<|eB<|gT<|aS<|aS ?_
     have hje:j=d.cells.length:=by have h:=h4;have h2:=hI.1;simp only[decide_eq_false_iff_not]at h;omega
     have hA:d.cells.all cellOk=true:=by have h:=hI.2;rwa [hje,List.take_length]at h
     clear hI
     refine aL<|lf 1 ty.F34_1 Z<|loL ty.kd32 Z<|lnI ty.sl32 Z ?_
     refine AL.slot 43 (int (d.dirty.length:Int)) (congrArg (fun n:Nat=>int (n:Int)) (rowsW_len _)) ?_
     refine lmI Z<|nG<|aB ?_
     refine aW [1,2,42,43] [2001] (D:=Nat) (fun a=>[(44,int (a:Int))]) (fun a=>[]) (fun a=>a≤d.dirty.length∧(d.dirty.take a).all (wrOk d.cells.length)=true) (fun a=>d.dirty.length-a) (0) (⟨Nat.zero_le _,rfl⟩) ⟨rfl,trivial⟩ trivial ?_
     intro i hI
     have hJ:i≤d.dirty.length∧(d.dirty.take i).all (wrOk d.cells.length)=true:=hI
     refine sL<|lbB Z<|nG<|aS ?_
     refine AW.cond rfl ?_ ?_
     ·intro h7
      refine aK<|gT<|aS<|aB<|aS ?_
      have hi:i<d.dirty.length:=by have h:=h7;simp only[decide_eq_true_eq]at h;omega
      refine aL<|li i ty.el32 Z (rowsW_at hi)<|lrX (.agg [vI _ _,vL _ _ _]) ty.kd123 Z<|lst (zA 2006 ty.ze123 Z) Z<|lT [1,2,6,42,43,44,47] [2001,2006] ?_
      refine lst (zB 2006 ty.co123 ty.inf123 Z) Z<|nA<|lf 0 ty.F123_0 Z<|loI ty.kd3 Z<|lbB Z<|lmB Z ?_
      refine AL.bool (t:=51) rfl ?_ ?_
      ·intro h8
       refine lno Z<|lno Z<|lno Z<|lno Z<|lno Z<|lno Z<|lkT Z<|lmT Z<|lno Z<|lno Z<|lno Z<|lno Z<|lkT Z<|nG<|aY Z<|sL<|laZ Z<|nG<|aR<|rB<|rT<|rT<|rB<|rT ?_
       have hc:wrOk d.cells.length d.dirty[i]=false:=by
        unfold wrOk
        try unfold inB
        rw[Bool.eq_iff_iff]
        simp only[length_rowsOf,decide_eq_true_eq,decide_eq_false_iff_not,Bool.and_eq_true,Bool.and_eq_false_iff,Bool.or_eq_true,Bool.not_eq_true,Bool.not_eq_false,Bool.not_eq_true',Bool.not_eq_false',Bool.false_eq_true,inB,iff_false,iff_true,ge_iff_le,gt_iff_lt,ne_eq,bne_iff_ne]at *
        omega
       rw[dok_n3 (all_not hi hc)]
       refine end_ret ?_ trivial
       rfl
      ·intro h8
       refine lf 0 ty.F123_0 Z<|loI ty.kd3 Z<|lf 0 ty.F34_0 Z<|loL ty.kd31 Z<|lnI ty.sl31 Z ?_
       refine AL.slot 56 (int (d.cells.length:Int)) (congrArg (fun n:Nat=>int (n:Int)) (rowsC_len _)) ?_
       refine lbB Z<|lkB Z<|lmB Z ?_
       refine AL.bool (t:=59) rfl ?_ ?_
       ·intro h9
        refine lno Z<|lno Z<|lno Z<|lno Z<|lkT Z<|nG<|aY Z<|sL<|laZ Z<|nG<|aR<|rB<|rT<|rT<|rB<|rT ?_
        have hc:wrOk d.cells.length d.dirty[i]=false:=by
         unfold wrOk
         try unfold inB
         rw[Bool.eq_iff_iff]
         simp only[length_rowsOf,decide_eq_true_eq,decide_eq_false_iff_not,Bool.and_eq_true,Bool.and_eq_false_iff,Bool.or_eq_true,Bool.not_eq_true,Bool.not_eq_false,Bool.not_eq_true',Bool.not_eq_false',Bool.false_eq_true,inB,iff_false,iff_true,ge_iff_le,gt_iff_lt,ne_eq,bne_iff_ne]at *
         omega
        rw[dok_n3 (all_not hi hc)]
        refine end_ret ?_ trivial
        rfl
       ·intro h9
        refine lf 1 ty.F123_1 Z<|loL ty.kd56 Z<|lnI ty.sl56 Z<|lbB Z<|lkB Z<|nG ?_
        refine AW.cond rfl ?_ ?_
        ·intro h10
         refine sL<|laZ Z<|nG<|aR<|rB<|rT<|rT<|rB<|rT ?_
         have hc:wrOk d.cells.length d.dirty[i]=false:=by
          unfold wrOk
          try unfold inB
          rw[Bool.eq_iff_iff]
          simp only[length_rowsOf,decide_eq_true_eq,decide_eq_false_iff_not,Bool.and_eq_true,Bool.and_eq_false_iff,Bool.or_eq_true,Bool.not_eq_true,Bool.not_eq_false,Bool.not_eq_true',Bool.not_eq_false',Bool.false_eq_true,inB,iff_false,iff_true,ge_iff_le,gt_iff_lt,ne_eq,bne_iff_ne]at *
          omega
         rw[dok_n3 (all_not hi hc)]
         refine end_ret ?_ trivial
         rfl
        ·intro h10
         refine aK<|gB<|gT<|aL<|lgI Z<|lmI Z<|nG ?_
         have hc:wrOk d.cells.length d.dirty[i]=true:=by
          unfold wrOk
          try unfold inB
          rw[Bool.eq_iff_iff]
          simp only[length_rowsOf,decide_eq_true_eq,decide_eq_false_iff_not,Bool.and_eq_true,Bool.and_eq_false_iff,Bool.or_eq_true,Bool.not_eq_true,Bool.not_eq_false,Bool.not_eq_true',Bool.not_eq_false',Bool.false_eq_true,inB,iff_false,iff_true,ge_iff_le,gt_iff_lt,ne_eq,bne_iff_ne]at *
          omega
         refine⟨(i+1),⟨hi,all_take hi hJ.2 hc⟩,by show d.dirty.length-(i+1)<d.dirty.length-i;omega,⟨(iq rfl),trivial⟩,trivial,rfl,rfl⟩
     ·intro h7
      refine aE<|eT<|eT<|eB<|gA<|laT Z<|nG<|aR ?_
      have hie:i=d.dirty.length:=by have h:=h7;have h2:=hJ.1;simp only[decide_eq_false_iff_not]at h;omega
      have hB:d.dirty.all (wrOk d.cells.length)=true:=by have h:=hJ.2;rwa [hie,List.take_length]at h
      rw[dok_y hsz hA hB]
      refine end_ret ?_ trivial
      rfl
theorem dok_iff{d:Disk}(h:diskOk d=true):(1≤d.cells.length∧d.cells.length≤600∧d.dirty.length≤600)∧d.cells.all cellOk=true∧d.dirty.all (wrOk d.cells.length)=true:=by
 unfold diskOk inB at h
 simp only[Bool.and_eq_true,decide_eq_true_eq]at h
 exact⟨⟨by omega,by omega,h.1.1.2⟩,h.1.2,h.2⟩
theorem dok_w{d:Disk}(h:diskOk d=true){j:Nat}(hj:j<d.dirty.length):d.dirty[j].bytes.length=128:=by
 have:=List.all_eq_true.1 (dok_iff h).2.2 _ (List.getElem_mem hj)
 unfold wrOk at this
 simp only[Bool.and_eq_true,decide_eq_true_eq]at this
 exact this.2
theorem dok_c{d:Disk}(h:diskOk d=true){j:Nat}(hj:j<d.cells.length):d.cells[j].bytes.length≤128:=by
 have:=List.all_eq_true.1 (dok_iff h).2.1 _ (List.getElem_mem hj)
 unfold cellOk at this
 simp only[Bool.or_eq_true,decide_eq_true_eq]at this
 omega

def DkB(d:Disk):Prop:=(∀c∈d.cells,BytesOk c.bytes)∧∀w∈d.dirty,BytesOk w.bytes

abbrev uAr(v:Value)(b:List Int):AO:=.arr ⟨5,some v⟩ 1 (rowsOf encU b)
theorem famC_succ{vs:List Value}{u:Value}{cs:List Cell}{k:Nat}(hk:k<cs.length)(hv:vs.length=k):famB (vs++[u]) (byC (cs.take (k+1)))=famB vs (byC (cs.take k))++[uAr u cs[k].bytes]:=by
 rw[List.take_succ_eq_append_getElem hk,byC,List.map_append]
 exact famB_app (by rw[List.length_map,List.length_take];omega)
theorem famW_succ{A:List AO}{vs:List Value}{u:Value}{cs:List Write}{k:Nat}(hk:k<cs.length)(hv:vs.length=k):A++famB (vs++[u]) (byW (cs.take (k+1)))=A++famB vs (byW (cs.take k))++[uAr u cs[k].bytes]:=by
 rw[List.take_succ_eq_append_getElem hk,byW,List.map_append,List.append_assoc]
 exact congrArg (A++·) (famB_app (by rw[List.length_map,List.length_take];omega))
theorem rowsWV_succ{vs:List Value}{u:Value}{cs:List Write}{k:Nat}(hk:k<cs.length)(hv:vs.length=k):rowsWV vs (cs.take k)++[[.v (.int .i64 cs[k].at_),.v u]]=rowsWV (vs++[u]) (cs.take (k+1)):=by
 rw[List.take_succ_eq_append_getElem hk,rowsWV_app (by rw[List.length_take];omega)]
theorem rowsW_succ{cs:List Write}{k:Nat}(hk:k<cs.length):rowsW (cs.take k)++[[.v (.int .i64 cs[k].at_),lstB cs[k].bytes]]=rowsW (cs.take (k+1)):=by
 rw[List.take_succ_eq_append_getElem hk];unfold rowsW;rw[List.map_append];rfl
theorem wv_take_len{vs:List Value}{ws:List Write}{k:Nat}(hv:vs.length=k)(hk:k≤ws.length):(rowsWV vs (ws.take k)).length=k:=by rw[rowsWV_len (by rw[List.length_take];omega),List.length_take];omega
structure DkS(d:Disk):Prop where
 lc:d.cells.length≤2000000
 lw:d.dirty.length≤2000000
 bc:∀c∈d.cells,c.bytes.length≤2000000
 bw:∀w∈d.dirty,w.bytes.length≤2000000
theorem dok_s{d:Disk}(h:diskOk d=true):DkS d:=⟨by have:=(dok_iff h).1;omega,by have:=(dok_iff h).1;omega,fun c hc=>by
 obtain⟨j,hj,rfl⟩:=List.getElem_of_mem hc
 have:=dok_c h hj;omega,fun c hc=>by
 obtain⟨j,hj,rfl⟩:=List.getElem_of_mem hc
 have:=dok_w h hj;omega⟩
theorem copyDisk_n(d:Disk)(hs:DkS d):GN Try.prog 78 [diskV d] [] ([]) (diskRel d):=by
 refine GN.intro (rs:=[.cell 2 34 (some 2)]) Try.func78 rfl Try.ntmps78 (Nat.le_of_ble_eq_true rfl) ⟨rfl,rfl,ty.kd34,trivial⟩ rfl ?_
 intro L O w0
 refine sL<|lst (zX 2001 Z) Z<|lst (zA 2002 ty.ze34 Z) Z<|nA<|lst (zA 2003 ty.ze34 Z) Z<|nG<|aS<|aS ?_
 refine AW.adoptB 1 2003 0 115 1 rfl (by decide) rfl ?_
 refine AW.adoptB 2 2003 1 123 2 rfl (by decide) rfl ?_
 refine aL<|lf 0 ty.F34_0 Z<|loL ty.kd31 Z<|lnI ty.sl31 Z ?_
 refine AL.slot 10 (int (d.cells.length:Int)) (congrArg (fun n:Nat=>int (n:Int)) (rowsC_len _)) ?_
 refine lmI Z<|nG<|aB ?_
 refine AW.loopT (D:=Nat×List Value) [(1,.ptr 2001 _ 0),(2,.ptr 2002 _ 0),(3,.ptr 2003 _ 0),(9,vL _ _ _),(10,vI _ _)] [(2,.arr _ _ _),(2001,.box _ _ [vL _ _ _,vL _ _ _]),(2002,.box _ _ [vV _,vV _]),(2003,.box _ _ [.own _,.own _])] (fun a=>[(11,int (a.1:Int))]) (fun a=>[(1,.arr 115 1 (rowsCV a.2))]) (fun a=>famB a.2 (byC (d.cells.take a.1))) (fun a=>a.1≤d.cells.length∧a.2.length=a.1) (fun a=>d.cells.length-a.1) ((0,[])) (⟨Nat.zero_le _,rfl⟩) ⟨rfl,trivial⟩ ⟨rfl,trivial⟩ ⟨rfl,rfl,rfl,rfl,rfl,trivial⟩ ⟨rfl,rfl,rfl,rfl,trivial⟩ (by rw[List.take_zero];exact tlp) ?_
 intro ⟨k,vs⟩ hI
 obtain⟨hkl,hvl⟩:=hI
 replace hkl:k≤d.cells.length:=hkl
 replace hvl:vs.length=k:=hvl
 have hfr:rowF (famB vs (byC (d.cells.take k))):=famB_row
 have hfl:(famB vs (byC (d.cells.take k))).length=k:=by rw[famB_len (by rw[List.length_map,List.length_take];omega),List.length_map,List.length_take];omega
 refine sL<|lbB Z<|nG<|aS ?_
 refine AW.cond rfl ?_ ?_
 ·intro h1
  refine aK<|gT<|aS<|aB<|aS ?_
  have hk:k<d.cells.length:=by have h:=h1;simp only[decide_eq_true_eq]at h;omega
  have hlc:=hs.lc
  refine aL<|li k ty.el31 Z (rowsC_at hk)<|lrX (.agg [vL _ _ _]) ty.kd115 Z<|lst (zA 2005 ty.ze115 Z) Z<|lst (zB 2005 ty.co115 ty.inf115 Z) Z<|nG<|aF [7,9]<|pq 0 (qf 0 ty.F34_0 Z)<|sq 1 (roO ty.kd31 Z)<|vq 2 (rf 0 ty.F115_0 Z)<|vq 3 (roL ty.kd56 Z) ?_
  refine AF.stx (i:=4) rfl (by kernel_rfl) (StX.callN (F:=famB vs (byC (d.cells.take k))) [] [] [] (famB vs (byC (d.cells.take k))).length Try.func99 (copyBytes_n d.cells[k].bytes (hs.bc _ (List.getElem_mem hk))) tlp List.drop_length List.take_length (Nat.le_refl _) (by first|(rw[List.length_append,hfl,hfl2];omega)|(rw[hfl];omega)|(rw[List.nil_append,famD_len hvl hul];omega)) (fun _ _ _ _=>trivial) rfl rfl) (.inr rfl) rfl ?_
  rintro _ _ ⟨xz2,oz2,Fz2,hz2,hF2,hM2,rfl,rfl⟩
  obtain⟨u1,rfl,rfl,rfl⟩:=hz2
  have hrf2:rowF (famB vs (byC (d.cells.take k))++[uAr u1 d.cells[k].bytes]):=rowF.app (by first|assumption|exact rowF.nil) hF2
  refine fTt ((famB vs (byC (d.cells.take k))++[uAr u1 d.cells[k].bytes])) [1,2,3,9,10,11,16,19] [1,2,2001,2002,2003,2005] ?_
  refine vq 5 (rd (x:=.agg [vV _]) (rd_build rfl ty.sa115 rfl rfl rfl) rfl)<|vst 6 rfl (zS 2021 [[.v u1]] ty.el31 ty.ze115 rfl (by intro r hr;simp at hr;subst hr;rfl)) (.inr rfl)<|vst 7 rfl (zP 1 ty.el31 ty.ze115 ty.by115 rfl (Src.own rfl rfl) (by first|(simp[rowsCV_len,rowsW_len];done)|(simp[rowsCV_len,rowsW_len];omega))) (.inl rfl)<|vq 8 (rf 0 ty.F34_0 rfl)<|vst 9 rfl (zB 2003 ty.co31 ty.inf31 rfl) (.inl rfl)<|fD<|gB<|gT<|aL<|lgI Z<|lmI Z<|nG ?_
  refine⟨(k+1,vs++[u1]),⟨hk,by rw[List.length_append,hvl];rfl⟩,by show d.cells.length-(k+1)<d.cells.length-k;omega,⟨(iq rfl),trivial⟩,⟨(congrArg (AO.arr 115 1) rowsCV_app.symm),trivial⟩,⟨rfl,rfl,rfl,rfl,rfl,trivial⟩,⟨rfl,rfl,rfl,rfl,trivial⟩,(by rw[famC_succ hk hvl];exact tlp)⟩
 ·intro h1
  refine aE<|eT<|eT<|eB<|gT<|aS<|aS ?_
  have hke:k=d.cells.length:=by have h:=h1;simp only[decide_eq_false_iff_not]at h;omega
  subst hke
  rw[List.take_length]at hfr hfl ⊢
  refine aL<|lf 1 ty.F34_1 Z<|loL ty.kd32 Z<|lnI ty.sl32 Z ?_
  refine AL.slot 27 (int (d.dirty.length:Int)) (congrArg (fun n:Nat=>int (n:Int)) (rowsW_len _)) ?_
  refine lmI Z<|nG<|aB ?_
  refine AW.loopT (D:=Nat×List Value) [(2,.ptr 2002 _ 0),(3,.ptr 2003 _ 0),(26,vL _ _ _),(27,vI _ _)] [(1,.arr _ _ _),(2001,.box _ _ [vL _ _ _,vL _ _ _]),(2002,.box _ _ [vV _,vV _]),(2003,.box _ _ [.own _,.own _])] (fun a=>[(28,int (a.1:Int))]) (fun a=>[(2,.arr 123 2 (rowsWV a.2 (d.dirty.take a.1)))]) (fun a=>famB vs (byC d.cells)++famB a.2 (byW (d.dirty.take a.1))) (fun a=>a.1≤d.dirty.length∧a.2.length=a.1) (fun a=>d.dirty.length-a.1) ((0,[])) (⟨Nat.zero_le _,rfl⟩) ⟨rfl,trivial⟩ ⟨rfl,trivial⟩ ⟨rfl,rfl,rfl,rfl,trivial⟩ ⟨rfl,rfl,rfl,rfl,trivial⟩ (by rw[List.take_zero,show famB [] (byW [])=[]from rfl,List.append_nil];exact tlp) ?_
  intro ⟨j,us⟩ hI
  obtain⟨hjl,hul⟩:=hI
  replace hjl:j≤d.dirty.length:=hjl
  replace hul:us.length=j:=hul
  have hfr2:rowF (famB vs (byC d.cells)++famB us (byW (d.dirty.take j))):=hfr.app famB_row
  have hfl2:(famB us (byW (d.dirty.take j))).length=j:=by rw[famB_len (by rw[List.length_map,List.length_take];omega),List.length_map,List.length_take];omega
  have hwl:=wv_take_len hul hjl
  refine sL<|lbB Z<|nG<|aS ?_
  refine AW.cond rfl ?_ ?_
  ·intro h2
   refine aK<|gT<|aS<|aB<|aS ?_
   have hj:j<d.dirty.length:=by have h:=h2;simp only[decide_eq_true_eq]at h;omega
   have hlw:=hs.lw
   have hlc:=hs.lc
   refine aL<|li j ty.el32 Z (rowsW_at hj)<|lrX (.agg [vI _ _,vL _ _ _]) ty.kd123 Z<|lst (zA 2007 ty.ze123 Z) Z ?_
   refine lTt ((famB vs (byC d.cells)++famB us (byW (d.dirty.take j)))) [2,3,7,26,27,28,31] [1,2,2001,2002,2003,2007] ?_
   refine lst (zB 2007 ty.co123 ty.inf123 Z) Z<|nG<|aF [9,11]<|pq 0 (qf 1 ty.F34_1 Z)<|sq 1 (roO ty.kd32 Z)<|pq 2 (qf 0 ty.F123_0 Z)<|sq 3 (roI ty.kd3 Z)<|vq 4 (rf 1 ty.F123_1 Z)<|vq 5 (roL ty.kd56 Z) ?_
   refine AF.stx (i:=6) rfl (by kernel_rfl) (StX.callN (F:=(famB vs (byC d.cells)++famB us (byW (d.dirty.take j)))) [] [] [] ((famB vs (byC d.cells)++famB us (byW (d.dirty.take j)))).length Try.func99 (copyBytes_n d.dirty[j].bytes (hs.bw _ (List.getElem_mem hj))) tlp List.drop_length List.take_length (Nat.le_refl _) (by first|(rw[List.length_append,hfl,hfl2];omega)|(rw[hfl];omega)|(rw[List.nil_append,famD_len hvl hul];omega)) (fun _ _ _ _=>trivial) rfl rfl) (.inr rfl) rfl ?_
   rintro _ _ ⟨xz4,oz4,Fz4,hz4,hF4,hM4,rfl,rfl⟩
   obtain⟨u2,rfl,rfl,rfl⟩:=hz4
   have hrf4:rowF ((famB vs (byC d.cells)++famB us (byW (d.dirty.take j)))++[uAr u2 d.dirty[j].bytes]):=rowF.app (by first|assumption|exact rowF.nil) hF4
   refine vq 7 (rd (x:=.agg [vI _ _,vV _]) (rd_build rfl ty.sa123 rfl rfl rfl) rfl)<|vst 8 rfl (zS 2040 [[.v (.int .i64 d.dirty[j].at_),.v u2]] ty.el32 ty.ze123 rfl (by intro r hr;simp at hr;subst hr;rfl)) (.inr rfl)<|vst 9 rfl (zP 2 ty.el32 ty.ze123 ty.by123 rfl (Src.own rfl rfl) (by first|(simp[rowsCV_len,rowsW_len];done)|(simp[rowsCV_len,rowsW_len];omega))) (.inl rfl)<|vq 10 (rf 1 ty.F34_1 rfl)<|vst 11 rfl (zB 2003 ty.co32 ty.inf32 rfl) (.inl rfl)<|fD<|gB<|gT<|aL<|lgI Z<|lmI Z<|nG ?_
   refine⟨(j+1,us++[u2]),⟨hj,by rw[List.length_append,hul];rfl⟩,by show d.dirty.length-(j+1)<d.dirty.length-j;omega,⟨(iq rfl),trivial⟩,⟨(congrArg (AO.arr 123 2) (rowsWV_succ hj hul)),trivial⟩,⟨rfl,rfl,rfl,rfl,trivial⟩,⟨rfl,rfl,rfl,rfl,trivial⟩,(by rw[famW_succ hj hul];exact tlp)⟩
  ·intro h2
   refine aE<|eT<|eT<|eB<|gT<|aS ?_
   have hje:j=d.dirty.length:=by have h:=h2;simp only[decide_eq_false_iff_not]at h;omega
   subst hje
   rw[List.take_length]at hfr2 hfl2 ⊢
   have hfrD:rowF (famD vs us d):=famD_row
   refine aL<|loX (.agg [.own _,.own _]) ty.kd34 Z<|lst (zB 2002 ty.co34 ty.inf34 Z) Z ?_
   refine lTt ((famD vs us d)) [2] [1,2,2001,2002,2003] ?_
   refine nG<|aR ?_
   skip
   refine end_nret (F1:=(famD vs us d)) (oDisk) (obD vs us d) ?_ (by have:=hs.lc;have:=hs.lw;unfold famD;rw[List.length_append];omega) rfl rfl ⟨rfl,rfl,trivial⟩ tlp
   exact⟨vs,us,hvl,hul,rfl,rfl,rfl⟩
theorem rdDisk{H:Nat→AO}{F:List AO}{a b:Nat}{pa pb:Option Value}{vs us:List Value}{d:Disk}{s:Nat}(hT:Tl H F)(ha:H a=.arr ⟨115,pa⟩ 1 (rowsCV vs))(hb:H b=.arr ⟨123,pb⟩ 2 (rowsWV us d.dirty))(hv:vs.length=d.cells.length)(hu:us.length=d.dirty.length)(hF:∀i,i<(famD vs us d).length→F[s+i]? = (famD vs us d)[i]?):Reads H (.agg [.own a,.own b]) (diskV d):=by
 have l1:(famB vs (byC d.cells)).length=d.cells.length:=by rw[famB_len (by simpa using hv),List.length_map]
 have l2:(famB us (byW d.dirty)).length=d.dirty.length:=by rw[famB_len (by simpa using hu),List.length_map]
 have k1:∀i,i<d.cells.length→F[s+i]? = (famB vs (byC d.cells))[i]?:=fun i hi=>by
  rw[hF i (by unfold famD;rw[List.length_append];omega)];unfold famD;rw[List.getElem?_append_left (by omega)]
 have k2:∀i,i<d.dirty.length→F[s+d.cells.length+i]? = (famB us (byW d.dirty))[i]?:=fun i hi=>by
  rw[Nat.add_assoc,hF (d.cells.length+i) (by unfold famD;rw[List.length_append];omega)];unfold famD;rw[List.getElem?_append_right (by omega)];congr 1;omega
 intro L ρ w c hob hx
 exact Reads.agg (.cons (Reads.own ha (deepCV hT hv k1)) (.cons (Reads.own hb (deepWV hT hu k2)) .nil)) hob hx
theorem famD_len{vs us:List Value}{d:Disk}(hv:vs.length=d.cells.length)(hu:us.length=d.dirty.length):(famD vs us d).length=d.cells.length+d.dirty.length:=by
 unfold famD
 rw[List.length_append,famB_len (by simpa using hv),famB_len (by simpa using hu),List.length_map,List.length_map]
theorem famD_w{vs us:List Value}{u:Value}{d:Disk}{i:Nat}{b:List Int}(hu:us.length=d.dirty.length):famD vs us d++[uAr u b]=famD vs (us++[u]) (diskW d i b):=by
 unfold famD diskW
 rw[List.append_assoc]
 exact congrArg (famB vs (byC d.cells)++·) (by unfold byW;rw[List.map_append];exact(famB_app (by simpa using hu)).symm)
theorem rowsW_w{us:List Value}{u:Value}{d:Disk}{i:Nat}{b:List Int}(hu:us.length=d.dirty.length):rowsWV us d.dirty++[[.v (.int .i64 (i:Int)),.v u]]=rowsWV (us++[u]) (diskW d i b).dirty:=(rowsWV_app (w:=⟨i,b⟩) hu).symm
theorem dok_diskW{d:Disk}{i:Nat}{b:List Int}(hd:diskOk d=true)(hi:i<d.cells.length)(hw:d.dirty.length<600)(hb:b.length=128):diskOk (diskW d i b)=true:=by
 obtain⟨h1,h2,h3⟩:=dok_iff hd
 refine dok_y (by unfold diskW;simp;omega) h2 ?_
 show (d.dirty++[(⟨(i:Int),b⟩:Write)]).all (wrOk d.cells.length)=true
 rw[List.all_append,h3]
 unfold wrOk inB
 simp[hb]
 omega
def wrRel(d:Disk):AV→List (Nat×AO)→List AO→Prop:=fun y l1 F1=>∃vs us:List Value,vs.length=d.cells.length∧us.length=d.dirty.length∧y=.tup [oDisk,boo true]∧l1=obD vs us d∧F1=famD vs us d
theorem diskWrite_n(d:Disk)(i:Nat)(b:List Int)(hd:diskOk d=true)(hi:i<d.cells.length)(hw:d.dirty.length<600)(hb:b.length=128):GN Try.prog 51 [diskV d,int (i:Int),byV b] [] ([]) (wrRel (diskW d i b)):=by
 refine GN.intro (rs:=[.cell 6 34 (some 2),.tmp 7]) Try.func51 rfl Try.ntmps51 (Nat.le_of_ble_eq_true rfl) ⟨rfl,rfl,ty.kd34,rfl,trivial⟩ rfl ?_
 intro L O w0
 refine sL<|lst (zX 2003 Z) Z<|lst (zA 2006 ty.ze34 Z) Z<|laZ Z<|nG<|aS<|aS ?_
 have hsz:=(dok_iff hd).1
 refine aL<|loX (.agg [vL _ _ _,vL _ _ _]) ty.kd34 Z<|lst (zC [] [] [] Try.func46 (diskOk_e d) (trivial) Z Z) Z<|lsB 10 true Z (hd)<|luZ Z<|nG<|aN Z<|aK<|gA<|loX (.agg [vL _ _ _,vL _ _ _]) ty.kd34 Z ?_
 refine AL.stx (StX.callN (F:=[]) [(1,1),(2,2)] [1,2] [] ([]).length Try.func78 (copyDisk_n d (dok_s hd)) tlp List.drop_length List.take_length (Nat.le_refl _) (by first|(simp;done)|(simp[famB_len, *];omega)) (fun _ _ _ _=>trivial) rfl rfl) rfl ?_
 rintro _ _ ⟨xz1,oz1,Fz1,hz1,hF1,hM1,rfl,rfl⟩
 obtain⟨vs,us,hvl,hul,rfl,rfl,rfl⟩:=hz1
 have hrf1:rowF ([]++famD vs us d):=rowF.app (by first|assumption|exact rowF.nil) hF1
 refine lst (zA 2008 ty.ze34 Z) Z<|lst (zB 2008 ty.co34 ty.inf34 Z) Z<|nG<|aS<|aF [7,9]<|pq 0 (qf 1 ty.F34_1 Z)<|sq 1 (roO ty.kd32 Z)<|pq 2 (qmX (vI _ _) Z)<|vq 3 (rmL Z) ?_
 refine AF.stx (i:=4) rfl (by kernel_rfl) (StX.callN (F:=([]++famD vs us d)) [] [] [] (([]++famD vs us d)).length Try.func99 (copyBytes_n b (by omega)) tlp List.drop_length List.take_length (Nat.le_refl _) (by first|(rw[List.length_append,hfl,hfl2];omega)|(rw[hfl];omega)|(rw[List.nil_append,famD_len hvl hul];omega)) (fun _ _ _ _=>trivial) rfl rfl) (.inr rfl) rfl ?_
 rintro _ _ ⟨xz3,oz3,Fz3,hz3,hF3,hM3,rfl,rfl⟩
 obtain⟨u3,rfl,rfl,rfl⟩:=hz3
 have hrf3:rowF (([]++famD vs us d)++[uAr u3 b]):=rowF.app (by first|assumption|exact rowF.nil) hF3
 refine fTt ((([]++famD vs us d)++[uAr u3 b])) [6,7,8,16,17,19] [1,2,2003,2006,2008] ?_
 refine vq 5 (rd (x:=.agg [vI _ _,vV _]) (rd_build rfl ty.sa123 rfl rfl rfl) rfl)<|vst 6 rfl (zS 2021 [[.v (.int .i64 (i:Int)),.v u3]] ty.el32 ty.ze123 rfl (by intro r hr;simp at hr;subst hr;rfl)) (.inr rfl)<|vst 7 rfl (zP 2 ty.el32 ty.ze123 ty.by123 rfl (Src.own rfl rfl) (by first|(simp[rowsWV_len hul];done)|(simp[rowsWV_len hul];omega))) (.inl rfl)<|vq 8 (rf 1 ty.F34_1 rfl)<|vst 9 rfl (zB 2008 ty.co32 ty.inf32 rfl) (.inl rfl)<|fD<|gT<|aS<|aS ?_
 rw[List.nil_append,famD_w (i:=i) (b:=b) hul]
 have hrfw:rowF (famD vs (us++[u3]) (diskW d i b)):=famD_row
 refine AW.obj 2 (.arr 123 2 (rowsWV (us++[u3]) (diskW d i b).dirty)) (congrArg (AO.arr 123 2) (rowsW_w hul)) ?_
 refine aL<|loX (.agg [.own _,.own _]) ty.kd34 Z<|lst (zLN Try.func46 (diskOk_e (diskW d i b)) rfl (.cons (rdDisk (vs:=vs) (us:=us++[u3]) (d:=(diskW d i b)) (s:=0) tlp rfl rfl hvl (by rw[List.length_append,hul];unfold diskW;rw[List.length_append];rfl) (fun j _=>by rw[Nat.zero_add])) .nil)) Z<|lsB 25 true rfl (dok_diskW hd hi hw hb)<|luZ Z<|nG<|aN Z<|aK<|gA<|loX (.agg [.own _,.own _]) ty.kd34 Z<|lst (zB 2006 ty.co34 ty.inf34 rfl) Z<|laT Z<|nG<|aR ?_
 skip
 refine end_nret (F1:=(famD vs (us++[u3]) (diskW d i b))) (.tup [oDisk,boo true]) (obD vs (us++[u3]) (diskW d i b)) ?_ (by unfold famD diskW;rw[List.length_append,famB_len (by simpa using hvl),famB_len (by simpa using hul)];simp;omega) rfl rfl ⟨rfl,rfl,trivial⟩ tlp
 exact⟨vs,us++[u3],hvl,by rw[List.length_append,hul];unfold diskW;rw[List.length_append];rfl,rfl,rfl,rfl⟩

theorem ad1{l:Log}{e:Event}(h:diskOk l.disk=false∨inB l.next 0 l.disk.cells.length=false∨inB l.epoch 1 16000000=false∨eventOk e=false):lgAddC l e=1:=by
 unfold lgAddC
 rw[if_neg]
 rcases h with h|h|h|h<;>simp[h]
theorem ad2{l:Log}{e:Event}(h1:diskOk l.disk=true)(h2:inB l.next 0 l.disk.cells.length=true)(h3:inB l.epoch 1 16000000=true)(h4:eventOk e=true)(h5:l.next=l.disk.cells.length∨600≤l.disk.dirty.length):lgAddC l e=2:=by
 unfold lgAddC
 rw[h1,h2,h3,h4,if_pos (by simp),if_pos h5]
theorem ad0{l:Log}{e:Event}(h1:diskOk l.disk=true)(h2:inB l.next 0 l.disk.cells.length=true)(h3:inB l.epoch 1 16000000=true)(h4:eventOk e=true)(h5:¬(l.next=l.disk.cells.length∨600≤l.disk.dirty.length)):lgAddC l e=0:=by
 unfold lgAddC
 rw[h1,h2,h3,h4,if_pos (by simp),if_neg h5]
theorem adL_n{l:Log}{e:Event}(h:lgAddC l e≠0):lgAddL l e=⟨⟨[],[]⟩,0,0⟩:=if_neg h
theorem adL_y{l:Log}{e:Event}(h:lgAddC l e=0):lgAddL l e=⟨diskW l.disk l.next.toNat (secB ⟨l.next,l.epoch,evB e⟩),l.next+1,l.epoch⟩:=if_pos h
theorem inB_iff{n a b:Int}:inB n a b=true↔a≤n∧n≤b:=by unfold inB;simp
theorem adSec{l:Log}{e:Event}(h1:diskOk l.disk=true)(h2:inB l.next 0 l.disk.cells.length=true)(h3:inB l.epoch 1 16000000=true)(h5:l.next≠l.disk.cells.length):secOk ⟨l.next,l.epoch,evB e⟩=true:=secOk_iff.2 (by
 have:=(dok_iff h1).1
 have:=inB_iff.1 h2
 have:=inB_iff.1 h3
 rw[evB_length]
 simp only
 omega)
def lgAdRel(l:Log)(c:Int):AV→List (Nat×AO)→List AO→Prop:=fun y l1 F1=>∃vs us:List Value,vs.length=l.disk.cells.length∧us.length=l.disk.dirty.length∧y=.tup [.agg [.own 1,.own 2,int l.next,int l.epoch],int c]∧l1=obD vs us l.disk∧F1=famD vs us l.disk
def lgRel(l:Log):AV→List (Nat×AO)→List AO→Prop:=fun y l1 F1=>∃vs us:List Value,vs.length=l.disk.cells.length∧us.length=l.disk.dirty.length∧y=.agg [.own 1,.own 2,int l.next,int l.epoch]∧l1=obD vs us l.disk∧F1=famD vs us l.disk
theorem logAdd_n(l:Log)(e:Event):GN Try.prog 13 [logV l,evV e] [] ([]) (lgAdRel (lgAddL l e) (lgAddC l e)):=by
 refine GN.intro (rs:=[.cell 4 36 (some 4),.tmp 5]) Try.func13 rfl Try.ntmps13 (Nat.le_of_ble_eq_true rfl) ⟨rfl,rfl,ty.kd36,rfl,trivial⟩ rfl ?_
 intro L O w0
 refine sL<|lst (zX 2002 Z) Z<|lst (zX 2003 Z) Z<|lst (zA 2004 ty.ze36 Z) Z<|laI Z<|nG<|aS<|sL<|lf 0 ty.F36_0 Z<|loX (.agg [vL _ _ _,vL _ _ _]) ty.kd34 Z<|lst (zC [] [] [] Try.func46 (diskOk_e l.disk) (trivial) Z Z) Z<|luB Z<|lmB Z ?_
 refine AL.bool (t:=16) rfl ?_ ?_
 ·intro h1
  refine lno Z<|lno Z<|lno Z<|lno Z<|lno Z<|lno Z<|lno Z<|lno Z<|lkT Z<|lmT Z<|lno Z<|lno Z<|lno Z<|lno Z<|lkT Z<|lmT Z<|lno Z<|lno Z<|lno Z<|lkT Z<|nG<|aY Z<|sL<|lq (rd (x:=.agg [vV _,vV _,vI _ _,vI _ _]) (rd_build Z ty.sa36 Z Z Z) Z)<|lst (zB 2004 ty.co36 ty.inf36 Z) Z ?_
  refine lTt ([]) [2,3,4,5] [2002,2003,2004] ?_
  refine laI Z<|nG ?_
  refine AW.adoptB 1 2004 0 115 1 rfl (by decide) rfl ?_
  refine AW.adoptB 2 2004 1 123 2 rfl (by decide) rfl ?_
  refine aR<|rT ?_
  have hc:lgAddC l e=1:=ad1 (by first|exact .inl (by simpa using h1)|exact .inr (.inl (by simpa using h1))|exact .inr (.inr (.inl (by simpa using h1)))|exact .inr (.inr (.inr (by simpa using h1))))
  have hL:=adL_n (l:=l) (e:=e) (by rw[hc];decide)
  rw[hc,hL]
  refine end_nret (F1:=[]) (.tup [.agg [.own 1,.own 2,int 0,int 0],int 1]) (obD [] [] ⟨[],[]⟩) ?_ (by decide) rfl rfl ⟨rfl,rfl,trivial⟩ tlp
  exact⟨[],[],rfl,rfl,rfl,rfl,rfl⟩
 ·intro h1
  refine lf 2 ty.F36_1 Z<|loI ty.kd3 Z<|lf 0 ty.F36_0 Z<|lf 0 ty.F34_0 Z<|loL ty.kd31 Z<|lnI ty.sl31 Z ?_
  refine AL.slot 22 (int (l.disk.cells.length:Int)) (congrArg (fun n:Nat=>int (n:Int)) (rowsC_len _)) ?_
  refine lst (zL Try.func47 (in_e _ _ _) Z) Z<|luB Z<|lkB Z<|lmB Z ?_
  refine AL.bool (t:=26) rfl ?_ ?_
  ·intro h2
   refine lno Z<|lno Z<|lno Z<|lno Z<|lkT Z<|lmT Z<|lno Z<|lno Z<|lno Z<|lkT Z<|nG<|aY Z<|sL<|lq (rd (x:=.agg [vV _,vV _,vI _ _,vI _ _]) (rd_build Z ty.sa36 Z Z Z) Z)<|lst (zB 2004 ty.co36 ty.inf36 Z) Z ?_
   refine lTt ([]) [2,3,4,5] [2002,2003,2004] ?_
   refine laI Z<|nG ?_
   refine AW.adoptB 1 2004 0 115 1 rfl (by decide) rfl ?_
   refine AW.adoptB 2 2004 1 123 2 rfl (by decide) rfl ?_
   refine aR<|rT ?_
   have hc:lgAddC l e=1:=ad1 (by first|exact .inl (by simpa using h2)|exact .inr (.inl (by simpa using h2))|exact .inr (.inr (.inl (by simpa using h2)))|exact .inr (.inr (.inr (by simpa using h2)))|exact .inl (by simpa using h1)|exact .inr (.inl (by simpa using h1))|exact .inr (.inr (.inl (by simpa using h1)))|exact .inr (.inr (.inr (by simpa using h1))))
   have hL:=adL_n (l:=l) (e:=e) (by rw[hc];decide)
   rw[hc,hL]
   refine end_nret (F1:=[]) (.tup [.agg [.own 1,.own 2,int 0,int 0],int 1]) (obD [] [] ⟨[],[]⟩) ?_ (by decide) rfl rfl ⟨rfl,rfl,trivial⟩ tlp
   exact⟨[],[],rfl,rfl,rfl,rfl,rfl⟩
  ·intro h2
   refine lf 3 ty.F36_2 Z<|loI ty.kd3 Z<|lst (zL Try.func47 (in_e _ _ _) Z) Z<|luB Z<|lkB Z<|lmB Z ?_
   refine AL.bool (t:=32) rfl ?_ ?_
   ·intro h3
    refine lno Z<|lno Z<|lno Z<|lkT Z<|nG<|aY Z<|sL<|lq (rd (x:=.agg [vV _,vV _,vI _ _,vI _ _]) (rd_build Z ty.sa36 Z Z Z) Z)<|lst (zB 2004 ty.co36 ty.inf36 Z) Z<|laI Z<|nG ?_
    refine AW.adoptB 1 2004 0 115 1 rfl (by decide) rfl ?_
    refine AW.adoptB 2 2004 1 123 2 rfl (by decide) rfl ?_
    refine aR<|rT ?_
    have hc:lgAddC l e=1:=ad1 (by first|exact .inl (by simpa using h3)|exact .inr (.inl (by simpa using h3))|exact .inr (.inr (.inl (by simpa using h3)))|exact .inr (.inr (.inr (by simpa using h3)))|exact .inl (by simpa using h2)|exact .inr (.inl (by simpa using h2))|exact .inr (.inr (.inl (by simpa using h2)))|exact .inr (.inr (.inr (by simpa using h2)))|exact .inl (by simpa using h1)|exact .inr (.inl (by simpa using h1))|exact .inr (.inr (.inl (by simpa using h1)))|exact .inr (.inr (.inr (by simpa using h1))))
    have hL:=adL_n (l:=l) (e:=e) (by rw[hc];decide)
    rw[hc,hL]
    refine end_nret (F1:=[]) (.tup [.agg [.own 1,.own 2,int 0,int 0],int 1]) (obD [] [] ⟨[],[]⟩) ?_ (by decide) rfl rfl ⟨rfl,rfl,trivial⟩ tlp
    exact⟨[],[],rfl,rfl,rfl,rfl,rfl⟩
   ·intro h3
    refine loX (.agg [vI _ _,vI _ _,vI _ _,vI _ _,vI _ _,vI _ _,vB _]) ty.kd40 Z<|lst (zC [] [] [] Try.func48 (eventOk_e e) (trivial) Z Z) Z<|luB Z<|lkB Z<|nG ?_
    refine AW.cond rfl ?_ ?_
    ·intro h4
     refine sL<|lq (rd (x:=.agg [vV _,vV _,vI _ _,vI _ _]) (rd_build Z ty.sa36 Z Z Z) Z)<|lst (zB 2004 ty.co36 ty.inf36 Z) Z ?_
     refine lTt ([]) [2,3,4,5] [2002,2003,2004] ?_
     refine laI Z<|nG ?_
     refine AW.adoptB 1 2004 0 115 1 rfl (by decide) rfl ?_
     refine AW.adoptB 2 2004 1 123 2 rfl (by decide) rfl ?_
     refine aR<|rT ?_
     have hc:lgAddC l e=1:=ad1 (by first|exact .inl (by simpa using h4)|exact .inr (.inl (by simpa using h4))|exact .inr (.inr (.inl (by simpa using h4)))|exact .inr (.inr (.inr (by simpa using h4)))|exact .inl (by simpa using h3)|exact .inr (.inl (by simpa using h3))|exact .inr (.inr (.inl (by simpa using h3)))|exact .inr (.inr (.inr (by simpa using h3)))|exact .inl (by simpa using h2)|exact .inr (.inl (by simpa using h2))|exact .inr (.inr (.inl (by simpa using h2)))|exact .inr (.inr (.inr (by simpa using h2)))|exact .inl (by simpa using h1)|exact .inr (.inl (by simpa using h1))|exact .inr (.inr (.inl (by simpa using h1)))|exact .inr (.inr (.inr (by simpa using h1))))
     have hL:=adL_n (l:=l) (e:=e) (by rw[hc];decide)
     rw[hc,hL]
     refine end_nret (F1:=[]) (.tup [.agg [.own 1,.own 2,int 0,int 0],int 1]) (obD [] [] ⟨[],[]⟩) ?_ (by decide) rfl rfl ⟨rfl,rfl,trivial⟩ tlp
     exact⟨[],[],rfl,rfl,rfl,rfl,rfl⟩
    ·intro h4
     refine aK<|gT<|aS<|aS ?_
     have hd:diskOk l.disk=true:=by first|(have h:=h4;simpa using h;done)|(have h:=h3;simpa using h;done)|(have h:=h2;simpa using h;done)|(have h:=h1;simpa using h;done)
     have hi:inB l.next 0 l.disk.cells.length=true:=by first|(have h:=h4;simpa using h;done)|(have h:=h3;simpa using h;done)|(have h:=h2;simpa using h;done)|(have h:=h1;simpa using h;done)
     have hp:inB l.epoch 1 16000000=true:=by first|(have h:=h4;simpa using h;done)|(have h:=h3;simpa using h;done)|(have h:=h2;simpa using h;done)|(have h:=h1;simpa using h;done)
     have he:eventOk e=true:=by first|(have h:=h4;simpa using h;done)|(have h:=h3;simpa using h;done)|(have h:=h2;simpa using h;done)|(have h:=h1;simpa using h;done)
     have hsz:=(dok_iff hd).1
     have hi2:=inB_iff.1 hi
     refine aL<|lf 2 ty.F36_1 Z<|loI ty.kd3 Z<|lf 0 ty.F36_0 Z<|lf 0 ty.F34_0 Z<|loL ty.kd31 Z<|lnI ty.sl31 Z ?_
     refine AL.slot 43 (int (l.disk.cells.length:Int)) (congrArg (fun n:Nat=>int (n:Int)) (rowsC_len _)) ?_
     refine lbB Z<|lmB Z ?_
     refine AL.bool (t:=45) rfl ?_ ?_
     ·intro h5
      refine lno Z<|lno Z<|lno Z<|lno Z<|lno Z<|lkT Z<|nG<|aY Z<|sL<|lq (rd (x:=.agg [vV _,vV _,vI _ _,vI _ _]) (rd_build Z ty.sa36 Z Z Z) Z)<|lst (zB 2004 ty.co36 ty.inf36 Z) Z<|laI Z<|nG ?_
      refine AW.adoptB 1 2004 0 115 1 rfl (by decide) rfl ?_
      refine AW.adoptB 2 2004 1 123 2 rfl (by decide) rfl ?_
      refine aR<|rT ?_
      have hc:lgAddC l e=2:=ad2 hd hi hp he (by first|exact .inl (by have h:=h5;simp only[decide_eq_true_eq]at h;omega)|exact .inr (by have h:=h5;simp only[ge_iff_le,decide_eq_true_eq]at h;omega)|exact .inl (by have h:=h4;simp only[decide_eq_true_eq]at h;omega)|exact .inr (by have h:=h4;simp only[ge_iff_le,decide_eq_true_eq]at h;omega)|exact .inl (by have h:=h3;simp only[decide_eq_true_eq]at h;omega)|exact .inr (by have h:=h3;simp only[ge_iff_le,decide_eq_true_eq]at h;omega)|exact .inl (by have h:=h2;simp only[decide_eq_true_eq]at h;omega)|exact .inr (by have h:=h2;simp only[ge_iff_le,decide_eq_true_eq]at h;omega)|exact .inl (by have h:=h1;simp only[decide_eq_true_eq]at h;omega)|exact .inr (by have h:=h1;simp only[ge_iff_le,decide_eq_true_eq]at h;omega))
      have hL:=adL_n (l:=l) (e:=e) (by rw[hc];decide)
      rw[hc,hL]
      refine end_nret (F1:=[]) (.tup [.agg [.own 1,.own 2,int 0,int 0],int 2]) (obD [] [] ⟨[],[]⟩) ?_ (by decide) rfl rfl ⟨rfl,rfl,trivial⟩ tlp
      exact⟨[],[],rfl,rfl,rfl,rfl,rfl⟩
     ·intro h5
      refine lf 0 ty.F36_0 Z<|lf 1 ty.F34_1 Z<|loL ty.kd32 Z<|lnI ty.sl32 Z ?_
      refine AL.slot 49 (int (l.disk.dirty.length:Int)) (congrArg (fun n:Nat=>int (n:Int)) (rowsW_len _)) ?_
      refine lbB Z<|lkB Z<|nG ?_
      refine AW.cond rfl ?_ ?_
      ·intro h6
       refine sL<|lq (rd (x:=.agg [vV _,vV _,vI _ _,vI _ _]) (rd_build Z ty.sa36 Z Z Z) Z)<|lst (zB 2004 ty.co36 ty.inf36 Z) Z ?_
       refine lTt ([]) [2,3,4,5] [2002,2003,2004] ?_
       refine laI Z<|nG ?_
       refine AW.adoptB 1 2004 0 115 1 rfl (by decide) rfl ?_
       refine AW.adoptB 2 2004 1 123 2 rfl (by decide) rfl ?_
       refine aR<|rT ?_
       have hc:lgAddC l e=2:=ad2 hd hi hp he (by first|exact .inl (by have h:=h6;simp only[decide_eq_true_eq]at h;omega)|exact .inr (by have h:=h6;simp only[ge_iff_le,decide_eq_true_eq]at h;omega)|exact .inl (by have h:=h5;simp only[decide_eq_true_eq]at h;omega)|exact .inr (by have h:=h5;simp only[ge_iff_le,decide_eq_true_eq]at h;omega)|exact .inl (by have h:=h4;simp only[decide_eq_true_eq]at h;omega)|exact .inr (by have h:=h4;simp only[ge_iff_le,decide_eq_true_eq]at h;omega)|exact .inl (by have h:=h3;simp only[decide_eq_true_eq]at h;omega)|exact .inr (by have h:=h3;simp only[ge_iff_le,decide_eq_true_eq]at h;omega)|exact .inl (by have h:=h2;simp only[decide_eq_true_eq]at h;omega)|exact .inr (by have h:=h2;simp only[ge_iff_le,decide_eq_true_eq]at h;omega)|exact .inl (by have h:=h1;simp only[decide_eq_true_eq]at h;omega)|exact .inr (by have h:=h1;simp only[ge_iff_le,decide_eq_true_eq]at h;omega))
       have hL:=adL_n (l:=l) (e:=e) (by rw[hc];decide)
       rw[hc,hL]
       refine end_nret (F1:=[]) (.tup [.agg [.own 1,.own 2,int 0,int 0],int 2]) (obD [] [] ⟨[],[]⟩) ?_ (by decide) rfl rfl ⟨rfl,rfl,trivial⟩ tlp
       exact⟨[],[],rfl,rfl,rfl,rfl,rfl⟩
      ·intro h6
       refine aK<|gT<|aS ?_
       have hn:¬(l.next=l.disk.cells.length∨600≤l.disk.dirty.length):=by
        have h1:=h5
        have h2:=h6
        simp only[ge_iff_le,decide_eq_false_iff_not]at h1 h2
        omega
       have hS:=adSec (e:=e) hd hi hp (by omega)
       have hBl:(secB (⟨l.next,l.epoch,evB e⟩:Sector)).length=128:=secB_length (by rw[show ((⟨l.next,l.epoch,evB e⟩:Sector)).body=evB e from rfl,evB_length];decide)
       refine aL<|loX (.agg [vI _ _,vI _ _,vI _ _,vI _ _,vI _ _,vI _ _,vB _]) ty.kd40 Z<|lst (zC [] [] [] Try.func49 (eventBody_e e) (trivial) Z Z) Z ?_
       refine AL.slot 55 (.tup [byV (evB e),boo true]) (Eq.trans (b:=AV.tup [byV (evX e),boo (eventOk e)]) rfl (by rw[evX_y he,he])) ?_
       refine lmX (.tup [vL _ _ _,vB _]) Z<|lxL Z<|lxB Z<|laL Z<|laB Z<|nA<|lf 2 ty.F36_1 Z<|loI ty.kd3 Z<|lf 3 ty.F36_2 Z<|loI ty.kd3 Z<|lmL Z<|lq (rd (x:=.agg [vI _ _,vI _ _,vL _ _ _]) (rd_build Z ty.sa92 Z Z Z) Z) ?_
       refine lst (zC [] [] [] Try.func50 (sectorBytes_e (⟨l.next,l.epoch,evB e⟩:Sector)) (trivial) rfl rfl) rfl ?_
       refine AL.slot 65 (.tup [byV (secB (⟨l.next,l.epoch,evB e⟩:Sector)),boo true]) (Eq.trans (b:=AV.tup [byV (secX (⟨l.next,l.epoch,evB e⟩:Sector)),boo (secOk (⟨l.next,l.epoch,evB e⟩:Sector))]) rfl (by rw[secX_y hS,hS])) ?_
       refine lTt ([]) [2,4,5,65] [2002,2003,2004] ?_
       refine lmX (.tup [vL _ _ _,vB _]) Z<|lxL Z<|lxB Z<|laL Z<|laB Z<|nA<|lf 0 ty.F36_0 Z<|loX (.agg [vL _ _ _,vL _ _ _]) ty.kd34 Z<|lf 2 ty.F36_1 Z<|loI ty.kd3 Z<|lsN 72 ((l.next.toNat:Nat):Int) rfl (by omega)<|lmL rfl ?_
       refine AL.stx (StX.callN (F:=[]) [(1,1),(2,2)] [1,2] [] ([]).length Try.func51 (diskWrite_n l.disk l.next.toNat (secB (⟨l.next,l.epoch,evB e⟩:Sector)) hd (by omega) (by omega) hBl) tlp List.drop_length List.take_length (Nat.le_refl _) ((by simp)) (fun _ _ _ _=>trivial) rfl rfl) rfl ?_
       rintro _ _ ⟨xz1,oz1,Fz1,hz1,hF1,hM1,rfl,rfl⟩
       obtain⟨vs,us,hvl,hul,rfl,rfl,rfl⟩:=hz1
       have hrf1:rowF ([]++famD vs us (diskW l.disk l.next.toNat (secB (⟨l.next,l.epoch,evB e⟩:Sector)))):=rowF.app (by first|assumption|exact rowF.nil) hF1
       refine lmX (.tup [.agg [.own _,.own _],vB true]) Z<|lxX (.agg [.own _,.own _]) Z<|lxX (vB true) Z<|lst (zA 2010 ty.ze34 Z) Z ?_
       refine lTt (([]++famD vs us (diskW l.disk l.next.toNat (secB (⟨l.next,l.epoch,evB e⟩:Sector))))) [2,4,5,10,75,76] [1,2,2002,2003,2004,2010] ?_
       refine lst (zB 2010 ty.co34 ty.inf34 Z) Z<|laT Z<|nA<|loX (.agg [.own _,.own _]) ty.kd34 Z<|lf 2 ty.F36_1 Z<|loI ty.kd3 Z<|lgI Z<|lf 3 ty.F36_2 Z<|loI ty.kd3 Z<|lq (rd (x:=.agg [.own _,.own _,vI _ _,vI _ _]) (rd_build Z ty.sa36 Z Z Z) Z)<|lst (zB 2004 ty.co36 ty.inf36 Z) Z<|laI Z<|nG<|aR ?_
       have hc:lgAddC l e=0:=ad0 hd hi hp he hn
       have hL:=adL_y hc
       have hrfD:rowF (famD vs us (diskW l.disk l.next.toNat (secB (⟨l.next,l.epoch,evB e⟩:Sector)))):=famD_row
       rw[List.nil_append,hc,hL]
       refine end_nret (F1:=(famD vs us (diskW l.disk l.next.toNat (secB (⟨l.next,l.epoch,evB e⟩:Sector))))) (.tup [.agg [.own 1,.own 2,int (l.next+1),int l.epoch],int 0]) (obD vs us (diskW l.disk l.next.toNat (secB (⟨l.next,l.epoch,evB e⟩:Sector)))) ?_ (by rw[famD_len hvl hul];unfold diskW;simp;omega) rfl rfl ⟨rfl,rfl,trivial⟩ tlp
       exact⟨vs,us,hvl,hul,rfl,rfl,rfl⟩

def A50(n:Int):Prop:=-1125899906842624≤n∧n≤1125899906842624
structure BookSm(x:Book):Prop where
 tick:A50 x.tick
 next:A50 x.next
 wallet:A50 x.wallet
 chans:∀c∈x.chans,A50 c.loc∧A50 c.remote∧A50 c.score∧A50 c.base∧A50 c.ppm
 htlcs:∀h∈x.htlcs,A50 h.amtIn∧A50 h.amtOut∧0≤h.age∧h.age≤1125899906842624∧0≤h.amtOut
 circles:∀c∈x.circles,A50 c.amt∧A50 c.fee
 lc:x.chans.length≤20
 lh:x.htlcs.length≤60
 li:x.circles.length≤20
structure EvSm(e:Event):Prop where
 amt:A50 e.amt
 fee:A50 e.fee
theorem BookSm.hs{x:Book}(h:BookSm x):SmallH x.htlcs:=⟨h.lh,fun y hy=>⟨(h.htlcs y hy).2.2.2.2,(h.htlcs y hy).2.1.2⟩⟩

structure BookFi(x:Book):Prop where
 sm:BookSm x
 ids:x.chans.Pairwise fun a b=>a.id≠b.id
 hks:x.htlcs.Pairwise fun a b=>a.key≠b.key
 iks:x.circles.Pairwise fun a b=>a.key≠b.key
 hch:∀h∈x.htlcs,0≤chanAt x.chans h.inn∧0≤chanAt x.chans h.out∧h.inn≠h.out
 ich:∀h∈x.circles,0≤chanAt x.chans h.frm∧0≤chanAt x.chans h.to∧h.frm≠h.to
end Go.Proofs.Yteblcdnhnckkaaa

