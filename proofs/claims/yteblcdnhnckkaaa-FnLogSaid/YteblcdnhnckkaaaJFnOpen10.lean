/- FnLog is proved: the given statement holds with no condition. Texts joined: EQ1, E35, EQ2, MkD, EP2, EP3, EQ3, LogL, EQ4, LFnLog, CFnLog. -/
import Derived.Test.YteblcdnhnckkaaaJFnOpen9
import Derived.Test.YteblcdnhnckkaaaJFnOpen4
import Derived.Test.YteblcdnhnckkaaaJFnOpen5
import Derived.Test.YteblcdnhnckkaaaJFnOpen6
import Derived.Test.YteblcdnhnckkaaaRows
import Derived.Test.YteblcdnhnckkaaaKOpn
namespace Go.Proofs.Yteblcdnhnckkaaa
open Go.RowKit
set_option maxHeartbeats 16000000
set_option maxRecDepth 100000
set_option linter.unusedSimpArgs false
set_option linter.unusedVariables false
def DrY(m:Nat):AV→Prop:=fun x=>∃b,BytesOk b∧b.length≤m∧x=byV b
def DrS:AV→Prop:=fun x=>∃q,secOk q=true∧BytesOk q.body∧x=secV q
def DrD:AV→List (Nat×AO)→Prop:=fun x ob2=>∃d,diskOk d=true∧DkB d∧x=oDisk∧ob2=obF d
def DrD2:AV→List (Nat×AO)→Prop:=fun x ob2=>∃d,DkB d∧x=oDisk∧ob2=obF d
abbrev newD(n:Nat):Disk:=⟨List.replicate n ⟨[]⟩,[]⟩
theorem newD_b(n:Nat):DkB (newD n):=⟨(fun c hc=>by rw[(List.mem_replicate.1 hc).2];exact .nil),(fun w hw=>by cases hw)⟩
theorem newD_ok{n:Nat}(h1:1≤n)(h2:n≤600):diskOk (newD n)=true:=dok_y (by simp;omega) (List.all_eq_true.2 fun c hc=>by rw[(List.mem_replicate.1 hc).2];rfl) rfl
theorem syncs_mem:∀ {ws:List Write} {cs:List Cell} {c:Cell},c∈ws.foldl syncStep cs→c∈cs∨∃w∈ws,c.bytes=w.bytes
 |[],_,_,h=>.inl h
 |w::ws,cs,c,h=>by
  rw[List.foldl_cons]at h
  rcases syncs_mem h with q|⟨w',q1,q2⟩
  ·rcases List.mem_or_eq_of_mem_set q with z|rfl
   ·exact .inl z
   ·exact .inr ⟨w,by simp,rfl⟩
  ·exact .inr ⟨w',by simp[q1],q2⟩
theorem dkb_sync{d:Disk}(hb:DkB d):DkB (diskS d):=by
 unfold diskS
 split
 ·refine⟨fun c hc=>?_,fun w hw=>by cases hw⟩
  rcases syncs_mem hc with q|⟨w,q1,q2⟩
  ·exact hb.1 c q
  ·rw[q2];exact hb.2 w q1
 ·exact⟨(fun c hc=>by cases hc),(fun c hc=>by cases hc)⟩
theorem dkb_w{d:Disk}{i:Nat}{b:List Int}(hb:DkB d)(h:BytesOk b):DkB (diskW d i b):=⟨hb.1,fun w hw=>by
 rcases List.mem_append.1 hw with q|q
 ·exact hb.2 w q
 ·rw[List.mem_singleton.1 q];exact h⟩
theorem full_b{b:List Int}(h:BytesOk b):BytesOk (fullB b):=by
 unfold fullB
 split
 ·exact .zero 128
 ·exact h
theorem crash_inv{keep:List Int}:∀(ws:List Write) (k:Nat) (cs:List Cell),(∀w∈ws,w.bytes.length=128∧BytesOk w.bytes)→cs.all cellOk=true→(∀c∈cs,BytesOk c.bytes)→(crashGo keep ws k cs).all cellOk=true∧(crashGo keep ws k cs).length=cs.length∧∀c∈crashGo keep ws k cs,BytesOk c.bytes
 |[],_,cs,_,h2,h3=>⟨h2,rfl,h3⟩
 |w::ws,k,cs,h1,h2,h3=>by
  have hw:=h1 w (by simp)
  have step:(crashStep keep cs k w).all cellOk=true∧(crashStep keep cs k w).length=cs.length∧∀c∈crashStep keep cs k w,BytesOk c.bytes:=by
   unfold crashStep
   split
   ·exact⟨h2,rfl,h3⟩
   ·have ho:∀c,c=(cs[w.at_.toNat]?).getD ⟨[]⟩→cellOk c=true∧BytesOk c.bytes:=fun c hc=>by
     cases e:cs[w.at_.toNat]? with
     |none=>rw[e]at hc;subst hc;exact⟨rfl,.nil⟩
     |some x=>
      rw[e]at hc;subst hc
      exact⟨List.all_eq_true.1 h2 _ (List.mem_of_getElem? e),h3 _ (List.mem_of_getElem? e)⟩
    obtain⟨o1,o2⟩:=ho _ rfl
    have hk:crashK keep k≤128:=by unfold crashK;omega
    refine⟨cells_set h2 (torn_len (full_len o1) hw.1 hk),List.length_set ..,fun c hc=>?_⟩
    rcases List.mem_or_eq_of_mem_set hc with z|rfl
    ·exact h3 c z
    ·exact(hw.2.take _).app ((full_b o2).drop _)
  have ih:=crash_inv (keep:=keep) ws (k+1) _ (fun x hx=>h1 x (by simp[hx])) step.1 step.2.2
  exact⟨ih.1,ih.2.1.trans step.2.1,ih.2.2⟩
theorem crash_ok{d:Disk}{keep:List Int}(h:diskOk d=true)(hb:DkB d):diskOk (diskC d keep)=true∧DkB (diskC d keep)∧(diskC d keep).dirty=[]:=by
 have h1:=dok_iff h
 obtain⟨i1,i2,i3⟩:=crash_inv (keep:=keep) d.dirty 0 d.cells (fun w hw=>by
  obtain⟨j,hj,rfl⟩:=List.getElem_of_mem hw
  exact⟨dok_w h hj,hb.2 _ hw⟩) h1.2.1 hb.1
 rw[diskC_y h]
 exact⟨dok_y ⟨by show 1≤(crashGo ..).length;omega,by show (crashGo ..).length≤600;omega,Nat.zero_le _⟩ i1 rfl,⟨i3,fun w hw=>by cases hw⟩,rfl⟩
theorem syncs_ok2:∀(ws:List Write) (cs:List Cell),cs.all cellOk=true→(∀w∈ws,w.bytes.length=128)→(ws.foldl syncStep cs).all cellOk=true
 |[],cs,h,_=>h
 |w::ws,cs,h,hw=>by
  rw[List.foldl_cons]
  exact syncs_ok2 ws _ (cells_set h (hw w (by simp))) (fun x hx=>hw x (by simp[hx]))
theorem sync_ok{d:Disk}(h:diskOk d=true):diskOk (diskS d)=true∧(diskS d).dirty=[]:=by
 have h1:=dok_iff h
 rw[diskS_y h]
 refine⟨dok_y ⟨by show 1≤(synK d _).length;rw[synK_len];exact h1.1.1,by show (synK d _).length≤600;rw[synK_len];exact h1.1.2.1,Nat.zero_le _⟩ (syncs_ok2 _ _ h1.2.1 fun w hw=>?_) rfl,rfl⟩
 obtain⟨j,hj,rfl⟩:=List.getElem_of_mem (List.mem_of_mem_take hw)
 exact dok_w h hj
structure DkI(n:Int)(c:List Cell)(w:List Write):Prop where
 ok:diskOk ⟨c,w⟩=true
 by_:DkB ⟨c,w⟩
 n0:0≤n
 nw:(w.length:Int)+n≤6
theorem DkI.sync{n:Int}{c:List Cell}{w:List Write}(h:DkI n c w)(hn:0<n):DkI (n-1) (diskS ⟨c,w⟩).cells (diskS ⟨c,w⟩).dirty:=⟨(sync_ok h.ok).1,dkb_sync h.by_,by omega,by have:=h.nw;rw[(sync_ok h.ok).2];simp;omega⟩
theorem DkI.crash{n:Int}{c:List Cell}{w:List Write}{keep:List Int}(h:DkI n c w)(hn:0<n):DkI (n-1) (diskC ⟨c,w⟩ keep).cells (diskC ⟨c,w⟩ keep).dirty:=⟨(crash_ok h.ok h.by_).1,(crash_ok h.ok h.by_).2.1,by omega,by have:=h.nw;rw[(crash_ok h.ok h.by_).2.2];simp;omega⟩
theorem DkI.wr{n:Int}{c:List Cell}{w:List Write}{i:Nat}{b:List Int}(h:DkI n c w)(hn:0<n)(hi:i<c.length)(hb:b.length=128)(hB:BytesOk b):DkI (n-1) (diskW ⟨c,w⟩ i b).cells (diskW ⟨c,w⟩ i b).dirty:=⟨dok_diskW h.ok hi (by show w.length<600;have:=h.nw;omega) hb,dkb_w h.by_ hB,by omega,by have:=h.nw;show ((w++[_]).length:Int)+(n-1)≤6;rw[List.length_append,List.length_singleton];omega⟩
theorem dkb_setc{c:List Cell}{w:List Write}{i:Nat}{b:List Int}(h:DkB ⟨c,w⟩)(hb:BytesOk b):DkB ⟨c.set i ⟨b⟩,w⟩:=⟨fun x hx=>by
 rcases List.mem_or_eq_of_mem_set hx with q|rfl
 ·exact h.1 x q
 ·exact hb,h.2⟩
theorem dkb_setw{c:List Cell}{w:List Write}{i:Nat}{n:Int}(hi:i<w.length)(h:DkB ⟨c,w⟩):DkB ⟨c,w.set i ⟨n,w[i].bytes⟩⟩:=⟨h.1,fun x hx=>by
 rcases List.mem_or_eq_of_mem_set hx with q|rfl
 ·exact h.2 x q
 ·exact(h.2 w[i] (List.getElem_mem hi):BytesOk w[i].bytes)⟩
theorem dkb_nil{c:List Cell}{w:List Write}(h:DkB ⟨c,w⟩):DkB ⟨[],w⟩:=⟨(fun x hx=>by cases hx),h.2⟩
theorem rowsW_setA{ws:List Write}{i:Nat}{n:Int}(hi:i<ws.length):(rowsW ws).set i [.v (.int .i64 n),lstB ws[i].bytes]=rowsW (ws.set i ⟨n,ws[i].bytes⟩):=by unfold rowsW;rw[List.map_set]
theorem l03Bytes_e(g:Value)(code:List Int)(i:Nat)(h:Int)(m:Nat)(hc:CurOk code i)(hm:m≤100):GX Try.prog 158 [.ptr 0 0 0,int (m:Int)] [(0,curO g code i h)] (DrR g code (DrY m)):=by
 refine GX.intro (rs:=[.tmp 4]) Try.func158 rfl Try.ntmps158 (Nat.le_of_ble_eq_true rfl) ⟨rfl,trivial⟩ ?_
 intro L O w0
 refine sL<|laV Z<|nA<|lmP Z<|lmI Z<|lgI Z ?_
 refine lX [(0,0)] [] [0] Try.func69 (l01Below_e g code _ _ _ hc) (⟨⟨0,rfl,rfl⟩,trivial⟩) (pins_cur) Z ?_
 intro xz1 oz1 hz1
 obtain⟨i1,q1,hc1,⟨n1,⟨na1,nb1⟩,rfl⟩,rfl⟩:=hz1
 refine laI Z<|nA<|lst (zS 2012 (rowsOf encU []) ty.el56 ty.ze5 rfl (by intro r hr;cases hr)) Z<|laO Z<|nG<|aS<|sL<|laI Z<|nG<|aB ?_
 refine aW [0,4,5] [] (D:=Nat×Int×List Int) (fun d=>[(7,int (d.2.2.length:Int)),(6,.own 2012)]) (fun d=>[(0,curO g code d.1 d.2.1),(2012,yAr d.2.2)]) (fun d=>CurOk code d.1∧BytesOk d.2.2∧(d.2.2.length:Int)≤n1) (fun d=>(n1-(d.2.2.length:Int)).toNat) ((_,_,[])) (⟨hc1,.nil,by simpa using na1⟩) ⟨rfl,rfl,trivial⟩ ⟨rfl,rfl,trivial⟩ ?_
 intro ⟨iJ,qJ,b⟩ hI
 dsimp only
 obtain⟨hcJ,hbJ,hlJ⟩:=hI
 replace hcJ:CurOk code iJ:=hcJ
 replace hbJ:BytesOk b:=hbJ
 replace hlJ:(b.length:Int)≤n1:=hlJ
 refine aS<|sL<|lmI Z<|lmI Z<|lbB Z<|nG ?_
 refine AW.cond rfl ?_ ?_
 ·intro h1
  refine aK<|gT<|aS<|aB ?_
  have hk:(b.length:Int)<n1:=by have h:=h1;simpa using h
  refine aL<|lmO Z<|lmP Z ?_
  refine lX [(0,0)] [] [0] Try.func115 (l01Byte_e g code _ _ hcJ) (⟨⟨0,rfl,rfl⟩,trivial⟩) (pins_cur) Z ?_
  intro xz2 oz2 hz2
  obtain⟨i2,q2,hc2,⟨n2,⟨na2,nb2⟩,rfl⟩,rfl⟩:=hz2
  refine lT [0,4,5,6,7,18,20] [0,2012] ?_
  refine lq (rd (x:=vI _ _) (rd_conv rfl ty.ik3 ty.ik5 rfl) rfl) ?_
  refine AL.slot 21 (yv n2) (Eq.trans (b:=yv _) rfl (congrArg yv (by rw[wrap_u8];omega))) ?_
  refine lst (zS 2022 (rowsOf encU [n2]) ty.el56 ty.ze5 rfl) Z<|lst (zP 2012 ty.el56 ty.ze5 ty.by5 rfl (Src.own rfl rfl) (by simp[rowsOf];omega)) Z<|laO Z<|lN<|gB<|gT<|aL<|lmI Z<|lgI Z<|laI Z<|nG ?_
  refine⟨(_,_,b++[n2]),⟨by assumption,hbJ.app (.cons (by omega) (by omega) .nil),by show ((b++[_]).length:Int)≤n1;rw[List.length_append,List.length_singleton];omega⟩,by show (n1-((b++[_]).length:Int)).toNat<(n1-(b.length:Int)).toNat;rw[List.length_append,List.length_singleton];omega,⟨(Eq.trans (b:=int _) rfl (congrArg int (by rw[List.length_append,List.length_singleton];omega))),rfl,trivial⟩,⟨rfl,(yapp _ _),trivial⟩,rfl,rfl⟩
 ·intro h1
  refine aE<|eT<|eT<|eB<|gT<|aS ?_
  refine AW.freeze 2012 rfl ?_
  refine aL<|lmL Z<|laL Z<|nG<|aR ?_
  refine end_xret (byV b) [(0,curO g code iJ qJ)] ?_ rfl ⟨rfl,trivial⟩
  exact⟨_,_,hcJ,⟨b,hbJ,by omega,rfl⟩,rfl⟩
theorem l03Sector_e(g:Value)(code:List Int)(i:Nat)(h:Int)(hc:CurOk code i):GX Try.prog 139 [.ptr 0 0 0] [(0,curO g code i h)] (DrR g code DrS):=by
 refine GX.intro (rs:=[.cell 2 92 (some 3)]) Try.func139 rfl Try.ntmps139 (Nat.le_of_ble_eq_true rfl) ⟨rfl,rfl,ty.kd92,trivial⟩ ?_
 intro L O w0
 refine sL<|lst (zA 2002 ty.ze92 Z) Z<|nA<|lmP Z ?_
 refine lX [(0,0)] [] [0] Try.func69 (l01Below_e g code _ _ _ hc) (⟨⟨0,rfl,rfl⟩,trivial⟩) (pins_cur) Z ?_
 intro xz1 oz1 hz1
 obtain⟨i1,q1,hc1,⟨n1,⟨na1,nb1⟩,rfl⟩,rfl⟩:=hz1
 refine lmP rfl ?_
 refine lX [(0,0)] [] [0] Try.func69 (l01Below_e g code _ _ _ hc1) (⟨⟨0,rfl,rfl⟩,trivial⟩) (pins_cur) Z ?_
 intro xz2 oz2 hz2
 obtain⟨i2,q2,hc2,⟨n2,⟨na2,nb2⟩,rfl⟩,rfl⟩:=hz2
 refine lgI Z<|lmP Z ?_
 refine lX [(0,0)] [] [0] Try.func158 (l03Bytes_e g code _ _ 12 hc2 (by decide)) (⟨⟨0,rfl,rfl⟩,trivial⟩) (pins_cur) Z ?_
 intro xz3 oz3 hz3
 obtain⟨i3,q3,hc3,⟨b3,hb3,hl3,rfl⟩,rfl⟩:=hz3
 refine lq (rd (x:=.agg [vI _ _,vI _ _,vL _ _ _]) (rd_build Z ty.sa92 Z Z Z) Z)<|lst (zA 2003 ty.ze92 Z) Z<|lst (zB 2003 ty.co92 ty.inf92 Z) Z<|nA<|lmP Z ?_
 refine lX [(0,0)] [] [0] Try.func69 (l01Below_e g code _ _ _ hc3) (⟨⟨0,rfl,rfl⟩,trivial⟩) (pins_cur) Z ?_
 intro xz4 oz4 hz4
 obtain⟨i4,q4,hc4,⟨n4,⟨na4,nb4⟩,rfl⟩,rfl⟩:=hz4
 refine laI Z<|nG ?_
 refine aJ [2,3,4] [2002] (D:=Nat×Int×Int×Int×List Int) (fun d=>[]) (fun d=>[(0,curO g code d.1 d.2.1),(2003,.box 92 none [int d.2.2.1,int d.2.2.2.1,byV d.2.2.2.2])]) (fun d=>CurOk code d.1∧secOk ⟨d.2.2.1,d.2.2.2.1,d.2.2.2.2⟩=true∧BytesOk d.2.2.2.2) ?_ ?_
 ·refine sL<|lmI Z<|lbB Z<|nG ?_
  refine AW.cond rfl ?_ ?_
  ·intro h1
   refine aL<|lmP Z ?_
   refine lX [(0,0)] [] [0] Try.func158 (l03Bytes_e g code _ _ 100 hc4 (by decide)) (⟨⟨0,rfl,rfl⟩,trivial⟩) (pins_cur) Z ?_
   intro xz5 oz5 hz5
   obtain⟨i5,q5,hc5,⟨b5,hb5,hl5,rfl⟩,rfl⟩:=hz5
   refine lT [2,3,4,18] [0,2002,2003] ?_
   refine lf 2 ty.F92_2 Z<|lst (zB 2003 ty.co56 ty.inf56 Z) Z<|nG ?_
   refine⟨(_,_,_,_,_),⟨by assumption,by first|assumption|exact secOk_iff.2 (by simp only;first|omega|(have:=secOk_iff.1 hsJ5;simp only at this;omega)),by assumption⟩,trivial,⟨rfl,rfl,trivial⟩,rfl,rfl⟩
  ·intro h1
   refine aK<|gT ?_
   refine⟨(_,_,_,_,_),⟨by assumption,by first|assumption|exact secOk_iff.2 (by simp only;first|omega|(have:=secOk_iff.1 hsJ5;simp only at this;omega)),by assumption⟩,trivial,⟨rfl,rfl,trivial⟩,rfl,rfl⟩
 ·intro ⟨iJ5,qJ5,aJ5,eJ5,bJ5⟩ hJ5
  dsimp only
  obtain⟨hcJ5,hsJ5,hbJ5⟩:=hJ5
  simp only at hcJ5 hsJ5 hbJ5
  refine aJ [2,3] [2002] (D:=Nat×Int×Int×Int×List Int) (fun d=>[]) (fun d=>[(0,curO g code d.1 d.2.1),(2003,.box 92 none [int d.2.2.1,int d.2.2.2.1,byV d.2.2.2.2])]) (fun d=>CurOk code d.1∧secOk ⟨d.2.2.1,d.2.2.2.1,d.2.2.2.2⟩=true∧BytesOk d.2.2.2.2) ?_ ?_
  ·refine sL<|lmI Z<|lbB Z<|nG ?_
   refine AW.cond rfl ?_ ?_
   ·intro h2
    refine sL<|lf 0 ty.F92_0 Z<|lst (zB 2003 ty.co3 ty.inf3 Z) Z<|nG<|aL<|lf 1 ty.F92_1 Z<|lst (zB 2003 ty.co3 ty.inf3 Z) Z<|nG ?_
    refine⟨(_,_,_,_,_),⟨by assumption,by first|assumption|exact secOk_iff.2 (by simp only;first|omega|(have:=secOk_iff.1 hsJ5;simp only at this;omega)),by assumption⟩,trivial,⟨rfl,rfl,trivial⟩,rfl,rfl⟩
   ·intro h2
    refine aK<|gT ?_
    refine⟨(_,_,_,_,_),⟨by assumption,by first|assumption|exact secOk_iff.2 (by simp only;first|omega|(have:=secOk_iff.1 hsJ5;simp only at this;omega)),by assumption⟩,trivial,⟨rfl,rfl,trivial⟩,rfl,rfl⟩
  ·intro ⟨iJ8,qJ8,aJ8,eJ8,bJ8⟩ hJ8
   dsimp only
   obtain⟨hcJ8,hsJ8,hbJ8⟩:=hJ8
   simp only at hcJ8 hsJ8 hbJ8
   refine sL<|loX (.agg [vI _ _,vI _ _,vL _ _ _]) ty.kd92 Z<|lst (zB 2002 ty.co92 ty.inf92 Z) Z<|nG<|aR ?_
   refine end_xret (secV ⟨aJ8,eJ8,bJ8⟩) [(0,curO g code iJ8 qJ8)] ?_ rfl ⟨rfl,trivial⟩
   exact⟨_,_,hcJ8,⟨⟨aJ8,eJ8,bJ8⟩,hsJ8,hbJ8,rfl⟩,rfl⟩
theorem sdiskNew_o(n:Nat)(h1:1≤n)(h2:n≤600):GC Try.prog 112 [int (n:Int)] [] (.tup [oDisk,boo true]) (obF (newD n)):=by
 refine GC.intro (rs:=[.cell 2 34 (some 2),.tmp 3]) Try.func112 rfl Try.ntmps112 (Nat.le_of_ble_eq_true rfl) ⟨rfl,rfl,ty.kd34,rfl,trivial⟩ ?_
 intro L O w0
 refine sL<|lst (zA 2002 ty.ze34 rfl) Z<|laZ Z<|nG<|aS<|sL<|lmI Z<|lbB Z<|lsB 5 false rfl (by simp;omega)<|lmZ Z<|lmI Z<|lbB Z<|lsB 8 false rfl (by simp;omega)<|lkZ Z<|nG<|aN Z<|aK<|gA<|lmI Z<|lst (St.make 1 (m:=n) rfl rfl (by decide) ty.el31 ty.ze115 rfl rfl rfl rfl rfl (Nat.le_trans (Nat.mul_le_mul_right _ ty.by115) (by omega)) (by unfold maxLen;omega)) Z<|lq (rd (x:=.agg [.own _,vV _]) (rd_build rfl ty.sa34 rfl rfl rfl) rfl)<|lst (zB 2002 ty.co34 ty.inf34 rfl) Z<|laT Z<|lN ?_
 refine gT ?_
 refine AW.adoptB 2 2002 1 123 2 rfl (by decide) rfl ?_
 refine AW.reRow 1 (rows':=List.replicate n [lstB []]) rfl (by simp) (fun h=>nilRow n h) ?_
 refine AW.obj 1 (.arr 115 1 (rowsC (newD n).cells)) (congrArg (AO.arr 115 1) (by unfold rowsC;rw[List.map_replicate])) ?_
 refine aR ?_
 refine end_ret ?_ ⟨rfl,rfl,trivial⟩
 rfl
theorem sdiskNew_f(n:Nat)(h1:1≤n)(h2:n≤600):GC Try.prog 112 [int (n:Int)] [] (.tup [diskV (newD n),boo true]) []:=(sdiskNew_o n h1 h2).diskT

section
variable {P:Program}{L O:Nat→Prop}{w0:World}{N:Nat}{τ τ':Nat→AV}{H H':Nat→AO}{Q:AQ}{ops:Array Oper}{o:Oper}{F:List Nat}{n:Nat}{listed:Array Bool}
theorem AF1.rd{i:Nat}{x:AV}{t:Nat}(ho:ops[i]? = some o)(hrd:Rd P o τ H (fun _=>false) x)(hg:gv τ ops o=some true)(hd:o.dst=some t)(ht:t<N)
 (h:AF P L O w0 N ops F n (listed.setIfInBounds i true) (upd τ t x) H Q):AF1 P L O w0 N ops F n listed i τ H Q:=fun ρ fp a w hrr=>
 wpOp_step ho fun K hK=>by
  rw[hrr.wanted hg,if_pos rfl]
  obtain⟨c,h1,h2⟩:=hrd.run hrr
  unfold Oper.wp
  rw[h2 w (Keep.refl _ _ _ _)]
  refine hK _ _ ⟨fun _=>KeepA.refl _,h ρ fp _ w ?_⟩
  rw[hd]
  exact hrr.put h1 ht
theorem AL.adoptB{l:List Oper}(id b k:Nat)(e:TypeId)(sz:Nat){T:TypeId}{p:Option Value}{cells:List AV}(hb:H b=.box T p cells)(hbi:b≠id)(hk:cells[k]? = some (.p (.v (.slice none 0 0))))(h:AL P L O w0 N ops l (fun s=>kil (one? id) (τ s)) (upd (upd (fun j=>(H j).kil (one? id)) id (.arr e sz [])) b (.box T p ((kilL (one? id) cells).set k (.own id)))) Q):AL P L O w0 N ops l τ H Q:=
 fun ρ fp a w hr=>h _ _ a w (hr.adoptB id b k e sz hb hbi hk)
end

theorem l03Disk_e(g:Value)(code:List Int)(i:Nat)(h:Int)(hc:CurOk code i):GX Try.prog 116 [.ptr 0 0 0] [(0,curO g code i h)] (DrX g code DrD):=by
 refine GX.intro (rs:=[.cell 2 34 (some 2)]) Try.func116 rfl Try.ntmps116 (Nat.le_of_ble_eq_true rfl) ⟨rfl,rfl,ty.kd34,trivial⟩ ?_
 intro L O w0
 refine sL<|lst (zA 2002 ty.ze34 Z) Z<|nA<|lmP Z ?_
 refine lX [(0,0)] [] [0] Try.func69 (l01Below_e g code _ _ _ hc) (⟨⟨0,rfl,rfl⟩,trivial⟩) (pins_cur) Z ?_
 intro xz1 oz1 hz1
 obtain⟨i1,q1,hc1,⟨n1,⟨na1,nb1⟩,rfl⟩,rfl⟩:=hz1
 refine lgI Z<|lsN 12 (((1+n1).toNat:Nat):Int) rfl (by omega)<|lst (zC [(1,1),(2,2)] [1,2] [] Try.func112 (sdiskNew_o (1+n1).toNat (by omega) (by omega)) (trivial) rfl rfl) Z<|lmX (.tup [.agg [.own _,.own _],vB true]) Z<|lxX (.agg [.own _,.own _]) Z<|lxX (vB true) Z<|lst (zA 2003 ty.ze34 rfl) Z<|lst (zB 2003 ty.co34 ty.inf34 rfl) Z<|laT Z<|nG<|aS<|sL<|lmP rfl ?_
 refine lX [(0,0)] [] [0] Try.func69 (l01Below_e g code _ _ _ hc1) (⟨⟨0,rfl,rfl⟩,trivial⟩) (pins_cur) Z ?_
 intro xz2 oz2 hz2
 obtain⟨i2,q2,hc2,⟨n2,⟨na2,nb2⟩,rfl⟩,rfl⟩:=hz2
 refine laI Z<|nG<|aB ?_
 refine aW [0,2,3] [2002,2003] (D:=Nat×Int×Int×List Cell×List Write) (fun d=>[(5,int d.2.2.1)]) (fun d=>[(0,curO g code d.1 d.2.1),(1,.arr 115 1 (rowsC d.2.2.2.1)),(2,.arr 123 2 (rowsW d.2.2.2.2))]) (fun d=>CurOk code d.1∧DkI d.2.2.1 d.2.2.2.1 d.2.2.2.2) (fun d=>d.2.2.1.toNat) ((_,_,n2,(newD (1+n1).toNat).cells,(newD (1+n1).toNat).dirty)) (⟨hc2,⟨newD_ok (by omega) (by omega),newD_b _,na2,by show ((0:Nat):Int)+n2≤6;omega⟩⟩) ⟨rfl,trivial⟩ ⟨rfl,rfl,rfl,trivial⟩ ?_
 intro ⟨iJ,qJ,nJ,cJ,wJ⟩ hI
 dsimp only
 obtain⟨hcJ,hdJ⟩:=hI
 replace hcJ:CurOk code iJ:=hcJ
 replace hdJ:DkI nJ cJ wJ:=hdJ
 have hsz:=(dok_iff hdJ.ok).1
 simp only at hsz
 refine aS<|sL<|lmI Z<|lbB Z<|nG ?_
 refine AW.cond rfl ?_ ?_
 ·intro h1
  refine aK<|gT<|aS<|aB<|aS ?_
  have hn:0<nJ:=by have h:=h1;simpa using h
  refine aL<|lmP Z ?_
  refine lX [(0,0)] [] [0] Try.func69 (l01Below_e g code _ _ _ hcJ) (⟨⟨0,rfl,rfl⟩,trivial⟩) (pins_cur) Z ?_
  intro xz3 oz3 hz3
  obtain⟨i3,q3,hc3,⟨n3,⟨na3,nb3⟩,rfl⟩,rfl⟩:=hz3
  refine lT [0,2,3,5,23] [0,1,2,2002,2003] ?_
  refine laI Z<|nA<|lmP Z ?_
  refine lX [(0,0)] [] [0] Try.func139 (l03Sector_e g code _ _ hc3) (⟨⟨0,rfl,rfl⟩,trivial⟩) (pins_cur) Z ?_
  intro xz4 oz4 hz4
  obtain⟨i4,q4,hc4,⟨s4,hs4,hb4,rfl⟩,rfl⟩:=hz4
  refine lst (zC [] [] [] Try.func44 (ssectorBytes_e s4) (trivial) rfl rfl) rfl ?_
  have hBl:(secB s4).length=128:=secB_length (secOk_iff.1 hs4).2.2
  have hBo:BytesOk (secB s4):=secB_ok hb4 (secOk_iff.1 hs4).2.2
  refine AL.slot 27 (.tup [byV (secB s4),boo true]) (Eq.trans (b:=AV.tup [byV (secX s4),boo (secOk s4)]) rfl (by rw[secX_y hs4,hs4])) ?_
  refine lmX (.tup [vL _ _ _,vB _]) Z<|lxL Z<|lxB Z<|laL Z<|laB Z<|nA<|lmI Z<|lbB Z<|nG ?_
  refine AW.cond rfl ?_ ?_
  ·intro h2
   refine aL<|loX (.agg [.own _,.own _]) ty.kd34 Z ?_
   refine AL.freeze 1 rfl ?_
   refine AL.freeze 2 rfl ?_
   refine lst (zC [(1,1),(2,2)] [1,2] [] Try.func64 (sdiskSync_o (⟨cJ,wJ⟩:Disk) hdJ.ok) (trivial) rfl rfl) Z<|lst (zB 2003 ty.co34 ty.inf34 rfl) Z<|lT [0,2,3,5] [0,1,2,2002,2003] ?_
   refine lN<|gB<|gT<|aL<|lmI Z ?_
   refine lhI rfl ⟨rfl,fits_i64 (by have:=hdJ.nw;unfold i64;omega)⟩<|laI Z<|nG ?_
   refine⟨(_,_,nJ-1,(diskS (⟨cJ,wJ⟩:Disk)).cells,(diskS (⟨cJ,wJ⟩:Disk)).dirty),⟨by assumption,hdJ.sync hn⟩,by show (nJ-1).toNat<nJ.toNat;omega,⟨rfl,trivial⟩,⟨rfl,rfl,rfl,trivial⟩,rfl,rfl⟩
  ·intro h2
   refine sL<|lmI Z<|lbB Z<|nG ?_
   refine AW.cond rfl ?_ ?_
   ·intro h3
    refine aF [2,4,7]<|pq 1 (qmP Z)<|pq 3 (qmP Z) ?_
    refine AF.two (i:=0) (j:=2) (by kernel_rfl) ?_ ?_
    ·refine AF1.rd (i:=0) (x:=.agg [.own _,.own _]) rfl (rd_load_box rfl ty.kd34 rfl rfl rfl rfl) rfl rfl (by decide) ?_
     refine AF.stx (i:=2) rfl (by kernel_rfl) (St.callX [(0,0)] [] [0] rfl (by intro s hs;cases hs;decide) rfl Try.func69 rfl rfl (l01Below_e g code _ _ _ hc4) ⟨rfl,rfl,rfl⟩ (⟨⟨0,rfl,rfl⟩,trivial⟩) (pins_cur) rfl) (.inl rfl) rfl ?_
     rintro _ _ ⟨xz7,oz7,hz7,rfl,rfl⟩
     obtain⟨i7,q7,hc7,⟨n7,⟨na7,nb7⟩,rfl⟩,rfl⟩:=hz7
     refine AF.stx (i:=4) rfl (by kernel_rfl) (St.callX [(0,0)] [] [0] rfl (by intro s hs;cases hs;decide) rfl Try.func69 rfl rfl (l01Below_e g code _ _ _ hc7) ⟨rfl,rfl,rfl⟩ (⟨⟨0,rfl,rfl⟩,trivial⟩) (pins_cur) rfl) (.inl rfl) rfl ?_
     rintro _ _ ⟨xz8,oz8,hz8,rfl,rfl⟩
     obtain⟨i8,q8,hc8,⟨n8,⟨na8,nb8⟩,rfl⟩,rfl⟩:=hz8
     refine vst 5 rfl (zS 2041 (rowsOf encKey [n7,n8]) ty.el112 ty.ze3 rfl (by intro r hr;simp[rowsOf]at hr;rcases hr with h|h<;>(subst h;rfl))) (.inr rfl) ?_
     refine AF.freeze 1 rfl ?_
     refine AF.freeze 2 rfl ?_
     refine AF.freeze 2041 rfl ?_
     refine vst 6 rfl (zC [(1,1),(2,2)] [1,2] [] Try.func67 (sdiskCrash_o (⟨cJ,wJ⟩:Disk) [n7,n8] hdJ.ok) (trivial) rfl rfl) (.inr rfl)<|vst 7 rfl (zB 2003 ty.co34 ty.inf34 rfl) (.inl rfl)<|fD<|gB<|gT<|aL<|lmI rfl ?_
     refine lhI rfl ⟨rfl,fits_i64 (by have:=hdJ.nw;unfold i64;omega)⟩<|laI Z<|nG ?_
     refine⟨(_,_,nJ-1,(diskC (⟨cJ,wJ⟩:Disk) [n7,n8]).cells,(diskC (⟨cJ,wJ⟩:Disk) [n7,n8]).dirty),⟨by assumption,hdJ.crash hn⟩,by show (nJ-1).toNat<nJ.toNat;omega,⟨rfl,trivial⟩,⟨rfl,rfl,rfl,trivial⟩,rfl,rfl⟩
    ·refine AF1.stx (i:=2) rfl (St.callX [(0,0)] [] [0] rfl (by intro s hs;cases hs;decide) rfl Try.func69 rfl rfl (l01Below_e g code _ _ _ hc4) ⟨rfl,rfl,rfl⟩ (⟨⟨0,rfl,rfl⟩,trivial⟩) (pins_cur) rfl) (.inl rfl) rfl ?_
     rintro _ _ ⟨xz9,oz9,hz9,rfl,rfl⟩
     obtain⟨i9,q9,hc9,⟨n9,⟨na9,nb9⟩,rfl⟩,rfl⟩:=hz9
     refine fT [0,2,3,5,38,39] [0,1,2,2002,2003] ?_
     refine AF.two (i:=0) (j:=4) (by kernel_rfl) ?_ ?_
     ·refine AF1.rd (i:=0) (x:=.agg [.own _,.own _]) rfl (rd_load_box rfl ty.kd34 rfl rfl rfl rfl) rfl rfl (by decide) ?_
      refine AF.stx (i:=4) rfl (by kernel_rfl) (St.callX [(0,0)] [] [0] rfl (by intro s hs;cases hs;decide) rfl Try.func69 rfl rfl (l01Below_e g code _ _ _ hc9) ⟨rfl,rfl,rfl⟩ (⟨⟨0,rfl,rfl⟩,trivial⟩) (pins_cur) rfl) (.inl rfl) rfl ?_
      rintro _ _ ⟨xz10,oz10,hz10,rfl,rfl⟩
      obtain⟨i10,q10,hc10,⟨n10,⟨na10,nb10⟩,rfl⟩,rfl⟩:=hz10
      refine vst 5 rfl (zS 2041 (rowsOf encKey [n9,n10]) ty.el112 ty.ze3 rfl (by intro r hr;simp[rowsOf]at hr;rcases hr with h|h<;>(subst h;rfl))) (.inr rfl) ?_
      refine AF.freeze 1 rfl ?_
      refine AF.freeze 2 rfl ?_
      refine AF.freeze 2041 rfl ?_
      refine vst 6 rfl (zC [(1,1),(2,2)] [1,2] [] Try.func67 (sdiskCrash_o (⟨cJ,wJ⟩:Disk) [n9,n10] hdJ.ok) (trivial) rfl rfl) (.inr rfl)<|vst 7 rfl (zB 2003 ty.co34 ty.inf34 rfl) (.inl rfl)<|fD<|gB<|gT<|aL<|lmI rfl ?_
      refine lhI rfl ⟨rfl,fits_i64 (by have:=hdJ.nw;unfold i64;omega)⟩<|laI Z<|nG ?_
      refine⟨(_,_,nJ-1,(diskC (⟨cJ,wJ⟩:Disk) [n9,n10]).cells,(diskC (⟨cJ,wJ⟩:Disk) [n9,n10]).dirty),⟨by assumption,hdJ.crash hn⟩,by show (nJ-1).toNat<nJ.toNat;omega,⟨rfl,trivial⟩,⟨rfl,rfl,rfl,trivial⟩,rfl,rfl⟩
     ·refine AF1.stx (i:=4) rfl (St.callX [(0,0)] [] [0] rfl (by intro s hs;cases hs;decide) rfl Try.func69 rfl rfl (l01Below_e g code _ _ _ hc9) ⟨rfl,rfl,rfl⟩ (⟨⟨0,rfl,rfl⟩,trivial⟩) (pins_cur) rfl) (.inl rfl) rfl ?_
      rintro _ _ ⟨xz11,oz11,hz11,rfl,rfl⟩
      obtain⟨i11,q11,hc11,⟨n11,⟨na11,nb11⟩,rfl⟩,rfl⟩:=hz11
      refine sq 0 (roX (.agg [.own _,.own _]) ty.kd34 rfl)<|vst 5 rfl (zS 2041 (rowsOf encKey [n9,n11]) ty.el112 ty.ze3 rfl (by intro r hr;simp[rowsOf]at hr;rcases hr with h|h<;>(subst h;rfl))) (.inr rfl) ?_
      refine AF.freeze 1 rfl ?_
      refine AF.freeze 2 rfl ?_
      refine AF.freeze 2041 rfl ?_
      refine vst 6 rfl (zC [(1,1),(2,2)] [1,2] [] Try.func67 (sdiskCrash_o (⟨cJ,wJ⟩:Disk) [n9,n11] hdJ.ok) (trivial) rfl rfl) (.inr rfl)<|vst 7 rfl (zB 2003 ty.co34 ty.inf34 rfl) (.inl rfl)<|fD<|gB<|gT<|aL<|lmI rfl ?_
      refine lhI rfl ⟨rfl,fits_i64 (by have:=hdJ.nw;unfold i64;omega)⟩<|laI Z<|nG ?_
      refine⟨(_,_,nJ-1,(diskC (⟨cJ,wJ⟩:Disk) [n9,n11]).cells,(diskC (⟨cJ,wJ⟩:Disk) [n9,n11]).dirty),⟨by assumption,hdJ.crash hn⟩,by show (nJ-1).toNat<nJ.toNat;omega,⟨rfl,trivial⟩,⟨rfl,rfl,rfl,trivial⟩,rfl,rfl⟩
   ·intro h3
    refine aF [5,11]<|pq 1 (qmP Z)<|pq 2 (qf 0 ty.F34_0 Z)<|sq 3 (roO ty.kd31 Z)<|sq 4 (rnI ty.sl31 Z) ?_
    refine AF.slot 48 (int (cJ.length:Int)) (congrArg (fun n:Nat=>int (n:Int)) (rowsC_len _)) ?_
    refine pq 6 (qmL rfl) ?_
    refine AF.two (i:=0) (j:=5) (by kernel_rfl) ?_ ?_
    ·refine AF1.rd (i:=0) (x:=.agg [.own _,.own _]) rfl (rd_load_box rfl ty.kd34 rfl rfl rfl rfl) rfl rfl (by decide) ?_
     refine AF.stx (i:=5) rfl (by kernel_rfl) (St.callX [(0,0)] [] [0] rfl (by intro s hs;cases hs;decide) rfl Try.func69 rfl rfl (l01Below_e g code _ _ _ hc4) ⟨rfl,rfl,rfl⟩ (⟨⟨0,rfl,rfl⟩,trivial⟩) (pins_cur) rfl) (.inl rfl) rfl ?_
     rintro _ _ ⟨xz13,oz13,hz13,rfl,rfl⟩
     obtain⟨i13,q13,hc13,⟨n13,⟨na13,nb13⟩,rfl⟩,rfl⟩:=hz13
     refine fT [0,2,3,5,44,49,50] [0,1,2,2002,2003] ?_
     have hlt:n13.toNat<cJ.length:=by have:=nb13;have:=(dok_iff hdJ.ok).1.1;simp only at this;omega
     refine fsN 49 ((n13.toNat:Nat):Int) rfl (by omega) ?_
     refine AF.freeze 1 rfl ?_
     refine AF.freeze 2 rfl ?_
     refine vst 7 rfl (zC [(1,1),(2,2)] [1,2] [] Try.func45 (sdiskWrite_o (⟨cJ,wJ⟩:Disk) n13.toNat (secB s4) hdJ.ok hlt (by have:=hdJ.nw;show wJ.length<600;omega) hBl) (trivial) rfl rfl) (.inr rfl)<|vq 8 (rmX (.tup [.agg [.own _,.own _],vB true]) rfl)<|pq 9 (qxX (.agg [.own _,.own _]) rfl)<|pq 10 (qxX (vB true) rfl)<|vst 11 rfl (zB 2003 ty.co34 ty.inf34 rfl) (.inl rfl)<|fD<|gB<|gT<|aL<|lmI rfl ?_
     refine lhI rfl ⟨rfl,fits_i64 (by have:=hdJ.nw;unfold i64;omega)⟩<|laI Z<|nG ?_
     refine⟨(_,_,nJ-1,(diskW (⟨cJ,wJ⟩:Disk) n13.toNat (secB s4)).cells,(diskW (⟨cJ,wJ⟩:Disk) n13.toNat (secB s4)).dirty),⟨by assumption,hdJ.wr hn hlt hBl hBo⟩,by show (nJ-1).toNat<nJ.toNat;omega,⟨rfl,trivial⟩,⟨rfl,rfl,rfl,trivial⟩,rfl,rfl⟩
    ·refine AF1.stx (i:=5) rfl (St.callX [(0,0)] [] [0] rfl (by intro s hs;cases hs;decide) rfl Try.func69 rfl rfl (l01Below_e g code _ _ _ hc4) ⟨rfl,rfl,rfl⟩ (⟨⟨0,rfl,rfl⟩,trivial⟩) (pins_cur) rfl) (.inl rfl) rfl ?_
     rintro _ _ ⟨xz14,oz14,hz14,rfl,rfl⟩
     obtain⟨i14,q14,hc14,⟨n14,⟨na14,nb14⟩,rfl⟩,rfl⟩:=hz14
     refine vq 0 (roX (.agg [.own _,.own _]) ty.kd34 rfl) ?_
     have hlt:n14.toNat<cJ.length:=by have:=nb14;have:=(dok_iff hdJ.ok).1.1;simp only at this;omega
     refine fsN 49 ((n14.toNat:Nat):Int) rfl (by omega) ?_
     refine AF.freeze 1 rfl ?_
     refine AF.freeze 2 rfl ?_
     refine vst 7 rfl (zC [(1,1),(2,2)] [1,2] [] Try.func45 (sdiskWrite_o (⟨cJ,wJ⟩:Disk) n14.toNat (secB s4) hdJ.ok hlt (by have:=hdJ.nw;show wJ.length<600;omega) hBl) (trivial) rfl rfl) (.inr rfl)<|vq 8 (rmX (.tup [.agg [.own _,.own _],vB true]) rfl)<|pq 9 (qxX (.agg [.own _,.own _]) rfl)<|pq 10 (qxX (vB true) rfl)<|vst 11 rfl (zB 2003 ty.co34 ty.inf34 rfl) (.inl rfl)<|fT [0,2,3,5] [0,1,2,2002,2003] ?_
     refine fD<|gB<|gT<|aL<|lmI Z ?_
     refine lhI rfl ⟨rfl,fits_i64 (by have:=hdJ.nw;unfold i64;omega)⟩<|laI Z<|nG ?_
     refine⟨(_,_,nJ-1,(diskW (⟨cJ,wJ⟩:Disk) n14.toNat (secB s4)).cells,(diskW (⟨cJ,wJ⟩:Disk) n14.toNat (secB s4)).dirty),⟨by assumption,hdJ.wr hn hlt hBl hBo⟩,by show (nJ-1).toNat<nJ.toNat;omega,⟨rfl,trivial⟩,⟨rfl,rfl,rfl,trivial⟩,rfl,rfl⟩
 ·intro h1
  refine aE<|eT<|eT<|eB<|gA<|loX (.agg [.own _,.own _]) ty.kd34 Z<|lst (zB 2002 ty.co34 ty.inf34 Z) Z<|nG<|aR ?_
  refine end_xret (oDisk) ((0,curO g code iJ qJ)::obF ⟨cJ,wJ⟩) ?_ rfl ⟨rfl,rfl,rfl,trivial⟩
  exact⟨_,_,_,hcJ,⟨⟨cJ,wJ⟩,hdJ.ok,hdJ.by_,rfl,rfl⟩,rfl⟩
theorem l03AnyDisk_e(g:Value)(code:List Int)(i:Nat)(h:Int)(hc:CurOk code i):GX Try.prog 70 [.ptr 0 0 0] [(0,curO g code i h)] (DrX g code DrD2):=by
 refine GX.intro (rs:=[.cell 2 34 (some 2)]) Try.func70 rfl Try.ntmps70 (Nat.le_of_ble_eq_true rfl) ⟨rfl,rfl,ty.kd34,trivial⟩ ?_
 intro L O w0
 refine sL<|lst (zA 2002 ty.ze34 Z) Z<|nA<|lmP Z ?_
 refine lX [(0,0),(1,1),(2,2)] [1,2] [0] Try.func116 (l03Disk_e g code _ _ hc) (⟨⟨0,rfl,rfl⟩,trivial⟩) (pins_curX) Z ?_
 intro xz1 oz1 hz1
 obtain⟨i1,q1,_,hc1,⟨⟨cD,wD⟩,hdD,hbD,rfl,rfl⟩,rfl⟩:=hz1
 refine lst (zA 2003 ty.ze34 Z) Z<|lst (zB 2003 ty.co34 ty.inf34 Z) Z<|nA<|lmP Z ?_
 refine lX [(0,0)] [] [0] Try.func69 (l01Below_e g code _ _ _ hc1) (⟨⟨0,rfl,rfl⟩,trivial⟩) (pins_cur) Z ?_
 intro xz2 oz2 hz2
 obtain⟨i2,q2,hc2,⟨n2,⟨na2,nb2⟩,rfl⟩,rfl⟩:=hz2
 refine laI Z<|nG ?_
 refine aJ [0,2,3,4] [2002,2003] (D:=Nat×Int×List Cell×List Write) (fun d=>[]) (fun d=>[(0,curO g code d.1 d.2.1),(1,.arr 115 1 (rowsC d.2.2.1)),(2,.arr 123 2 (rowsW d.2.2.2))]) (fun d=>CurOk code d.1∧DkB ⟨d.2.2.1,d.2.2.2⟩) ?_ ?_
 ·refine sL<|lmI Z<|lbB Z<|nG ?_
  refine AW.cond rfl ?_ ?_
  ·intro h1
   have hsz:=(dok_iff hdD).1.1
   simp only at hsz
   refine aL<|lf 0 ty.F34_0 Z<|loO ty.kd31 Z<|lst (zS 2013 (rowsOf encU [1]) ty.el56 ty.ze5 rfl) Z<|lq (rj 0 ty.el31 rfl (by rw[rowsC_len];exact hsz))<|lf 0 ty.F115_0 rfl ?_
   refine AL.freeze 2013 rfl ?_
   refine lst (zQ 1 [lstB [1]] ty.co56 ty.inf56 Z (rowsC_at hsz)) Z<|lT [0,2,3,4] [0,1,2,2002,2003] ?_
   refine nG ?_
   refine⟨(_,_,_,_),⟨by assumption,by first|assumption|exact dkb_setc (by assumption) (.cons (by decide) (by decide) .nil)⟩,trivial,⟨rfl,(congrArg (AO.arr 115 1) rowsC_set),rfl,trivial⟩,rfl,rfl⟩
  ·intro h1
   refine aK<|gT ?_
   refine⟨(_,_,_,_),⟨by assumption,by first|assumption|exact dkb_setc (by assumption) (.cons (by decide) (by decide) .nil)⟩,trivial,⟨rfl,rfl,rfl,trivial⟩,rfl,rfl⟩
 ·intro ⟨iJ5,qJ5,cJ5,wJ5⟩ hJ5
  dsimp only
  obtain⟨hcJ5,hbJ5⟩:=hJ5
  simp only at hcJ5 hbJ5
  refine aJ [0,2,3,4] [2002,2003] (D:=Nat×Int×List Cell×List Write) (fun d=>[]) (fun d=>[(0,curO g code d.1 d.2.1),(1,.arr 115 1 (rowsC d.2.2.1)),(2,.arr 123 2 (rowsW d.2.2.2))]) (fun d=>CurOk code d.1∧DkB ⟨d.2.2.1,d.2.2.2⟩) ?_ ?_
  ·refine sL<|lmI Z<|lbB Z<|nG ?_
   refine AW.cond rfl ?_ ?_
   ·intro h2
    refine aL<|lf 0 ty.F34_0 Z<|lst (zB 2003 ty.co31 ty.inf31 Z) Z ?_
    refine AL.adoptB 71 2003 0 115 1 rfl (by decide) rfl ?_
    refine AL.swap 71 1 ?_
    refine nG ?_
    refine⟨(_,_,[],_),⟨by assumption,by first|assumption|exact dkb_nil (by assumption)⟩,trivial,⟨rfl,rfl,rfl,trivial⟩,rfl,rfl⟩
   ·intro h2
    refine aK<|gT ?_
    refine⟨(_,_,_,_),⟨by assumption,by first|assumption|exact dkb_nil (by assumption)⟩,trivial,⟨rfl,rfl,rfl,trivial⟩,rfl,rfl⟩
  ·intro ⟨iJ7,qJ7,cJ7,wJ7⟩ hJ7
   dsimp only
   obtain⟨hcJ7,hbJ7⟩:=hJ7
   simp only at hcJ7 hbJ7
   refine aJ [2,3] [2002,2003] (D:=Nat×Int×List Cell×List Write) (fun d=>[]) (fun d=>[(0,curO g code d.1 d.2.1),(1,.arr 115 1 (rowsC d.2.2.1)),(2,.arr 123 2 (rowsW d.2.2.2))]) (fun d=>CurOk code d.1∧DkB ⟨d.2.2.1,d.2.2.2⟩) ?_ ?_
   ·refine sL<|lmI Z<|lbB Z<|lmB Z ?_
    refine AL.bool (t:=21) rfl ?_ ?_
    ·intro h3
     refine lf 1 ty.F34_1 Z<|loO ty.kd32 Z<|lnI ty.sl32 Z ?_
     refine AL.slot 24 (int (wJ7.length:Int)) (congrArg (fun n:Nat=>int (n:Int)) (rowsW_len _)) ?_
     refine lbB Z<|lkB Z<|nG ?_
     refine AW.cond rfl ?_ ?_
     ·intro h4
      have hwl:0<wJ7.length:=by have h:=h4;simpa using h
      refine aF [3,6]<|pq 0 (qf 1 ty.F34_1 Z)<|pq 2 (qmP Z) ?_
      refine AF.two (i:=1) (j:=3) (by kernel_rfl) ?_ ?_
      ·refine AF1.rd (i:=1) (x:=.own _) rfl (rd_load_box rfl ty.kd32 rfl rfl rfl rfl) rfl rfl (by decide) ?_
       refine AF.stx (i:=3) rfl (by kernel_rfl) (St.callX [(0,0)] [] [0] rfl (by intro s hs;cases hs;decide) rfl Try.func117 rfl rfl (l01Raw_e g code _ _ hcJ7) ⟨rfl,rfl,rfl⟩ (⟨⟨0,rfl,rfl⟩,trivial⟩) (pins_cur) rfl) (.inl rfl) rfl ?_
       rintro _ _ ⟨xz4,oz4,hz4,rfl,rfl⟩
       obtain⟨i4,q4,hc4,⟨n4,hn4,rfl⟩,rfl⟩:=hz4
       refine vq 4 (rj 0 ty.el32 rfl (by rw[rowsW_len];exact hwl))<|vq 5 (rf 0 ty.F123_0 rfl)<|vst 6 rfl (zQ 2 [.v (.int .i64 n4)] ty.co3 ty.inf3 rfl (rowsW_at hwl)) (.inl rfl)<|fT [2,3] [0,1,2,2002,2003] ?_
       refine fD<|gT ?_
       refine⟨(_,_,_,_),⟨by assumption,by first|assumption|exact dkb_setw _ (by assumption)⟩,trivial,⟨rfl,rfl,(congrArg (AO.arr 123 2) (rowsW_setA hwl)),trivial⟩,rfl,rfl⟩
      ·refine AF1.stx (i:=3) rfl (St.callX [(0,0)] [] [0] rfl (by intro s hs;cases hs;decide) rfl Try.func117 rfl rfl (l01Raw_e g code _ _ hcJ7) ⟨rfl,rfl,rfl⟩ (⟨⟨0,rfl,rfl⟩,trivial⟩) (pins_cur) rfl) (.inl rfl) rfl ?_
       rintro _ _ ⟨xz5,oz5,hz5,rfl,rfl⟩
       obtain⟨i5,q5,hc5,⟨n5,hn5,rfl⟩,rfl⟩:=hz5
       refine vq 1 (roO ty.kd32 rfl)<|vq 4 (rj 0 ty.el32 rfl (by rw[rowsW_len];exact hwl))<|vq 5 (rf 0 ty.F123_0 rfl)<|vst 6 rfl (zQ 2 [.v (.int .i64 n5)] ty.co3 ty.inf3 rfl (rowsW_at hwl)) (.inl rfl)<|fD<|gT ?_
       refine⟨(_,_,_,_),⟨by assumption,by first|assumption|exact dkb_setw _ (by assumption)⟩,trivial,⟨rfl,rfl,(congrArg (AO.arr 123 2) (rowsW_setA hwl)),trivial⟩,rfl,rfl⟩
     ·intro h4
      refine aK<|gT ?_
      refine⟨(_,_,_,_),⟨by assumption,by first|assumption|exact dkb_setw _ (by assumption)⟩,trivial,⟨rfl,rfl,rfl,trivial⟩,rfl,rfl⟩
    ·intro h3
     refine lno Z<|lno Z<|lno Z<|lno Z<|lkZ Z<|nG<|aN Z<|aK<|gT ?_
     refine⟨(_,_,_,_),⟨by assumption,by first|assumption|exact dkb_setw _ (by assumption)⟩,trivial,⟨rfl,rfl,rfl,trivial⟩,rfl,rfl⟩
   ·intro ⟨iJ9,qJ9,cJ9,wJ9⟩ hJ9
    dsimp only
    obtain⟨hcJ9,hbJ9⟩:=hJ9
    simp only at hcJ9 hbJ9
    refine sL<|loX (.agg [.own _,.own _]) ty.kd34 Z<|lst (zB 2002 ty.co34 ty.inf34 Z) Z<|nG<|aR ?_
    refine end_xret (oDisk) ((0,curO g code iJ9 qJ9)::obF ⟨cJ9,wJ9⟩) ?_ rfl ⟨rfl,rfl,rfl,trivial⟩
    exact⟨_,_,_,hcJ9,⟨⟨cJ9,wJ9⟩,hbJ9,rfl,rfl⟩,rfl⟩

section
variable {α:Type}(n:α→Int)(g:α→Int→α)
def cntG:List α→Int
 |[]=>0
 |x::l=>n x+cntG l
variable {n g}
end
abbrev mCe(c:Cell):Int:=(c.bytes.length:Int)
abbrev mWr(w:Write):Int:=1+(w.bytes.length:Int)
structure DkZ(d:Disk):Prop where
 lc:d.cells.length≤1048576
 lw:d.dirty.length≤1048576
 bc:∀c∈d.cells,c.bytes.length≤1048576
 bw:∀w∈d.dirty,w.bytes.length≤1048576
 cc:cntG mCe d.cells≤1048576
 cw:cntG mWr d.dirty≤1048576
theorem rowF.set{F:List AO}{j:Nat}{o:AO}(h:rowF F)(ho:rowO o=true):rowF (F.set j o):=fun x hx=>by
 rcases List.mem_or_eq_of_mem_set hx with q|rfl
 ·exact h x q
 ·exact ho
section
variable {L:Nat→Prop}{ρ:Nat→Value}{H:Nat→AO}
end

structure DkE(d:Disk):Prop where
 lc:d.cells.length≤1000000000
 lw:d.dirty.length≤1000000000
 bc:∀c∈d.cells,c.bytes.length≤1000000000
 bw:∀w∈d.dirty,w.bytes.length≤1000000000
theorem DkZ.e{d:Disk}(h:DkZ d):DkE d:=⟨Nat.le_trans h.lc (by decide),Nat.le_trans h.lw (by decide),fun c hc=>Nat.le_trans (h.bc c hc) (by decide),fun c hc=>Nat.le_trans (h.bw c hc) (by decide)⟩
structure DkM(d:Disk):Prop where
 lc:d.cells.length≤100000000
 lw:d.dirty.length≤100000000
 cc:cntG mCe d.cells≤100000000
 cw:cntG mWr d.dirty≤100000000
theorem DkZ.m{d:Disk}(h:DkZ d):DkM d:=⟨Nat.le_trans h.lc (by decide),Nat.le_trans h.lw (by decide),Int.le_trans h.cc (by decide),Int.le_trans h.cw (by decide)⟩

theorem logEvents_f(d:Disk)(hb:DkB d):GC Try.prog 20 [diskV d] [] (.p (.lst 40 7 (rowsOf encEvent (logE d)))) []:=(logEvents_o d hb).frz1
theorem syncs_ok:∀(ws:List Write) (cs:List Cell),cs.all cellOk=true→(∀w∈ws,w.bytes.length=128)→(ws.foldl syncStep cs).all cellOk=true
 |[],cs,h,_=>h
 |w::ws,cs,h,hw=>by
  rw[List.foldl_cons]
  exact syncs_ok ws _ (cells_set h (hw w (by simp))) (fun x hx=>hw x (by simp[hx]))
theorem dok_diskS{d:Disk}(h:diskOk d=true):diskOk (diskS d)=true:=by
 have h1:=dok_iff h
 rw[diskS_y h]
 refine dok_y ⟨by show 1≤(synK d _).length;rw[synK_len];exact h1.1.1,by show (synK d _).length≤600;rw[synK_len];exact h1.1.2.1,Nat.zero_le _⟩ (syncs_ok _ _ h1.2.1 fun w hw=>?_) rfl
 obtain⟨j,hj,rfl⟩:=List.getElem_of_mem (List.mem_of_mem_take hw)
 exact dok_w h hj
theorem lgOp_cases(d:Disk):lgOpC d=0∧diskOk d=true∧diskOk (lgOpL d).disk=true∨lgOpC d≠0∧lgOpL d=⟨⟨[],[]⟩,0,0⟩:=by
 by_cases hc:lgOpC d=0
 ·have hd:diskOk d=true:=by
   unfold lgOpC at hc
   cases h:diskOk d with
   |true=>rfl
   |false=>rw[h]at hc;cases hc
  have h0:d.dirty.length=0:=by
   unfold lgOpC at hc
   by_cases h:d.dirty.length=0
   ·exact h
   ·rw[hd,if_neg (by simp[h])]at hc;cases hc
  have h2:¬((logR d).length=d.cells.length∨16000000≤logTop d):=fun q=>by rw[lg2 hd h0 q]at hc;cases hc
  have:=logR_le hd
  refine .inl ⟨hc,hd,?_⟩
  rw[lgL_y hc]
  exact dok_diskS (dok_diskW hd (by omega) (by omega) (secB_length (Nat.le_of_ble_eq_true rfl)))
 ·exact .inr ⟨hc,lgL_n hc⟩
abbrev lgOpV(d:Disk):AV:=.tup [logV (lgOpL d),.p (.lst 40 7 (rowsOf encEvent (lgOpE d))),int (lgOpC d)]
theorem slogOpen_f(d:Disk)(hb:DkB d):GC Try.prog 26 [diskV d] [] (lgOpV d) []:=
 (GX.frozen (Z:=fun y=>y=lgOpV d) (slogOpen_o d hb) fun x ob ⟨h1,h2⟩=>by
   subst h1 h2
   exact⟨_,Still.tup (.cons (Still.agg (.cons (Still.row (e:=⟨115,none⟩) (sz:=1) (rows:=rowsC (lgOpL d).disk.cells) rfl) (.cons (Still.row (e:=⟨123,none⟩) (sz:=2) (rows:=rowsW (lgOpL d).disk.dirty) rfl) (.cons (Still.p _) (.cons (Still.p _) .nil))))) (.cons (Still.row (e:=⟨40,none⟩) (sz:=7) (rows:=rowsOf encEvent (lgOpE d)) rfl) (.cons (Still.p _) .nil))),rfl⟩).mono fun y o ⟨e1,e2⟩=>⟨e2,e1⟩
abbrev adV(l:Log)(c:Int):AV:=.tup [logV l,int c]
theorem lgRel_f{f:FuncId}{args:List AV}{l:Log}(h:GN Try.prog f args [] [] (lgRel l)):GC Try.prog f args [] (logV l) []:=
 (GX.frozen (Z:=fun y=>y=logV l) (show GX Try.prog _ _ [] _ from h) fun x ob ⟨l1,F1,hs,hF,hM,e,⟨vs,us,hv,hu,e1,e2,e3⟩⟩=>by
   subst e e1 e2 e3
   refine⟨logV l,?_,rfl⟩
   have hT:Tl (ofO (obD vs us l.disk++famL 1000000 (famD vs us l.disk))) (famD vs us l.disk):=by rw[ofO_fam rfl];exact Tl.tl hF
   have l1:(famB vs (byC l.disk.cells)).length=l.disk.cells.length:=by rw[famB_len (by simpa using hv),List.length_map]
   exact Still.agg (H:=ofO (obD vs us l.disk++famL 1000000 (famD vs us l.disk))) (.cons (Still.own (id:=1) (e:=⟨115,none⟩) (sz:=1) (rows:=rowsCV vs) rfl (deepCV hT hv (s:=0) fun i hi=>by unfold famD;rw[Nat.zero_add,List.getElem?_append_left (by omega)]))
    (.cons (Still.own (id:=2) (e:=⟨123,none⟩) (sz:=2) (rows:=rowsWV us l.disk.dirty) rfl (deepWV hT hu (s:=l.disk.cells.length) fun i hi=>by unfold famD;rw[List.getElem?_append_right (by omega)];congr 1;omega)) (.cons (Still.p _) (.cons (Still.p _) .nil))))).mono fun y o ⟨e1,e2⟩=>⟨e2,e1⟩
theorem lgAdRel_f{f:FuncId}{args:List AV}{l:Log}{c:Int}(h:GN Try.prog f args [] [] (lgAdRel l c)):GC Try.prog f args [] (adV l c) []:=
 (GX.frozen (Z:=fun y=>y=adV l c) (show GX Try.prog _ _ [] _ from h) fun x ob ⟨l1,F1,hs,hF,hM,e,⟨vs,us,hv,hu,e1,e2,e3⟩⟩=>by
   subst e e1 e2 e3
   refine⟨adV l c,?_,rfl⟩
   have hT:Tl (ofO (obD vs us l.disk++famL 1000000 (famD vs us l.disk))) (famD vs us l.disk):=by rw[ofO_fam rfl];exact Tl.tl hF
   have l1:(famB vs (byC l.disk.cells)).length=l.disk.cells.length:=by rw[famB_len (by simpa using hv),List.length_map]
   exact Still.tup (H:=ofO (obD vs us l.disk++famL 1000000 (famD vs us l.disk))) (.cons (Still.agg (.cons (Still.own (id:=1) (e:=⟨115,none⟩) (sz:=1) (rows:=rowsCV vs) rfl (deepCV hT hv (s:=0) fun i hi=>by unfold famD;rw[Nat.zero_add,List.getElem?_append_left (by omega)]))
    (.cons (Still.own (id:=2) (e:=⟨123,none⟩) (sz:=2) (rows:=rowsWV us l.disk.dirty) rfl (deepWV hT hu (s:=l.disk.cells.length) fun i hi=>by unfold famD;rw[List.getElem?_append_right (by omega)];congr 1;omega)) (.cons (Still.p _) (.cons (Still.p _) .nil))))) (.cons (Still.p _) .nil))).mono fun y o ⟨e1,e2⟩=>⟨e2,e1⟩
theorem logAdd_f(l:Log)(e:Event):GC Try.prog 13 [logV l,evV e] [] (adV (lgAddL l e) (lgAddC l e)) []:=lgAdRel_f (logAdd_n l e)
theorem slogAdd_f(l:Log)(e:Event):GC Try.prog 10 [logV l,evV e] [] (adV (lgAddL l e) (lgAddC l e)) []:=
 (GX.frozen (Z:=fun y=>y=adV (lgAddL l e) (lgAddC l e)) (slogAdd_o l e) fun x ob ⟨h1,h2⟩=>by
   subst h1 h2
   exact⟨_,Still.tup (.cons (Still.agg (.cons (Still.row (e:=⟨115,none⟩) (sz:=1) (rows:=rowsC (lgAddL l e).disk.cells) rfl) (.cons (Still.row (e:=⟨123,none⟩) (sz:=2) (rows:=rowsW (lgAddL l e).disk.dirty) rfl) (.cons (Still.p _) (.cons (Still.p _) .nil))))) (.cons (Still.p _) .nil)),rfl⟩).mono fun y o ⟨e1,e2⟩=>⟨e2,e1⟩

abbrev zero128:List Int:=List.replicate 128 0
theorem zB_F:secF zero128=false:=by decide +kernel
theorem views_new(n:Nat):views (newD n)=List.replicate n zero128:=by
 unfold views
 refine List.ext_getElem (by simp) fun i h1 h2=>?_
 have hi:i<n:=by simpa using h2
 rw[List.getElem_map,List.getElem_range,List.getElem_replicate]
 unfold diskAt
 simp only[lastW]
 rw[List.getElem?_replicate,if_pos hi]
 rfl
theorem run_z:∀n,logRun (List.replicate n zero128) []=[]
 |0=>rfl
 |n+1=>by
  rw[List.replicate_succ]
  unfold logRun
  rw[if_neg]
  intro h
  have:=(goes_iff.1 h).1
  rw[zB_F]at this
  cases this
theorem top_z:∀n,topOf (List.replicate n zero128)=0:=by
 intro n
 unfold topOf
 induction n with
 |zero=>rfl
 |succ n ih=>
  rw[List.replicate_succ,List.foldl_cons,secR_no zB_F]
  exact ih
theorem lgOp_new{n:Nat}(h1:1≤n)(h2:n≤600):lgOpC (newD n)=0:=by
 have hd:=newD_ok h1 h2
 refine lg0 hd rfl ?_
 rw[logR_y hd,logTop_y hd,views_new,run_z,top_z]
 simp
 omega
theorem lgOp_b{d:Disk}(hb:DkB d):DkB (lgOpL d).disk:=by
 unfold lgOpL
 split
 ·exact dkb_sync (dkb_w hb (secB_ok (.cons (by decide) (by decide) .nil) (Nat.le_of_ble_eq_true rfl)))
 ·exact⟨(fun c hc=>by cases hc),(fun c hc=>by cases hc)⟩
theorem lgSy_b{l:Log}(hb:DkB l.disk):DkB (lgSyL l).disk:=by
 unfold lgSyL
 split
 ·exact dkb_sync hb
 ·exact⟨(fun c hc=>by cases hc),(fun c hc=>by cases hc)⟩
theorem ad_ok{l:Log}{e:Event}(hc:lgAddC l e=0):diskOk l.disk=true∧inB l.next 0 l.disk.cells.length=true∧inB l.epoch 1 16000000=true∧eventOk e=true∧¬(l.next=l.disk.cells.length∨600≤l.disk.dirty.length):=by
 have h1:diskOk l.disk=true:=by cases h:diskOk l.disk with|true=>rfl|false=>rw[ad1 (.inl h)]at hc;cases hc
 have h2:inB l.next 0 l.disk.cells.length=true:=by cases h:inB l.next 0 l.disk.cells.length with|true=>rfl|false=>rw[ad1 (.inr (.inl h))]at hc;cases hc
 have h3:inB l.epoch 1 16000000=true:=by cases h:inB l.epoch 1 16000000 with|true=>rfl|false=>rw[ad1 (.inr (.inr (.inl h)))]at hc;cases hc
 have h4:eventOk e=true:=by cases h:eventOk e with|true=>rfl|false=>rw[ad1 (.inr (.inr (.inr h)))]at hc;cases hc
 exact⟨h1,h2,h3,h4,fun q=>by rw[ad2 h1 h2 h3 h4 q]at hc;cases hc⟩
theorem lgAd_ok{l:Log}{e:Event}(hc:lgAddC l e=0):diskOk (lgAddL l e).disk=true:=by
 obtain⟨h1,h2,h3,h4,h5⟩:=ad_ok hc
 rw[adL_y hc]
 have:=inB_iff.1 h2
 exact dok_diskW h1 (by omega) (by omega) (secB_length (by show (evB e).length≤100;rw[evB_length];decide))
theorem lgAd_b{l:Log}{e:Event}(hb:DkB l.disk):DkB (lgAddL l e).disk:=by
 by_cases hc:lgAddC l e=0
 ·rw[adL_y hc]
  exact dkb_w hb (secB_ok (evB_ok (ad_ok hc).2.2.2.1) (by show (evB e).length≤100;rw[evB_length];decide))
 ·rw[adL_n hc];exact⟨(fun c hc=>by cases hc),(fun c hc=>by cases hc)⟩
theorem slogSync_f(l:Log):GC Try.prog 113 [logV l] [] (logV (lgSyL l)) []:=
 (GX.frozen (Z:=fun y=>y=logV (lgSyL l)) (slogSync_o l) fun x ob ⟨h1,h2⟩=>by
   subst h1 h2
   exact⟨_,Still.agg (.cons (Still.row (e:=⟨115,none⟩) (sz:=1) (rows:=rowsC (lgSyL l).disk.cells) rfl) (.cons (Still.row (e:=⟨123,none⟩) (sz:=2) (rows:=rowsW (lgSyL l).disk.dirty) rfl) (.cons (Still.p _) (.cons (Still.p _) .nil)))),rfl⟩).mono fun y o ⟨e1,e2⟩=>⟨e2,e1⟩
structure LgI(n:Int)(l:Log):Prop where
 ok:diskOk l.disk=true
 by_:DkB l.disk
 n0:0≤n
 n1:n≤11
theorem LgI.same{n:Int}{l:Log}(h:LgI n l)(hn:0<n):LgI (n-1) l:=⟨h.ok,h.by_,by omega,by have:=h.n1;omega⟩
theorem LgI.sync{n:Int}{l:Log}(h:LgI n l)(hn:0<n):LgI (n-1) (lgSyL l):=⟨by rw[sy_y h.ok];exact(sync_ok h.ok).1,lgSy_b h.by_,by omega,by have:=h.n1;omega⟩
theorem LgI.crash{n:Int}{l:Log}{keep:List Int}(h:LgI n l)(hn:0<n)(hc:lgOpC (diskC l.disk keep)=0):LgI (n-1) (lgOpL (diskC l.disk keep)):=⟨by rcases lgOp_cases (diskC l.disk keep)with q|q;exact q.2.2;exact absurd hc q.1,lgOp_b (crash_ok h.ok h.by_).2.1,by omega,by have:=h.n1;omega⟩
theorem LgI.add{n:Int}{l:Log}{e:Event}(h:LgI n l)(hn:0<n)(hc:lgAddC l e=0):LgI (n-1) (lgAddL l e):=⟨lgAd_ok hc,lgAd_b h.by_,by omega,by have:=h.n1;omega⟩
def DrL(ok:Prop):AV→Prop:=fun x=>∃l,(ok→diskOk l.disk=true)∧DkB l.disk∧x=logV l
theorem l05Draw_e(g:Value)(code:List Int)(i:Nat)(h:Int)(hc:CurOk code i):GX Try.prog 68 [.ptr 0 0 0] [(0,curO g code i h)] (DrR g code (DrL True)):=by
 refine GX.intro (rs:=[.cell 2 36 (some 4)]) Try.func68 rfl Try.ntmps68 (Nat.le_of_ble_eq_true rfl) ⟨rfl,rfl,ty.kd36,trivial⟩ ?_
 intro L O w0
 refine sL<|lst (zA 2002 ty.ze36 Z) Z<|nA<|lmP Z ?_
 refine lX [(0,0)] [] [0] Try.func69 (l01Below_e g code _ _ _ hc) (⟨⟨0,rfl,rfl⟩,trivial⟩) (pins_cur) Z ?_
 intro xz1 oz1 hz1
 obtain⟨i1,q1,hc1,⟨n1,⟨na1,nb1⟩,rfl⟩,rfl⟩:=hz1
 refine lgI Z<|lsN 20 (((3+n1).toNat:Nat):Int) rfl (by omega)<|lst (zC [] [] [] Try.func112 (sdiskNew_f (3+n1).toNat (by omega) (by omega)) (trivial) rfl rfl) Z<|lmX (.tup [.agg [vL _ _ _,vL _ _ _],vB _]) Z<|lxX (.agg [vL _ _ _,vL _ _ _]) Z<|lxB Z<|lst (zA 2003 ty.ze34 rfl) Z<|lst (zB 2003 ty.co34 ty.inf34 rfl) Z<|laB Z<|nA<|loX (.agg [vL _ _ _,vL _ _ _]) ty.kd34 Z<|lst (zC [] [] [] Try.func26 (slogOpen_f (newD (3+n1).toNat) (newD_b _)) (trivial) rfl rfl) Z<|lmX (.tup [.agg [vL _ _ _,vL _ _ _,vI _ _,vI _ _],vL _ _ _,vI _ _]) Z<|lxX (.agg [vL _ _ _,vL _ _ _,vI _ _,vI _ _]) Z<|lxL Z<|lxI Z<|lst (zA 2005 ty.ze36 rfl) Z<|lT [0,2,5,27,28,29] [0,2002,2003,2005] ?_
 refine lst (zB 2005 ty.co36 ty.inf36 Z) Z<|laL Z<|laI Z<|nG<|aS<|sL<|lmP Z ?_
 refine lX [(0,0)] [] [0] Try.func69 (l01Below_e g code _ _ _ hc1) (⟨⟨0,rfl,rfl⟩,trivial⟩) (pins_cur) Z ?_
 intro xz2 oz2 hz2
 obtain⟨i2,q2,hc2,⟨n2,⟨na2,nb2⟩,rfl⟩,rfl⟩:=hz2
 refine laI Z<|nG<|aB ?_
 refine aW [0,2,5] [2002,2003] (D:=Nat×Int×Int×Log) (fun d=>[(8,int d.2.2.1)]) (fun d=>[(0,curO g code d.1 d.2.1),(2005,.box 36 none [.p (.lst 115 1 (rowsC d.2.2.2.disk.cells)),.p (.lst 123 2 (rowsW d.2.2.2.disk.dirty)),int d.2.2.2.next,int d.2.2.2.epoch])]) (fun d=>CurOk code d.1∧LgI d.2.2.1 d.2.2.2) (fun d=>d.2.2.1.toNat) ((_,_,n2,lgOpL (newD (3+n1).toNat))) (⟨hc2,⟨by rcases lgOp_cases (newD (3+n1).toNat)with q|q;exact q.2.2;exact absurd (lgOp_new (by omega) (by omega)) q.1,lgOp_b (newD_b _),na2,by show n2≤11;omega⟩⟩) ⟨rfl,trivial⟩ ⟨rfl,rfl,trivial⟩ ?_
 intro ⟨iJ,qJ,nJ,lJ⟩ hI
 dsimp only
 obtain⟨hcJ,hlJ⟩:=hI
 replace hcJ:CurOk code iJ:=hcJ
 replace hlJ:LgI nJ lJ:=hlJ
 refine aS<|sL<|lmI Z<|lbB Z<|nG ?_
 refine AW.cond rfl ?_ ?_
 ·intro h1
  refine aK<|gT<|aS<|aB<|aS ?_
  have hn:0<nJ:=by have h:=h1;simpa using h
  have hn1:=hlJ.n1
  refine aL<|lmP Z ?_
  refine lX [(0,0)] [] [0] Try.func69 (l01Below_e g code _ _ _ hcJ) (⟨⟨0,rfl,rfl⟩,trivial⟩) (pins_cur) Z ?_
  intro xz3 oz3 hz3
  obtain⟨i3,q3,hc3,⟨n3,⟨na3,nb3⟩,rfl⟩,rfl⟩:=hz3
  refine laI Z<|nA<|lmI Z<|lbB Z<|nG ?_
  refine AW.cond rfl ?_ ?_
  ·intro h2
   refine aL<|loX (.agg [vL _ _ _,vL _ _ _,vI _ _,vI _ _]) ty.kd36 Z<|lst (zC [] [] [] Try.func113 (slogSync_f lJ) (trivial) Z Z) Z<|lT [0,2,5,8,41] [0,2002,2003,2005] ?_
   refine lst (zB 2005 ty.co36 ty.inf36 Z) Z<|lN<|gB<|gT<|aL<|lmI Z<|lgI Z<|laI Z<|nG ?_
   refine⟨(_,_,nJ-1,lgSyL lJ),⟨by assumption,hlJ.sync hn⟩,by show (nJ-1).toNat<nJ.toNat;omega,⟨rfl,trivial⟩,⟨rfl,rfl,trivial⟩,rfl,rfl⟩
  ·intro h2
   refine sL<|lmI Z<|lbB Z<|nG ?_
   refine AW.cond rfl ?_ ?_
   ·intro h3
    refine sL<|lst (zS 2044 (rowsOf encKey []) ty.el112 ty.ze3 rfl (by intro r hr;cases hr)) Z<|laO Z<|nG<|aS<|sL<|laI Z<|nG<|aB ?_
    refine aW [0,2,5,8] [2002,2003,2005] (D:=Nat×Int×List Int) (fun z=>[(11,int (z.2.2.length:Int)),(10,.own 2044)]) (fun z=>[(0,curO g code z.1 z.2.1),(2044,kAr z.2.2)]) (fun z=>CurOk code z.1∧z.2.2.length≤5) (fun z=>5-z.2.2.length) ((_,_,[])) (⟨by assumption,Nat.zero_le _⟩) ⟨rfl,rfl,trivial⟩ ⟨rfl,rfl,trivial⟩ ?_
    intro ⟨iZ,qZ,kp⟩ hI
    dsimp only
    obtain⟨hcZ,hkp⟩:=hI
    replace hcZ:CurOk code iZ:=hcZ
    replace hkp:kp.length≤5:=hkp
    refine aS<|sL<|lmI Z<|lbB Z<|nG ?_
    refine AW.cond rfl ?_ ?_
    ·intro h4
     refine aK<|gT<|aS<|aB ?_
     have hk5:kp.length<5:=by have h:=h4;simp only[decide_eq_true_eq]at h;omega
     refine aL<|lmO Z<|lst (zS 2050 (rowsOf encKey [0,50,127,128]) ty.el112 ty.ze3 rfl (by intro r hr;simp[rowsOf]at hr;rcases hr with h|h|h|h<;>(subst h;rfl))) Z<|lmP rfl ?_
     refine lX [(0,0)] [] [0] Try.func69 (l01Below_e g code _ _ _ hcZ) (⟨⟨0,rfl,rfl⟩,trivial⟩) (pins_cur) Z ?_
     intro xz4 oz4 hz4
     obtain⟨i4,q4,hc4,⟨n4,⟨na4,nb4⟩,rfl⟩,rfl⟩:=hz4
     refine lT [0,2,5,8,10,11,49,50,52] [0,2002,2003,2005,2044,2050] ?_
     obtain⟨m,hm⟩:=Int.eq_ofNat_of_zero_le na4
     have hm4:m<([0,50,127,128]:List Int).length:=by show m<4;omega
     refine lq (rd (x:=.ptr 2050 _ 0) (rd_iaddr_own (i:=m) rfl ty.el112 rfl rfl rfl ?hn1 (by rw[length_rowsOf];exact hm4)) rfl) ?_
     case hn1=>exact hm
     refine lq (rd (x:=vI _ _) (rd_load_arr rfl ty.kd3 rfl rfl rfl (row_map hm4) rfl) rfl)<|lst (zS 2055 (rowsOf encKey [([0,50,127,128]:List Int)[m]]) ty.el112 ty.ze3 rfl) Z<|lst (zP 2044 ty.el112 ty.ze3 ty.by3 rfl (Src.own rfl rfl) (by simp[rowsOf];omega)) Z<|laO Z<|lN<|gB<|gT<|aL<|lmI Z<|lgI Z<|laI Z<|nG ?_
     refine⟨(_,_,kp++[([0,50,127,128]:List Int)[m]]),⟨by assumption,by show (kp++[_]).length≤5;rw[List.length_append,List.length_singleton];omega⟩,by show 5-(kp++[_]).length<5-kp.length;rw[List.length_append,List.length_singleton];omega,⟨(Eq.trans (b:=int _) rfl (congrArg int (by rw[List.length_append,List.length_singleton];omega))),rfl,trivial⟩,⟨rfl,(Eq.trans (b:=AO.arr 3 1 (rowsOf encKey kp++rowsOf encKey [([0,50,127,128]:List Int)[m]])) rfl (congrArg (AO.arr 3 1) (oapp _ _ _).symm)),trivial⟩,rfl,rfl⟩
    ·intro h4
     refine aE<|eT<|eT<|eB<|gA<|lf 0 ty.F36_0 Z<|loX (.agg [vL _ _ _,vL _ _ _]) ty.kd34 Z<|lmO Z ?_
     refine AL.freeze 2044 rfl ?_
     refine lst (zC [] [] [] Try.func67 (sdiskCrash_f lJ.disk kp hlJ.ok) (trivial) Z Z) Z<|lst (zC [] [] [] Try.func26 (slogOpen_f (diskC lJ.disk kp) (crash_ok hlJ.ok hlJ.by_).2.1) (trivial) Z Z) Z<|lmX (.tup [.agg [vL _ _ _,vL _ _ _,vI _ _,vI _ _],vL _ _ _,vI _ _]) Z<|lxX (.agg [vL _ _ _,vL _ _ _,vI _ _,vI _ _]) Z<|lxL Z<|lxI Z<|lst (zA 2012 ty.ze36 Z) Z<|lT [0,2,5,8,12,63,64,65] [0,2002,2003,2005,2012] ?_
     refine lst (zB 2012 ty.co36 ty.inf36 Z) Z<|laL Z<|laI Z<|nA<|lmI Z<|lbB Z<|nG ?_
     refine AW.cond rfl ?_ ?_
     ·intro h5
      refine aL<|loX (.agg [vL _ _ _,vL _ _ _,vI _ _,vI _ _]) ty.kd36 Z<|lst (zB 2005 ty.co36 ty.inf36 Z) Z<|lN<|gB<|gT<|aL<|lmI Z<|lgI Z<|laI Z<|nG ?_
      refine⟨(_,_,nJ-1,lgOpL (diskC lJ.disk kp)),⟨by assumption,hlJ.crash hn (by have h:=h5;simpa using h)⟩,by show (nJ-1).toNat<nJ.toNat;omega,⟨rfl,trivial⟩,⟨rfl,rfl,trivial⟩,rfl,rfl⟩
     ·intro h5
      refine aK<|gB<|gT<|aL<|lmI Z<|lgI Z<|laI Z<|nG ?_
      refine⟨(_,_,nJ-1,lJ),⟨by assumption,hlJ.same hn⟩,by show (nJ-1).toNat<nJ.toNat;omega,⟨rfl,trivial⟩,⟨rfl,rfl,trivial⟩,rfl,rfl⟩
   ·intro h3
    refine aS<|aF [2,8]<|pq 1 (qmP Z) ?_
    refine AF.three (i:=0) (j:=2) (k:=7) (by kernel_rfl) ?_ ?_ ?_
    ·refine AF1.rd (i:=0) (x:=.agg [vL _ _ _,vL _ _ _,vI _ _,vI _ _]) rfl (rd_load_box rfl ty.kd36 rfl rfl rfl rfl) rfl rfl (by decide) ?_
     refine AF.two (i:=2) (j:=7) (by kernel_rfl) ?_ ?_
     ·refine AF1.stx (i:=2) rfl (St.callX [(0,0)] [] [0] rfl (by intro s hs;cases hs;decide) rfl Try.func114 rfl rfl (l04Draw_e g code _ _ hc3) ⟨rfl,rfl,rfl⟩ (⟨⟨0,rfl,rfl⟩,trivial⟩) (pins_cur) rfl) (.inl rfl) rfl ?_
      rintro _ _ ⟨xz6,oz6,hz6,rfl,rfl⟩
      obtain⟨i6,q6,hc6,⟨⟨va6,vb6,vc6,vd6,ve6,vf6,vg6⟩,hw6,rfl⟩,rfl⟩:=hz6
      refine fT [0,2,5,8,70,72] [0,2002,2003,2005] ?_
      refine AF.two (i:=3) (j:=7) (by kernel_rfl) ?_ ?_
      ·refine v1 3 rfl (zC [] [] [] Try.func10 (slogAdd_f lJ ⟨va6,vb6,vc6,vd6,ve6,vf6,vg6⟩) (trivial) rfl rfl) (.inr rfl)<|pq 4 (qmX (.tup [.agg [vL _ _ _,vL _ _ _,vI _ _,vI _ _],vI _ _]) rfl)<|pq 5 (qxX (.agg [vL _ _ _,vL _ _ _,vI _ _,vI _ _]) rfl)<|pq 6 (qxI rfl)<|vst 7 rfl (zA 2015 ty.ze36 rfl) (.inr rfl)<|vst 8 rfl (zB 2015 ty.co36 ty.inf36 rfl) (.inl rfl)<|vq 9 (raI rfl)<|fD<|gA<|lmI Z<|lbB Z<|nG ?_
       refine AW.cond rfl ?_ ?_
       ·intro h6
        refine aL<|loX (.agg [vL _ _ _,vL _ _ _,vI _ _,vI _ _]) ty.kd36 Z<|lst (zB 2005 ty.co36 ty.inf36 Z) Z<|lN<|gB<|gT<|aL<|lmI Z<|lgI Z<|laI Z<|nG ?_
        refine⟨(_,_,nJ-1,lgAddL lJ (⟨va6,vb6,vc6,vd6,ve6,vf6,vg6⟩)),⟨by assumption,hlJ.add hn (by have h:=h6;simpa using h)⟩,by show (nJ-1).toNat<nJ.toNat;omega,⟨rfl,trivial⟩,⟨rfl,rfl,trivial⟩,rfl,rfl⟩
       ·intro h6
        refine aK<|gB<|gT<|aL<|lmI Z<|lgI Z<|laI Z<|nG ?_
        refine⟨(_,_,nJ-1,lJ),⟨by assumption,hlJ.same hn⟩,by show (nJ-1).toNat<nJ.toNat;omega,⟨rfl,trivial⟩,⟨rfl,rfl,trivial⟩,rfl,rfl⟩
      ·refine v1 7 Z (zA 2015 ty.ze36 Z) (.inr Z)<|fT [0,2,5,8,15,70,72] [0,2002,2003,2005,2015] ?_
       refine vst 3 rfl (zC [] [] [] Try.func10 (slogAdd_f lJ ⟨va6,vb6,vc6,vd6,ve6,vf6,vg6⟩) (trivial) rfl rfl) (.inr rfl)<|vq 4 (rmX (.tup [.agg [vL _ _ _,vL _ _ _,vI _ _,vI _ _],vI _ _]) rfl)<|pq 5 (qxX (.agg [vL _ _ _,vL _ _ _,vI _ _,vI _ _]) rfl)<|pq 6 (qxI rfl)<|vst 8 rfl (zB 2015 ty.co36 ty.inf36 rfl) (.inl rfl)<|vq 9 (raI rfl)<|fD<|gA<|lmI Z<|lbB Z<|nG ?_
       refine AW.cond rfl ?_ ?_
       ·intro h7
        refine aL<|loX (.agg [vL _ _ _,vL _ _ _,vI _ _,vI _ _]) ty.kd36 Z<|lst (zB 2005 ty.co36 ty.inf36 Z) Z<|lN<|gB<|gT<|aL<|lmI Z<|lgI Z<|laI Z<|nG ?_
        refine⟨(_,_,nJ-1,lgAddL lJ (⟨va6,vb6,vc6,vd6,ve6,vf6,vg6⟩)),⟨by assumption,hlJ.add hn (by have h:=h7;simpa using h)⟩,by show (nJ-1).toNat<nJ.toNat;omega,⟨rfl,trivial⟩,⟨rfl,rfl,trivial⟩,rfl,rfl⟩
       ·intro h7
        refine aK<|gB<|gT<|aL<|lmI Z<|lgI Z<|laI Z<|nG ?_
        refine⟨(_,_,nJ-1,lJ),⟨by assumption,hlJ.same hn⟩,by show (nJ-1).toNat<nJ.toNat;omega,⟨rfl,trivial⟩,⟨rfl,rfl,trivial⟩,rfl,rfl⟩
     ·refine v1 7 Z (zA 2015 ty.ze36 Z) (.inr Z)<|fT [0,2,5,8,15,70,71] [0,2002,2003,2005,2015] ?_
      refine AF.stx (i:=2) rfl (by kernel_rfl) (St.callX [(0,0)] [] [0] rfl (by intro s hs;cases hs;decide) rfl Try.func114 rfl rfl (l04Draw_e g code _ _ hc3) ⟨rfl,rfl,rfl⟩ (⟨⟨0,rfl,rfl⟩,trivial⟩) (pins_cur) rfl) (.inl rfl) rfl ?_
      rintro _ _ ⟨xz7,oz7,hz7,rfl,rfl⟩
      obtain⟨i7,q7,hc7,⟨⟨va7,vb7,vc7,vd7,ve7,vf7,vg7⟩,hw7,rfl⟩,rfl⟩:=hz7
      refine vst 3 rfl (zC [] [] [] Try.func10 (slogAdd_f lJ ⟨va7,vb7,vc7,vd7,ve7,vf7,vg7⟩) (trivial) rfl rfl) (.inr rfl)<|vq 4 (rmX (.tup [.agg [vL _ _ _,vL _ _ _,vI _ _,vI _ _],vI _ _]) rfl)<|pq 5 (qxX (.agg [vL _ _ _,vL _ _ _,vI _ _,vI _ _]) rfl)<|pq 6 (qxI rfl)<|vst 8 rfl (zB 2015 ty.co36 ty.inf36 rfl) (.inl rfl)<|vq 9 (raI rfl)<|fD<|gA<|lmI Z<|lbB Z<|nG ?_
      refine AW.cond rfl ?_ ?_
      ·intro h8
       refine aL<|loX (.agg [vL _ _ _,vL _ _ _,vI _ _,vI _ _]) ty.kd36 Z<|lst (zB 2005 ty.co36 ty.inf36 Z) Z<|lN<|gB<|gT<|aL<|lmI Z<|lgI Z<|laI Z<|nG ?_
       refine⟨(_,_,nJ-1,lgAddL lJ (⟨va7,vb7,vc7,vd7,ve7,vf7,vg7⟩)),⟨by assumption,hlJ.add hn (by have h:=h8;simpa using h)⟩,by show (nJ-1).toNat<nJ.toNat;omega,⟨rfl,trivial⟩,⟨rfl,rfl,trivial⟩,rfl,rfl⟩
      ·intro h8
       refine aK<|gB<|gT<|aL<|lmI Z<|lgI Z<|laI Z<|nG ?_
       refine⟨(_,_,nJ-1,lJ),⟨by assumption,hlJ.same hn⟩,by show (nJ-1).toNat<nJ.toNat;omega,⟨rfl,trivial⟩,⟨rfl,rfl,trivial⟩,rfl,rfl⟩
    ·refine AF1.stx (i:=2) rfl (St.callX [(0,0)] [] [0] rfl (by intro s hs;cases hs;decide) rfl Try.func114 rfl rfl (l04Draw_e g code _ _ hc3) ⟨rfl,rfl,rfl⟩ (⟨⟨0,rfl,rfl⟩,trivial⟩) (pins_cur) rfl) (.inl rfl) rfl ?_
     rintro _ _ ⟨xz8,oz8,hz8,rfl,rfl⟩
     obtain⟨i8,q8,hc8,⟨⟨va8,vb8,vc8,vd8,ve8,vf8,vg8⟩,hw8,rfl⟩,rfl⟩:=hz8
     refine fT [0,2,5,8,72] [0,2002,2003,2005] ?_
     refine sq 0 (roX (.agg [vL _ _ _,vL _ _ _,vI _ _,vI _ _]) ty.kd36 rfl) ?_
     refine AF.two (i:=3) (j:=7) (by kernel_rfl) ?_ ?_
     ·refine v1 3 rfl (zC [] [] [] Try.func10 (slogAdd_f lJ ⟨va8,vb8,vc8,vd8,ve8,vf8,vg8⟩) (trivial) rfl rfl) (.inr rfl)<|pq 4 (qmX (.tup [.agg [vL _ _ _,vL _ _ _,vI _ _,vI _ _],vI _ _]) rfl)<|pq 5 (qxX (.agg [vL _ _ _,vL _ _ _,vI _ _,vI _ _]) rfl)<|pq 6 (qxI rfl)<|vst 7 rfl (zA 2015 ty.ze36 rfl) (.inr rfl)<|vst 8 rfl (zB 2015 ty.co36 ty.inf36 rfl) (.inl rfl)<|vq 9 (raI rfl)<|fD<|gA<|lmI Z<|lbB Z<|nG ?_
      refine AW.cond rfl ?_ ?_
      ·intro h9
       refine aL<|loX (.agg [vL _ _ _,vL _ _ _,vI _ _,vI _ _]) ty.kd36 Z<|lst (zB 2005 ty.co36 ty.inf36 Z) Z<|lN<|gB<|gT<|aL<|lmI Z<|lgI Z<|laI Z<|nG ?_
       refine⟨(_,_,nJ-1,lgAddL lJ (⟨va8,vb8,vc8,vd8,ve8,vf8,vg8⟩)),⟨by assumption,hlJ.add hn (by have h:=h9;simpa using h)⟩,by show (nJ-1).toNat<nJ.toNat;omega,⟨rfl,trivial⟩,⟨rfl,rfl,trivial⟩,rfl,rfl⟩
      ·intro h9
       refine aK<|gB<|gT<|aL<|lmI Z<|lgI Z<|laI Z<|nG ?_
       refine⟨(_,_,nJ-1,lJ),⟨by assumption,hlJ.same hn⟩,by show (nJ-1).toNat<nJ.toNat;omega,⟨rfl,trivial⟩,⟨rfl,rfl,trivial⟩,rfl,rfl⟩
     ·refine v1 7 Z (zA 2015 ty.ze36 Z) (.inr Z)<|fT [0,2,5,8,15,70,72] [0,2002,2003,2005,2015] ?_
      refine vst 3 rfl (zC [] [] [] Try.func10 (slogAdd_f lJ ⟨va8,vb8,vc8,vd8,ve8,vf8,vg8⟩) (trivial) rfl rfl) (.inr rfl)<|vq 4 (rmX (.tup [.agg [vL _ _ _,vL _ _ _,vI _ _,vI _ _],vI _ _]) rfl)<|pq 5 (qxX (.agg [vL _ _ _,vL _ _ _,vI _ _,vI _ _]) rfl)<|pq 6 (qxI rfl)<|vst 8 rfl (zB 2015 ty.co36 ty.inf36 rfl) (.inl rfl)<|vq 9 (raI rfl)<|fD<|gA<|lmI Z<|lbB Z<|nG ?_
      refine AW.cond rfl ?_ ?_
      ·intro h10
       refine aL<|loX (.agg [vL _ _ _,vL _ _ _,vI _ _,vI _ _]) ty.kd36 Z<|lst (zB 2005 ty.co36 ty.inf36 Z) Z<|lN<|gB<|gT<|aL<|lmI Z<|lgI Z<|laI Z<|nG ?_
       refine⟨(_,_,nJ-1,lgAddL lJ (⟨va8,vb8,vc8,vd8,ve8,vf8,vg8⟩)),⟨by assumption,hlJ.add hn (by have h:=h10;simpa using h)⟩,by show (nJ-1).toNat<nJ.toNat;omega,⟨rfl,trivial⟩,⟨rfl,rfl,trivial⟩,rfl,rfl⟩
      ·intro h10
       refine aK<|gB<|gT<|aL<|lmI Z<|lgI Z<|laI Z<|nG ?_
       refine⟨(_,_,nJ-1,lJ),⟨by assumption,hlJ.same hn⟩,by show (nJ-1).toNat<nJ.toNat;omega,⟨rfl,trivial⟩,⟨rfl,rfl,trivial⟩,rfl,rfl⟩
    ·refine v1 7 Z (zA 2015 ty.ze36 Z) (.inr Z)<|fT [0,2,5,8,15,71] [0,2002,2003,2005,2015] ?_
     refine AF.two (i:=0) (j:=2) (by kernel_rfl) ?_ ?_
     ·refine AF1.rd (i:=0) (x:=.agg [vL _ _ _,vL _ _ _,vI _ _,vI _ _]) rfl (rd_load_box rfl ty.kd36 rfl rfl rfl rfl) rfl rfl (by decide) ?_
      refine AF.stx (i:=2) rfl (by kernel_rfl) (St.callX [(0,0)] [] [0] rfl (by intro s hs;cases hs;decide) rfl Try.func114 rfl rfl (l04Draw_e g code _ _ hc3) ⟨rfl,rfl,rfl⟩ (⟨⟨0,rfl,rfl⟩,trivial⟩) (pins_cur) rfl) (.inl rfl) rfl ?_
      rintro _ _ ⟨xz9,oz9,hz9,rfl,rfl⟩
      obtain⟨i9,q9,hc9,⟨⟨va9,vb9,vc9,vd9,ve9,vf9,vg9⟩,hw9,rfl⟩,rfl⟩:=hz9
      refine vst 3 rfl (zC [] [] [] Try.func10 (slogAdd_f lJ ⟨va9,vb9,vc9,vd9,ve9,vf9,vg9⟩) (trivial) rfl rfl) (.inr rfl)<|vq 4 (rmX (.tup [.agg [vL _ _ _,vL _ _ _,vI _ _,vI _ _],vI _ _]) rfl)<|pq 5 (qxX (.agg [vL _ _ _,vL _ _ _,vI _ _,vI _ _]) rfl)<|pq 6 (qxI rfl)<|vst 8 rfl (zB 2015 ty.co36 ty.inf36 rfl) (.inl rfl)<|vq 9 (raI rfl)<|fD<|gA<|lmI Z<|lbB Z<|nG ?_
      refine AW.cond rfl ?_ ?_
      ·intro h11
       refine aL<|loX (.agg [vL _ _ _,vL _ _ _,vI _ _,vI _ _]) ty.kd36 Z<|lst (zB 2005 ty.co36 ty.inf36 Z) Z<|lN<|gB<|gT<|aL<|lmI Z<|lgI Z<|laI Z<|nG ?_
       refine⟨(_,_,nJ-1,lgAddL lJ (⟨va9,vb9,vc9,vd9,ve9,vf9,vg9⟩)),⟨by assumption,hlJ.add hn (by have h:=h11;simpa using h)⟩,by show (nJ-1).toNat<nJ.toNat;omega,⟨rfl,trivial⟩,⟨rfl,rfl,trivial⟩,rfl,rfl⟩
      ·intro h11
       refine aK<|gB<|gT<|aL<|lmI Z<|lgI Z<|laI Z<|nG ?_
       refine⟨(_,_,nJ-1,lJ),⟨by assumption,hlJ.same hn⟩,by show (nJ-1).toNat<nJ.toNat;omega,⟨rfl,trivial⟩,⟨rfl,rfl,trivial⟩,rfl,rfl⟩
     ·refine AF1.stx (i:=2) rfl (St.callX [(0,0)] [] [0] rfl (by intro s hs;cases hs;decide) rfl Try.func114 rfl rfl (l04Draw_e g code _ _ hc3) ⟨rfl,rfl,rfl⟩ (⟨⟨0,rfl,rfl⟩,trivial⟩) (pins_cur) rfl) (.inl rfl) rfl ?_
      rintro _ _ ⟨xz10,oz10,hz10,rfl,rfl⟩
      obtain⟨i10,q10,hc10,⟨⟨va10,vb10,vc10,vd10,ve10,vf10,vg10⟩,hw10,rfl⟩,rfl⟩:=hz10
      refine fT [0,2,5,8,15,72] [0,2002,2003,2005,2015] ?_
      refine vq 0 (roX (.agg [vL _ _ _,vL _ _ _,vI _ _,vI _ _]) ty.kd36 rfl) ?_
      refine vst 3 rfl (zC [] [] [] Try.func10 (slogAdd_f lJ ⟨va10,vb10,vc10,vd10,ve10,vf10,vg10⟩) (trivial) rfl rfl) (.inr rfl)<|vq 4 (rmX (.tup [.agg [vL _ _ _,vL _ _ _,vI _ _,vI _ _],vI _ _]) rfl)<|pq 5 (qxX (.agg [vL _ _ _,vL _ _ _,vI _ _,vI _ _]) rfl)<|pq 6 (qxI rfl)<|vst 8 rfl (zB 2015 ty.co36 ty.inf36 rfl) (.inl rfl)<|vq 9 (raI rfl)<|fD<|gA<|lmI Z<|lbB Z<|nG ?_
      refine AW.cond rfl ?_ ?_
      ·intro h12
       refine aL<|loX (.agg [vL _ _ _,vL _ _ _,vI _ _,vI _ _]) ty.kd36 Z<|lst (zB 2005 ty.co36 ty.inf36 Z) Z<|lN<|gB<|gT<|aL<|lmI Z<|lgI Z<|laI Z<|nG ?_
       refine⟨(_,_,nJ-1,lgAddL lJ (⟨va10,vb10,vc10,vd10,ve10,vf10,vg10⟩)),⟨by assumption,hlJ.add hn (by have h:=h12;simpa using h)⟩,by show (nJ-1).toNat<nJ.toNat;omega,⟨rfl,trivial⟩,⟨rfl,rfl,trivial⟩,rfl,rfl⟩
      ·intro h12
       refine aK<|gB<|gT<|aL<|lmI Z<|lgI Z<|laI Z<|nG ?_
       refine⟨(_,_,nJ-1,lJ),⟨by assumption,hlJ.same hn⟩,by show (nJ-1).toNat<nJ.toNat;omega,⟨rfl,trivial⟩,⟨rfl,rfl,trivial⟩,rfl,rfl⟩
 ·intro h1
  refine aE<|eT<|eT<|eB<|gA<|loX (.agg [vL _ _ _,vL _ _ _,vI _ _,vI _ _]) ty.kd36 Z<|lst (zB 2002 ty.co36 ty.inf36 Z) Z<|lT [2] [0,2002,2003,2005] ?_
  refine nG<|aR ?_
  refine end_xret (logV lJ) [(0,curO g code iJ qJ)] ?_ rfl ⟨rfl,trivial⟩
  exact⟨_,_,hcJ,⟨lJ,fun _=>hlJ.ok,hlJ.by_,rfl⟩,rfl⟩
theorem l05Any_e(g:Value)(code:List Int)(i:Nat)(h:Int)(hc:CurOk code i):GX Try.prog 74 [.ptr 0 0 0] [(0,curO g code i h)] (DrR g code (DrL False)):=by
 refine GX.intro (rs:=[.cell 2 36 (some 4)]) Try.func74 rfl Try.ntmps74 (Nat.le_of_ble_eq_true rfl) ⟨rfl,rfl,ty.kd36,trivial⟩ ?_
 intro L O w0
 refine sL<|lst (zA 2002 ty.ze36 Z) Z<|nA<|lmP Z ?_
 refine lX [(0,0)] [] [0] Try.func68 (l05Draw_e g code _ _ hc) (⟨⟨0,rfl,rfl⟩,trivial⟩) (pins_cur) Z ?_
 intro xz1 oz1 hz1
 obtain⟨i1,q1,hc1,⟨⟨⟨cL,wL⟩,nL,eL⟩,hokD,hbD,rfl⟩,rfl⟩:=hz1
 refine lst (zA 2003 ty.ze36 Z) Z<|lst (zB 2003 ty.co36 ty.inf36 Z) Z<|nA<|lmP Z ?_
 refine lX [(0,0)] [] [0] Try.func69 (l01Below_e g code _ _ _ hc1) (⟨⟨0,rfl,rfl⟩,trivial⟩) (pins_cur) Z ?_
 intro xz2 oz2 hz2
 obtain⟨i2,q2,hc2,⟨n2,⟨na2,nb2⟩,rfl⟩,rfl⟩:=hz2
 refine laI Z<|nG ?_
 refine aJ [0,2,3,4] [2002] (D:=Nat×Int×List Cell×List Write×Int×Int) (fun d=>[]) (fun d=>[(0,curO g code d.1 d.2.1),(2003,.box 36 none [.p (.lst 115 1 (rowsC d.2.2.1)),.p (.lst 123 2 (rowsW d.2.2.2.1)),int d.2.2.2.2.1,int d.2.2.2.2.2])]) (fun d=>CurOk code d.1∧DkB ⟨d.2.2.1,d.2.2.2.1⟩) ?_ ?_
 ·refine sL<|lmI Z<|lbB Z<|nG ?_
  refine AW.cond rfl ?_ ?_
  ·intro h1
   refine aL<|lmP Z ?_
   refine lX [(0,0)] [] [0] Try.func117 (l01Raw_e g code _ _ hc2) (⟨⟨0,rfl,rfl⟩,trivial⟩) (pins_cur) Z ?_
   intro xz3 oz3 hz3
   obtain⟨i3,q3,hc3,⟨n3,hn3,rfl⟩,rfl⟩:=hz3
   refine lf 2 ty.F36_1 Z<|lst (zB 2003 ty.co3 ty.inf3 Z) Z<|lT [0,2,3,4] [0,2002,2003] ?_
   refine nG ?_
   refine⟨(_,_,_,_,_,_),⟨by assumption,by assumption⟩,trivial,⟨rfl,rfl,trivial⟩,rfl,rfl⟩
  ·intro h1
   refine aK<|gT ?_
   refine⟨(_,_,_,_,_,_),⟨by assumption,by assumption⟩,trivial,⟨rfl,rfl,trivial⟩,rfl,rfl⟩
 ·intro ⟨iJ5,qJ5,cJ5,wJ5,nJ5,eJ5⟩ hJ5
  dsimp only
  obtain⟨hcJ5,hbJ5⟩:=hJ5
  simp only at hcJ5 hbJ5
  refine aJ [0,2,3,4] [2002] (D:=Nat×Int×List Cell×List Write×Int×Int) (fun d=>[]) (fun d=>[(0,curO g code d.1 d.2.1),(2003,.box 36 none [.p (.lst 115 1 (rowsC d.2.2.1)),.p (.lst 123 2 (rowsW d.2.2.2.1)),int d.2.2.2.2.1,int d.2.2.2.2.2])]) (fun d=>CurOk code d.1∧DkB ⟨d.2.2.1,d.2.2.2.1⟩) ?_ ?_
  ·refine sL<|lmI Z<|lbB Z<|nG ?_
   refine AW.cond rfl ?_ ?_
   ·intro h2
    refine aL<|lmP Z ?_
    refine lX [(0,0)] [] [0] Try.func117 (l01Raw_e g code _ _ hcJ5) (⟨⟨0,rfl,rfl⟩,trivial⟩) (pins_cur) Z ?_
    intro xz4 oz4 hz4
    obtain⟨i4,q4,hc4,⟨n4,hn4,rfl⟩,rfl⟩:=hz4
    refine lf 3 ty.F36_2 Z<|lst (zB 2003 ty.co3 ty.inf3 Z) Z<|nG ?_
    refine⟨(_,_,_,_,_,_),⟨by assumption,by assumption⟩,trivial,⟨rfl,rfl,trivial⟩,rfl,rfl⟩
   ·intro h2
    refine aK<|gT ?_
    refine⟨(_,_,_,_,_,_),⟨by assumption,by assumption⟩,trivial,⟨rfl,rfl,trivial⟩,rfl,rfl⟩
  ·intro ⟨iJ7,qJ7,cJ7,wJ7,nJ7,eJ7⟩ hJ7
   dsimp only
   obtain⟨hcJ7,hbJ7⟩:=hJ7
   simp only at hcJ7 hbJ7
   refine aJ [2,3,4] [2002] (D:=Nat×Int×List Cell×List Write×Int×Int) (fun d=>[]) (fun d=>[(0,curO g code d.1 d.2.1),(2003,.box 36 none [.p (.lst 115 1 (rowsC d.2.2.1)),.p (.lst 123 2 (rowsW d.2.2.2.1)),int d.2.2.2.2.1,int d.2.2.2.2.2])]) (fun d=>CurOk code d.1∧DkB ⟨d.2.2.1,d.2.2.2.1⟩) ?_ ?_
   ·refine sL<|lmI Z<|lbB Z<|nG ?_
    refine AW.cond rfl ?_ ?_
    ·intro h3
     refine aL<|lmP Z ?_
     refine lX [(0,0),(1,1),(2,2)] [1,2] [0] Try.func70 (l03AnyDisk_e g code _ _ hcJ7) (⟨⟨0,rfl,rfl⟩,trivial⟩) (pins_curX) Z ?_
     intro xz5 oz5 hz5
     obtain⟨i5,q5,_,hc5,⟨⟨cD,wD⟩,hbE,rfl,rfl⟩,rfl⟩:=hz5
     refine lf 0 ty.F36_0 rfl ?_
     refine AL.freeze 1 rfl ?_
     refine AL.freeze 2 rfl ?_
     refine lst (zB 2003 ty.co34 ty.inf34 Z) Z<|nG ?_
     refine⟨(_,_,_,_,_,_),⟨by assumption,by assumption⟩,trivial,⟨rfl,rfl,trivial⟩,rfl,rfl⟩
    ·intro h3
     refine aK<|gT ?_
     refine⟨(_,_,_,_,_,_),⟨by assumption,by assumption⟩,trivial,⟨rfl,rfl,trivial⟩,rfl,rfl⟩
   ·intro ⟨iJ9,qJ9,cJ9,wJ9,nJ9,eJ9⟩ hJ9
    dsimp only
    obtain⟨hcJ9,hbJ9⟩:=hJ9
    simp only at hcJ9 hbJ9
    refine aJ [2,3] [2002] (D:=Nat×Int×List Cell×List Write×Int×Int) (fun d=>[]) (fun d=>[(0,curO g code d.1 d.2.1),(2003,.box 36 none [.p (.lst 115 1 (rowsC d.2.2.1)),.p (.lst 123 2 (rowsW d.2.2.2.1)),int d.2.2.2.2.1,int d.2.2.2.2.2])]) (fun d=>CurOk code d.1∧DkB ⟨d.2.2.1,d.2.2.2.1⟩) ?_ ?_
    ·refine sL<|lmI Z<|lbB Z<|nG ?_
     refine AW.cond rfl ?_ ?_
     ·intro h4
      refine aL<|lf 0 ty.F36_0 Z<|lf 0 ty.F34_0 Z<|loL ty.kd31 Z<|lnI ty.sl31 Z ?_
      refine AL.slot 29 (int (cJ9.length:Int)) (congrArg (fun n:Nat=>int (n:Int)) (rowsC_len _)) ?_
      refine lf 2 ty.F36_1 Z<|lst (zB 2003 ty.co3 ty.inf3 Z) Z<|nG ?_
      refine⟨(_,_,_,_,_,_),⟨by assumption,by assumption⟩,trivial,⟨rfl,rfl,trivial⟩,rfl,rfl⟩
     ·intro h4
      refine aK<|gT ?_
      refine⟨(_,_,_,_,_,_),⟨by assumption,by assumption⟩,trivial,⟨rfl,rfl,trivial⟩,rfl,rfl⟩
    ·intro ⟨iJ11,qJ11,cJ11,wJ11,nJ11,eJ11⟩ hJ11
     dsimp only
     obtain⟨hcJ11,hbJ11⟩:=hJ11
     simp only at hcJ11 hbJ11
     refine sL<|loX (.agg [vL _ _ _,vL _ _ _,vI _ _,vI _ _]) ty.kd36 Z<|lst (zB 2002 ty.co36 ty.inf36 Z) Z<|nG<|aR ?_
     refine end_xret (logV ⟨⟨cJ11,wJ11⟩,nJ11,eJ11⟩) [(0,curO g code iJ11 qJ11)] ?_ rfl ⟨rfl,trivial⟩
     exact⟨_,_,hcJ11,⟨⟨⟨cJ11,wJ11⟩,nJ11,eJ11⟩,(fun h=>h.elim),hbJ11,rfl⟩,rfl⟩
def DrOA:AV→List (Nat×AO)→Prop:=fun x ob=>∃l e,DkB l.disk∧wfEvent e∧x=.tup [logV l,evV e]∧ob=[]
theorem drawLogAdd_e(code:List Int)(hm:code.length≤1048576):GX Try.prog 31 [.p (.lst 5 1 (rowsOf encU8 code))] [] (DrOA):=by
 refine GX.intro (rs:=[.cell 2 36 (some 4),.cell 3 40 (some 7)]) Try.func31 rfl Try.ntmps31 (Nat.le_of_ble_eq_true rfl) ⟨rfl,rfl,ty.kd36,rfl,rfl,ty.kd40,trivial⟩ ?_
 intro L O w0
 refine sL<|lst (zA 2002 ty.ze36 Z) Z<|lst (zA 2003 ty.ze40 Z) Z<|nA<|lmL Z ?_
 refine lX [(31,0)] [0] [] Try.func66 (l01New_e code hm) (trivial) (fun _ _ _=>trivial) Z ?_
 intro xz1 oz1 hz1
 obtain⟨q1,rfl,rfl⟩:=hz1
 refine laP Z<|nA<|lmP Z ?_
 refine AL.pinB 0 rfl ?_
 intro g
 have hc:CurOk code 0:=⟨Nat.zero_le _,hm⟩
 refine lX [(0,0)] [] [0] Try.func74 (l05Any_e g code _ _ hc) (⟨⟨0,rfl,rfl⟩,trivial⟩) (pins_cur) Z ?_
 intro xz2 oz2 hz2
 obtain⟨i2,q2,hc2,⟨lD,hokD,hbD,rfl⟩,rfl⟩:=hz2
 refine lst (zA 2005 ty.ze36 Z) Z<|lst (zB 2005 ty.co36 ty.inf36 Z) Z<|nG<|aS<|aF [2,3,4]<|pq 1 (qmP Z) ?_
 refine AF.two (i:=0) (j:=2) (by kernel_rfl) ?_ ?_
 ·refine AF1.rd (i:=0) (x:=.agg [vL _ _ _,vL _ _ _,vI _ _,vI _ _]) rfl (rd_load_box rfl ty.kd36 rfl rfl rfl rfl) rfl rfl (by decide) ?_
  refine AF.stx (i:=2) rfl (by kernel_rfl) (St.callX [(0,0)] [] [0] rfl (by intro s hs;cases hs;decide) rfl Try.func75 rfl rfl (l04Any_e g code _ _ hc2) ⟨rfl,rfl,rfl⟩ (⟨⟨0,rfl,rfl⟩,trivial⟩) (pins_cur) rfl) (.inl rfl) rfl ?_
  rintro _ _ ⟨xz4,oz4,hz4,rfl,rfl⟩
  obtain⟨i4,q4,hc4,⟨⟨va4,vb4,vc4,vd4,ve4,vf4,vg4⟩,hw4,rfl⟩,rfl⟩:=hz4
  refine vst 3 Z (zB 2002 ty.co36 ty.inf36 Z) (.inl Z)<|vst 4 Z (zB 2003 ty.co40 ty.inf40 Z) (.inl Z)<|fT [2,3] [0,2002,2003,2005] ?_
  refine fD<|gT<|aR ?_
  refine end_xret ((.tup [logV lD,evV ⟨_,_,_,_,_,_,_⟩])) [] ?_ rfl trivial
  exact⟨lD,_,hbD,by assumption,rfl,rfl⟩
 ·refine AF1.stx (i:=2) rfl (St.callX [(0,0)] [] [0] rfl (by intro s hs;cases hs;decide) rfl Try.func75 rfl rfl (l04Any_e g code _ _ hc2) ⟨rfl,rfl,rfl⟩ (⟨⟨0,rfl,rfl⟩,trivial⟩) (pins_cur) rfl) (.inl rfl) rfl ?_
  rintro _ _ ⟨xz5,oz5,hz5,rfl,rfl⟩
  obtain⟨i5,q5,hc5,⟨⟨va5,vb5,vc5,vd5,ve5,vf5,vg5⟩,hw5,rfl⟩,rfl⟩:=hz5
  refine vq 0 (roX (.agg [vL _ _ _,vL _ _ _,vI _ _,vI _ _]) ty.kd36 Z)<|vst 3 Z (zB 2002 ty.co36 ty.inf36 Z) (.inl Z)<|vst 4 Z (zB 2003 ty.co40 ty.inf40 Z) (.inl Z)<|fD<|gT<|aR ?_
  refine end_xret ((.tup [logV lD,evV ⟨_,_,_,_,_,_,_⟩])) [] ?_ rfl trivial
  exact⟨lD,_,hbD,by assumption,rfl,rfl⟩

-- ---------- views
theorem lastW_app{i:Int}{w:Write}:∀(ws:List Write),lastW (ws++[w]) i=if w.at_=i then some w.bytes else lastW ws i
 |[]=>rfl
 |x::ws=>by
  show (match lastW (ws++[w]) i with|some b=>some b|none=>if x.at_=i then some x.bytes else none)=_
  rw[lastW_app ws]
  by_cases h:w.at_=i
  ·rw[if_pos h,if_pos h]
  ·rw[if_neg h,if_neg h];rfl
theorem syncs_at{i:Nat}:∀(ws:List Write) (cs:List Cell),(∀w∈ws,0≤w.at_)→(ws.foldl syncStep cs)[i]? = (cs[i]?).map fun c=>match lastW ws i with|some b=>⟨b⟩|none=>c
 |[],cs,_=>by simp[lastW]
 |w::ws,cs,h=>by
  rw[List.foldl_cons,syncs_at ws _ (fun x hx=>h x (by simp[hx]))]
  have h0:=h w (by simp)
  show ((cs.set w.at_.toNat ⟨w.bytes⟩)[i]?).map _=(cs[i]?).map fun c=>match (match lastW ws i with|some b=>some b|none=>if w.at_=(i:Int)then some w.bytes else none)with|some b=>(⟨b⟩:Cell)|none=>c
  rw[List.getElem?_set]
  by_cases q:w.at_.toNat=i
  ·rw[if_pos q]
   have q2:w.at_=(i:Int):=by omega
   by_cases z:w.at_.toNat<cs.length
   ·rw[if_pos z,List.getElem?_eq_getElem (show i<cs.length by omega)]
    cases lastW ws i<;>simp[q2]
   ·rw[if_neg z,List.getElem?_eq_none (show cs.length≤i by omega)];rfl
  ·rw[if_neg q]
   have q2:¬w.at_=(i:Int):=by omega
   cases lastW ws i<;>simp[q2]
theorem at_sync{d:Disk}(h:diskOk d=true){i:Nat}(hi:i<d.cells.length):diskAt (diskS d) i=diskAt d i:=by
 rw[diskS_y h]
 unfold diskAt
 show fullB (((synK d d.dirty.length)[i]?).getD ⟨[]⟩).bytes=_
 unfold synK
 rw[List.take_length,syncs_at _ _ (fun w hw=>by obtain⟨j,hj,rfl⟩:=List.getElem_of_mem hw;exact(dok_at h hj).1),List.getElem?_eq_getElem hi]
 cases hl:lastW d.dirty i with
 |none=>rfl
 |some b=>
  obtain⟨w,hw,hwb⟩:=lw_mem hl
  obtain⟨j,hj,rfl⟩:=List.getElem_of_mem hw
  have:=dok_w h hj
  rw[hwb]at this
  show fullB b=b
  exact fullB_n (by omega)
theorem view_get{d:Disk}{i:Nat}(h:i<(views d).length):(views d)[i]=diskAt d i:=by simp[views]
theorem views_sync{d:Disk}(h:diskOk d=true):views (diskS d)=views d:=by
 have hl:(diskS d).cells.length=d.cells.length:=by rw[diskS_y h];exact synK_len _ _
 refine List.ext_getElem (by rw[views_len,views_len,hl]) fun i h1 h2=>?_
 have hi:i<d.cells.length:=by rwa [views_len]at h2
 rw[view_get,view_get,at_sync h hi]
theorem views_w{d:Disk}{i:Nat}{b:List Int}:views (diskW d i b)=(views d).set i b:=by
 refine List.ext_getElem (by rw[List.length_set,views_len,views_len];rfl) fun j h1 h2=>?_
 have hj:j<d.cells.length:=by rw[List.length_set,views_len]at h2;exact h2
 rw[List.getElem_set,view_get,view_get]
 unfold diskAt diskW
 show (match lastW (d.dirty++[⟨(i:Int),b⟩]) (j:Int)with|some b=>b|none=>_)=_
 rw[lastW_app]
 by_cases q:i=j
 ·subst q;rw[if_pos rfl,if_pos rfl]
 ·rw[if_neg (show ¬((i:Int)=(j:Int)) by omega),if_neg q];rfl
-- ---------- the run
theorem run_ext:∀(bs:List (List Int)) (acc:List Sector),∃r,logRun bs acc=acc++r
 |[],acc=>⟨[],by simp[logRun]⟩
 |b::r,acc=>by
  unfold logRun
  split
  ·obtain⟨q,hq⟩:=run_ext r (acc++[secC b])
   exact⟨secC b::q,by rw[hq,List.append_assoc];rfl⟩
  ·exact⟨[],by simp⟩
theorem run_pre:∀(m:Nat) (bs:List (List Int)) (acc:List Sector) (rest:List (List Int)),acc.length+m≤(logRun bs acc).length→logRun (bs.take m++rest) acc=logRun rest ((logRun bs acc).take (acc.length+m))
 |0,bs,acc,rest,_=>by
  obtain⟨r,hr⟩:=run_ext bs acc
  rw[hr,List.take_zero,List.nil_append,Nat.add_zero,List.take_left]
 |m+1,[],acc,rest,h=>by
  have:logRun [] acc=acc:=rfl
  rw[this]at h;omega
 |m+1,b::r,acc,rest,h=>by
  by_cases hg:goesOn acc b=true
  ·have e:logRun (b::r) acc=logRun r (acc++[secC b]):=by conv=>lhs;unfold logRun
                                                         rw[if_pos hg]
   rw[e]at h ⊢
   have ih:=run_pre m r (acc++[secC b]) rest (by rw[List.length_append,List.length_singleton];omega)
   rw[List.length_append,List.length_singleton]at ih
   rw[List.take_succ_cons,List.cons_append,show acc.length+(m+1)=acc.length+1+m by omega,←ih]
   conv=>lhs;unfold logRun
   rw[if_pos hg]
  ·have e:logRun (b::r) acc=acc:=by unfold logRun;rw[if_neg hg]
   rw[e]at h;omega
theorem run_set{bs:List (List Int)}{b:List Int}(h:(logRun bs []).length<bs.length):logRun (bs.set (logRun bs []).length b) []=logRun (b::bs.drop ((logRun bs []).length+1)) (logRun bs []):=by
 have e:bs.set (logRun bs []).length b=bs.take (logRun bs []).length++b::bs.drop ((logRun bs []).length+1):=by
  rw[List.set_eq_take_append_cons_drop,if_pos h]
 rw[e,run_pre _ bs [] _ (by simp)]
 simp
theorem top_ge:∀(l:List (List Int)) (t:Int),t≤l.foldl (fun t b=>max t (secR b).epoch) t∧∀b∈l,(secR b).epoch≤l.foldl (fun t b=>max t (secR b).epoch) t
 |[],t=>⟨Int.le_refl _,fun b h=>by cases h⟩
 |x::l,t=>by
  have ih:=top_ge l (max t (secR x).epoch)
  rw[List.foldl_cons]
  refine⟨by omega,fun b hb=>?_⟩
  rcases List.mem_cons.1 hb with rfl|hb
  ·omega
  ·exact ih.2 b hb
theorem topOf_ge{l:List (List Int)}{b:List Int}(h:b∈l):(secR b).epoch≤topOf l:=(top_ge l 0).2 b h
theorem topOf_nn(l:List (List Int)):0≤topOf l:=(top_ge l 0).1
theorem last_top(bs:List (List Int)):lastE (logRun bs [])≤topOf bs:=by
 unfold lastE
 split
 ·rename_i s hs
  rcases run_mem (List.mem_of_getLast? hs)with q|⟨b,hb,hF,rfl⟩
  ·cases q
  ·have:=topOf_ge hb
   rwa [secR_yes hF]at this
 ·exact topOf_nn _
theorem evC_evB{e:Event}(h:eventOk e=true):evC (evB e)=e:=by
 obtain⟨b1,b2,b3,b4,b5,b6⟩:=evBd h
 have p3:(numB 3 e.key).length=3:=numB_length _ _
 have p7:(numB 7 e.amt).length=7:=numB_length _ _
 have p8:(numB 7 e.fee).length=7:=numB_length _ _
 have e0:evB e=69::e.kind::(numB 3 e.key++(e.ch::e.to::(numB 7 e.amt++(numB 7 e.fee++[if e.yes then 1 else 0])))):=by unfold evB;simp only[List.append_assoc];rfl
 have d2:(evB e).drop 2=numB 3 e.key++(e.ch::e.to::(numB 7 e.amt++(numB 7 e.fee++[if e.yes then 1 else 0]))):=by rw[e0];rfl
 have d5:(evB e).drop 5=e.ch::e.to::(numB 7 e.amt++(numB 7 e.fee++[if e.yes then 1 else 0])):=by rw[show (5:Nat)=2+3 from rfl,←List.drop_drop,d2,List.drop_left' p3]
 have d7:(evB e).drop 7=numB 7 e.amt++(numB 7 e.fee++[if e.yes then 1 else 0]):=by rw[show (7:Nat)=5+2 from rfl,←List.drop_drop,d5];rfl
 have d14:(evB e).drop 14=numB 7 e.fee++[if e.yes then 1 else 0]:=by rw[show (14:Nat)=7+7 from rfl,←List.drop_drop,d7,List.drop_left' p7]
 have d21:(evB e).drop 21=[if e.yes then 1 else 0]:=by rw[show (21:Nat)=14+7 from rfl,←List.drop_drop,d14,List.drop_left' p8]
 have g (k:Nat):(evB e).getD k 0=(((evB e).drop k)[0]?).getD 0:=by rw[List.getD_eq_getElem?_getD,List.getElem?_drop,Nat.add_zero]
 unfold evC
 rw[g 1,g 5,g 6,g 21,show (6:Nat)=5+1 from rfl,←List.drop_drop,d2,d5,d7,d14,d21,List.take_left' p3,List.take_left' p7,List.take_left' p8,valB_numB b2.1 (by omega),valB_numB b5.1 (by omega),valB_numB b6.1 (by omega),e0]
 obtain⟨k1,k2,k3,k4,k5,k6,y⟩:=e
 cases y<;>rfl
theorem evF_evB{e:Event}(h:eventOk e=true):evF (evB e)=true:=evF_iff.2 ⟨evB_length e,by rw[evC_evB h];exact h,by rw[evC_evB h]⟩
theorem evs_app(a b:List Sector):evsOf (a++b)=evsOf a++evsOf b:=List.filterMap_append
-- ---------- what opening does
structure OpenL(d:Disk):Prop where
 evs:logE (lgOpL d).disk=logE d
 len:((logR (lgOpL d).disk).length:Int)=(lgOpL d).next
 ep:(lgOpL d).epoch=logTop d+1
 top:logTop (lgOpL d).disk=(lgOpL d).epoch
 run:logR (lgOpL d).disk=logR d++[⟨(logR d).length,logTop d+1,[66]⟩]
-- ---------- what adding does
structure AddL(l:Log)(e:Event):Prop where
 ge:(lgAddL l e).next≤((logR (lgAddL l e).disk).length:Int)
 run:((logR (lgAddL l e).disk).length:Int)=(lgAddL l e).next→logR (lgAddL l e).disk=logR l.disk++[⟨l.next,l.epoch,evB e⟩]
 evs:((logR (lgAddL l e).disk).length:Int)=(lgAddL l e).next→logE (lgAddL l e).disk=logE l.disk++[e]
theorem addL_{l:Log}{e:Event}(hc:lgAddC l e=0)(hn:((logR l.disk).length:Int)=l.next)(ht:logTop l.disk≤l.epoch):AddL l e:=by
 obtain⟨h1,h2,h3,h4,h5⟩:=ad_ok hc
 have hL:=adL_y hc
 have hi:=inB_iff.1 h2
 have hokL:=lgAd_ok hc
 have hlt:(logR l.disk).length<l.disk.cells.length:=by omega
 have hS:=adSec (e:=e) h1 h2 h3 (by omega)
 have hx:l.next.toNat=(logR l.disk).length:=by omega
 rw[hx]at hL
 generalize hb:secB ⟨l.next,l.epoch,evB e⟩=b at hL
 have hbF:secF b=true:=by rw[←hb];exact secF_secB hS
 have hbC:secC b=⟨l.next,l.epoch,evB e⟩:=by rw[←hb];exact secC_secB hS
 have hv:views (lgAddL l e).disk=(views l.disk).set (logR l.disk).length b:=by rw[hL];exact views_w
 have hR:=logR_y h1
 have hT:=logTop_y h1
 have hlast:lastE (logR l.disk)≤logTop l.disk:=by rw[hR,hT];exact last_top _
 have hg:goesOn (logR l.disk) b=true:=goes_iff.2 ⟨hbF,by rw[hbC];exact hn.symm,by rw[hbC];show lastE _≤l.epoch;omega⟩
 have hrun:logR (lgAddL l e).disk=logRun ((views l.disk).drop ((logR l.disk).length+1)) (logR l.disk++[⟨l.next,l.epoch,evB e⟩]):=by
  rw[logR_y hokL,hv]
  have e:=run_set (bs:=views l.disk) (b:=b) (by rw[←hR,views_len];exact hlt)
  rw[←hR]at e
  rw[e]
  conv=>lhs;unfold logRun
  rw[if_pos hg,hbC]
 obtain⟨r,hr⟩:=run_ext ((views l.disk).drop ((logR l.disk).length+1)) (logR l.disk++[⟨l.next,l.epoch,evB e⟩])
 rw[hr]at hrun
 have hnx:(lgAddL l e).next=l.next+1:=by rw[hL]
 have hr0:((logR (lgAddL l e).disk).length:Int)=(lgAddL l e).next→logR (lgAddL l e).disk=logR l.disk++[⟨l.next,l.epoch,evB e⟩]:=fun q=>by
  rw[hrun]at q ⊢
  rw[hnx]at q
  simp only[List.length_append,List.length_singleton]at q
  have:r=[]:=List.length_eq_zero_iff.1 (by omega)
  rw[this,List.append_nil]
 refine⟨by rw[hrun,hnx];simp only[List.length_append,List.length_singleton];omega,hr0,fun q=>?_⟩
 unfold logE
 rw[hr0 q,evs_app]
 congr 1
 unfold evsOf
 simp[evF_evB h4,evC_evB h4]
theorem kept{d:Disk}(h:diskOk d=true):diskC (diskS d) []=diskS d∧logE (diskS d)=logE d:=by
 have hs:=sync_ok h
 refine⟨?_,?_⟩
 ·rw[diskC_y hs.1,hs.2]
  have:=hs.2
  revert this
  generalize diskS d=x
  intro hx
  obtain⟨c,w⟩:=x
  subst hx
  rfl
 ·unfold logE
  rw[logR_y hs.1,logR_y h,views_sync h]

theorem diskCrash_0(d:Disk)(hd:diskOk d=true)(hw0:d.dirty=[]):GC Try.prog 34 [diskV d,.p (.v (.slice none 0 0))] [] (.agg [.p (.lst 115 1 (rowsC d.cells)),.p (.v (.slice none 0 0))]) []:=by
 refine GC.intro (rs:=[.cell 4 34 (some 2)]) Try.func34 rfl Try.ntmps34 (Nat.le_of_ble_eq_true rfl) ⟨rfl,rfl,ty.kd34,trivial⟩ ?_
 intro L O w0
 refine sL<|lst (zX 2002 Z) Z<|lst (zA 2004 ty.ze34 Z) Z<|nG<|aS<|sL<|loX (.agg [vL _ _ _,vL _ _ _]) ty.kd34 Z<|lst (zC [] [] [] Try.func46 (diskOk_e d) (trivial) Z Z) Z<|lsB 11 true Z (hd)<|luZ Z<|nG<|aN Z<|aK<|gA<|loX (.agg [vL _ _ _,vL _ _ _]) ty.kd34 Z<|lst (zC [] [] [] Try.func78 (diskRel_f (copyDisk_n d (dok_s hd))) (trivial) Z Z) Z<|lst (zA 2005 ty.ze34 Z) Z<|lst (zB 2005 ty.co34 ty.inf34 Z) Z<|nG<|aS<|sL<|lf 1 ty.F34_1 Z ?_
 refine loL ty.kd32 Z<|lnI ty.sl32 Z ?_
 refine AL.slot 18 (int 0) (Eq.trans (b:=int ((rowsW d.dirty).length:Int)) rfl (congrArg int (by rw[rowsW_len,hw0];rfl))) ?_
 refine lmI Z<|nG<|aB ?_
 refine aW [1,4,5,17,18] [2002,2004,2005] (D:=Unit) (fun a=>[(19,int 0)]) (fun a=>[]) (fun a=>True) (fun a=>0) (()) (trivial) ⟨rfl,trivial⟩ trivial ?_
 intro _ hI
 refine sL<|lbB Z<|nG<|aS ?_
 refine AW.cond rfl ?_ ?_
 ·intro h1
  refine aK<|gT<|aS<|aB<|aS ?_
  exact absurd h1 (by simp[hw0])
 ·intro h1
  refine aE<|eT<|eT<|eB<|gA<|lf 1 ty.F34_1 Z<|lst (zB 2005 ty.co32 ty.inf32 Z) Z<|lT [4,5] [2002,2004,2005] ?_
  refine nA<|loX (.agg [vL _ _ _,vV _]) ty.kd34 Z<|lst (zB 2004 ty.co34 ty.inf34 Z) Z<|nG<|aR ?_
  refine end_ret ?_ trivial
  rfl
theorem diskCrash_z(d:Disk)(hd:diskOk d=true)(hw0:d.dirty=[]):GC Try.prog 34 [diskV d,.p (.v (.slice none 0 0))] [] (diskV d) []:=GX.imp (diskCrash_0 d hd hw0) (fun x ob1 ⟨e1,e2⟩=>by
 subst e1 e2
 refine⟨diskV d,Imp.agg (ImpL.cons (Imp.refl _) (ImpL.cons ?_ ImpL.nil)),rfl,rfl⟩
 rw[hw0]
 exact Imp.nil _ _)
theorem logSync_f(l:Log):GC Try.prog 35 [logV l] [] (logV (lgSyL l)) []:=lgRel_f (logSync_n l)
theorem fnLog_e(code:List Int):GC Try.prog 7 [.p (.lst 5 1 (rowsOf encU8 code))] [] (boo true) []:=by
 refine gi 2 Try.func7 rfl Try.ntmps7 rfl ?_
 intro L O w0
 refine sL<|laZ Z<|nG<|aS<|sL<|lmL Z<|lnI ty.sl56 Z ?_
 refine AL.slot 16 (int (code.length:Int)) (congrArg (fun n:Nat=>int (n:Int)) (length_rowsOf ..)) ?_
 refine lbB Z<|nG ?_
 refine AW.cond rfl ?_ ?_
 ·intro h1
  refine sL<|laT Z<|nG<|aR<|rT ?_
  refine end_ret ?_ trivial
  rfl
 ·intro h1
  refine aK<|gA<|lmL Z ?_
  refine lX [] [] [] Try.func31 (drawLogAdd_e code (by have h:=h1;simp only[decide_eq_false_iff_not]at h;omega)) (trivial) (fun _ _ _=>trivial) Z ?_
  intro xz1 oz1 hz1
  obtain⟨l,e,hbd,hwe,rfl,rfl⟩:=hz1
  refine lmX (.tup [.agg [vL _ _ _,vL _ _ _,vI _ _,vI _ _],.agg [vI _ _,vI _ _,vI _ _,vI _ _,vI _ _,vI _ _,vB _]]) Z<|lxX (.agg [vL _ _ _,vL _ _ _,vI _ _,vI _ _]) Z<|lxX (.agg [vI _ _,vI _ _,vI _ _,vI _ _,vI _ _,vI _ _,vB _]) Z<|lst (zA 2003 ty.ze36 Z) Z<|lst (zA 2004 ty.ze40 Z) Z<|lst (zB 2003 ty.co36 ty.inf36 Z) Z<|lst (zB 2004 ty.co40 ty.inf40 Z) Z<|lT [2,3,4] [2003,2004] ?_
  refine nA<|loX (.agg [vL _ _ _,vL _ _ _,vI _ _,vI _ _]) ty.kd36 Z<|loX (.agg [vI _ _,vI _ _,vI _ _,vI _ _,vI _ _,vI _ _,vB _]) ty.kd40 Z<|lst (zC [] [] [] Try.func13 (logAdd_f l e) (trivial) Z Z) Z<|lmX (.tup [.agg [vL _ _ _,vL _ _ _,vI _ _,vI _ _],vI _ _]) Z<|lxX (.agg [vL _ _ _,vL _ _ _,vI _ _,vI _ _]) Z<|lxI Z<|lst (zA 2005 ty.ze36 Z) Z<|lst (zB 2005 ty.co36 ty.inf36 Z) Z<|laI Z<|nA<|loX (.agg [vL _ _ _,vL _ _ _,vI _ _,vI _ _]) ty.kd36 Z<|loX (.agg [vI _ _,vI _ _,vI _ _,vI _ _,vI _ _,vI _ _,vB _]) ty.kd40 Z<|lst (zC [] [] [] Try.func10 (slogAdd_f l e) (trivial) Z Z) Z<|lmX (.tup [.agg [vL _ _ _,vL _ _ _,vI _ _,vI _ _],vI _ _]) Z<|lxX (.agg [vL _ _ _,vL _ _ _,vI _ _,vI _ _]) Z<|lxI Z<|lst (zA 2007 ty.ze36 Z) Z<|lT [2,3,4,5,6,7,33,34] [2003,2004,2005,2007] ?_
  refine lst (zB 2007 ty.co36 ty.inf36 rfl) Z<|laI Z<|nG<|aS<|sL<|lmI Z<|lmI Z<|lbB Z<|lsB 37 false rfl (by simp)<|nG<|aN Z<|aK<|gT<|aS<|sL<|lmI Z<|lbB Z<|nG ?_
  refine AW.cond rfl ?_ ?_
  ·intro h2
   refine sL<|lf 0 ty.F36_0 Z<|lf 0 ty.F34_0 Z<|loL ty.kd31 Z<|lnI ty.sl31 Z ?_
   refine AL.slot 43 (int ((lgAddL l e).disk.cells.length:Int)) (congrArg (fun n:Nat=>int (n:Int)) (rowsC_len _)) ?_
   refine lbB Z<|lsB 44 true rfl (by rw[adL_n (by have h:=h2;simpa using h)];rfl)<|laT Z<|nG<|aR<|rT ?_
   refine end_ret ?_ trivial
   rfl
  ·intro h2
   refine aK<|gT<|aS ?_
   have hc:lgAddC l e=0:=by have h:=h2;simpa using h
   have hA:=ad_ok hc
   have hbM:=lgAd_b (e:=e) hbd
   have hokM:=lgAd_ok hc
   have ht:=logTop_bd l.disk
   have hLn:=adL_y hc
   have hi:=inB_iff.1 hA.2.1
   have hsz:=(dok_iff hA.1).1
   refine aL<|lf 0 ty.F36_0 Z<|loX (.agg [vL _ _ _,vL _ _ _]) ty.kd34 Z<|lst (zC [] [] [] Try.func32 (slogRead_e l.disk hbd) (trivial) Z Z) Z<|lT [2,3,4,5,48] [2003,2004,2005,2007] ?_
   refine lmX (.tup [vL _ _ _,vI _ _]) Z<|lxL Z<|lxI Z<|laL Z<|laI Z<|nG<|aS<|aS<|aF []<|pq 0 (qmX (vI _ _) Z)<|vq 1 (rf 2 ty.F36_1 Z)<|vq 2 (roI ty.kd3 Z)<|vq 3 (rbB Z)<|vq 4 (rmB Z) ?_
   refine AF.bool (t:=55) rfl ?_ ?_
   ·intro h3
    refine pno 5 Z<|pno 6 Z<|vno 7 Z<|vno 8 Z<|vno 9 Z<|vno 10 Z<|vno 11 Z<|vq 12 (rkT rfl)<|fD<|gT<|aY Z<|sL<|lf 2 ty.F36_1 Z<|loI ty.kd3 Z<|lf 2 ty.F36_1 Z<|loI ty.kd3 Z<|lgI Z<|lbB Z<|lsB 69 true rfl (by rw[hLn];simp)<|laT Z<|nG<|aR<|rT ?_
    refine end_ret ?_ trivial
    rfl
   ·intro h3
    refine pq 5 (qf 3 ty.F36_2 Z)<|sq 6 (roI ty.kd3 Z)<|vq 7 (rf 0 ty.F36_0 Z)<|vq 8 (roX (.agg [vL _ _ _,vL _ _ _]) ty.kd34 Z)<|vst 9 Z (zC [] [] [] Try.func33 (slogTop_e l.disk hbd) (trivial) Z Z) (.inr Z)<|fT [2,3,4,5,55,57,60] [2003,2004,2005,2007] ?_
    refine vq 10 (rgI rfl (by unfold i64;omega))<|vq 11 (rbB rfl)<|vq 12 (rkB rfl)<|fD<|gT ?_
    refine AW.cond rfl ?_ ?_
    ·intro h4
     refine sL<|lf 2 ty.F36_1 Z<|loI ty.kd3 Z<|lf 2 ty.F36_1 Z<|loI ty.kd3 Z<|lgI Z<|lbB Z<|lsB 69 true rfl (by rw[hLn];simp)<|laT Z<|nG<|aR<|rT ?_
     refine end_ret ?_ trivial
     rfl
    ·intro h4
     refine aK<|gT<|aS ?_
     have hn:((logR l.disk).length:Int)=l.next:=by have h:=h3;simpa using h
     have hep:logTop l.disk≤l.epoch:=by have h:=h4;simp only[decide_eq_false_iff_not]at h;omega
     have hL:=addL_ hc hn hep
     refine aL<|lf 0 ty.F36_0 Z<|loX (.agg [vL _ _ _,vL _ _ _]) ty.kd34 Z<|lst (zC [] [] [] Try.func29 (logRead_e (lgAddL l e).disk hbM) (trivial) Z Z) Z<|lmX (.tup [vL _ _ _,vI _ _]) Z<|lxL Z<|lxI Z<|laL Z<|laI Z<|nG<|aS<|sL<|lmI Z<|lf 2 ty.F36_1 Z<|loI ty.kd3 Z<|lbB Z<|nG ?_
     refine AW.cond rfl ?_ ?_
     ·intro h5
      refine aS ?_
      have hne:¬((logR (lgAddL l e).disk).length:Int)=(lgAddL l e).next:=by have h:=h5;simpa using h
      have hge:=hL.ge
      refine aL<|lmI Z<|lf 2 ty.F36_1 Z<|loI ty.kd3 Z<|lbB Z<|lsB 83 true rfl (by rw[decide_eq_true_eq];omega)<|laT Z<|nG<|aR<|rT ?_
      refine end_ret ?_ trivial
      rfl
     ·intro h5
      refine aK<|gT<|aS ?_
      have heq:((logR (lgAddL l e).disk).length:Int)=(lgAddL l e).next:=by have h:=h5;simpa using h
      have hev:=hL.evs heq
      have hok2:=sync_ok hokM
      obtain⟨hk1,hk2⟩:=kept hokM
      have hel:=logE_len (lgAddL l e).disk
      have hlen:(logE (lgAddL l e).disk).length=(logE l.disk).length+1:=by rw[hev,List.length_append,List.length_singleton]
      have hsy:=sy_y (l:=(lgAddL l e)) hokM
      have hrw:(rowsOf encEvent (logE (lgAddL l e).disk))[(logE l.disk).length]? = some ((encEvent e).map PV.v):=by
       rw[hev]
       unfold rowsOf
       rw[List.getElem?_map,List.getElem?_append_right (Nat.le_refl _),Nat.sub_self]
       rfl
      refine aL<|lf 0 ty.F36_0 Z<|loX (.agg [vL _ _ _,vL _ _ _]) ty.kd34 Z<|lst (zC [] [] [] Try.func20 (logEvents_f (lgAddL l e).disk hbM) (trivial) Z Z) Z<|lT [2,4,5,86] [2003,2004,2005,2007] ?_
      refine laL Z<|nA<|loX (.agg [vL _ _ _,vL _ _ _,vI _ _,vI _ _]) ty.kd36 Z<|lst (zC [] [] [] Try.func35 (logSync_f (lgAddL l e)) (trivial) Z Z) Z<|lq (rd (x:=.agg [vL _ _ _,vL _ _ _]) (rd_field Z ty.fl36_0 ty.kd34 Z) Z) ?_
      refine AL.slot 89 (diskV (diskS (lgAddL l e).disk)) (Eq.trans (b:=diskV (lgSyL (lgAddL l e)).disk) rfl (by rw[hsy])) ?_
      refine lst (zC [] [] [] Try.func34 (diskCrash_z (diskS (lgAddL l e).disk) hok2.1 hok2.2) (trivial) Z Z) Z<|lst (zC [] [] [] Try.func20 (logEvents_f (diskS (lgAddL l e).disk) (dkb_sync hbM)) (trivial) Z Z) Z<|laL Z<|nG<|aS<|aF []<|vq 0 (rmL Z)<|vq 1 (rnI ty.sl46 Z) ?_
      refine AF.slot 93 (int ((logE (lgAddL l e).disk).length:Int)) (congrArg (fun n:Nat=>int (n:Int)) (length_rowsOf ..)) ?_
      refine vq 2 (rbB rfl)<|fsB 94 true rfl (by rw[decide_eq_true_eq,hlen];omega)<|vq 3 (rmT rfl)<|pq 4 (qmL rfl)<|pq 5 (qmL rfl)<|sq 6 (rnI ty.sl46 rfl) ?_
      refine AF.slot 98 (int ((logE (lgAddL l e).disk).length:Int)) (congrArg (fun n:Nat=>int (n:Int)) (length_rowsOf ..)) ?_
      refine sq 7 (rgI rfl (by unfold i64;omega))<|fsN 99 (((logE l.disk).length:Nat):Int) rfl (by rw[hlen];omega)<|sq 8 (ri ((logE l.disk).length) ty.el46 rfl (hrw))<|sq 9 (rrX (.agg [vI _ _,vI _ _,vI _ _,vI _ _,vI _ _,vI _ _,vB _]) ty.kd40 rfl)<|vq 10 (roX (.agg [vI _ _,vI _ _,vI _ _,vI _ _,vI _ _,vI _ _,vB _]) ty.kd40 rfl)<|vq 11 (rd (x:=vB _) (rd_eqS rfl (.inl rfl) rfl rfl ty.sf40 ty.su40 ty.sh40 ty.sg40 ?hn1) rfl) ?_
      case hn1=>exact⟨rfl,by decide,rfl,⟨_,Try.underlying3⟩,rfl,by decide,rfl,⟨_,Try.underlying3⟩,rfl,by decide,rfl,⟨_,Try.underlying3⟩,rfl,by decide,rfl,⟨_,Try.underlying3⟩,rfl,by decide,rfl,⟨_,Try.underlying3⟩,rfl,by decide,rfl,⟨_,Try.underlying3⟩,by decide,rfl,Try.underlying4,trivial⟩
      refine fsB 103 true rfl (by simp[eqVals])<|vq 12 (rkT rfl)<|vq 13 (rmT rfl)<|pq 14 (qmL rfl)<|sq 15 (rnI ty.sl46 rfl) ?_
      refine AF.slot 107 (int ((logE (diskS (lgAddL l e).disk)).length:Int)) (congrArg (fun n:Nat=>int (n:Int)) (length_rowsOf ..)) ?_
      refine vq 16 (rmL Z)<|vq 17 (rnI ty.sl46 Z) ?_
      refine AF.slot 109 (int ((logE (lgAddL l e).disk).length:Int)) (congrArg (fun n:Nat=>int (n:Int)) (length_rowsOf ..)) ?_
      refine vq 18 (rbB rfl)<|fsB 110 true rfl (by rw[hk2];simp)<|vq 19 (rkT rfl)<|vq 20 (raT rfl)<|fD<|gT<|aR ?_
      refine end_ret ?_ trivial
      rfl

theorem FnLog_walk(l:List Int)(a:Option Addr)(c:Nat)(w:World)(h0:SlR 1 repByte w 0 w.heap.size (.slice a l.length c) l) :
 Calls Try.prog 7 #[.slice a l.length c] w fun r w'=>r=.returned (.bool true)∧Grow w w':=
 GC.calls (cs:=[_]) rfl (fnLog_e l) (by
  simp only[RVL]
  exact⟨_,_,rfl,RV.of_slr (enc:=encU8) h0 (fun _ _ h=>h.1) (fun _=>rfl) (by intro c u hu;simp[encU8]at hu;subst hu;rfl) (Nat.le_refl _) (fun _ _ _=>no_live),rfl⟩)
end Go.Proofs.Yteblcdnhnckkaaa

namespace Go.Proofs.Yteblcdnhnckkaaa.fnLog
open Go.ChangeShapes Go.WideShapes Go.ChangeAt Go.RowKit Go.Proofs.Yteblcdnhnckkaaa
set_option maxHeartbeats 16000000
set_option maxRecDepth 100000
set_option linter.unusedVariables false
theorem own:ownKnob Try.prog.godebug=none:=by kernel_rfl
theorem laid:laidOutB Try.prog=true:=by kernel_rfl
theorem readable:∀t∈[56],Try.prog.readableRec t=true∧t<Try.prog.types.size:=by
 intro t ht
 simp only[List.mem_cons,List.not_mem_nil,or_false]at ht
 rcases ht with rfl
 all_goals exact⟨by kernel_rfl,of_decide_eq_true (by kernel_rfl)⟩
theorem lifted(os:Os)(started:os.Started)(H:Type)(enc:TypeId×Value→H) :
 ReturnsInHanded {} Try.checked os 7 .any (Rows.fnLogSpec.pre6 enc Try.prog Try.f7 Rows.fnLogRow.domain false) (Rows.fnLogSpec.post enc Try.prog Try.f7 false true false false):=by
 refine returnsInHanded_of_change (C:=Try.checked) own started (by kernel_rfl) Try.func7
  (ChangeSpec.witness6 (enc:=enc) (C:=Try.checked) false ⟨#[],#[.slice none 0 0],[]⟩ 8 (by kernel_rfl) (by kernel_rfl) (by kernel_rfl) (by kernel_rfl)) ?_
 intro W base args ds gs before hval0 hW hcnd _
 have hval:∀(j:Nat) t v,Try.f7.params[j]? = some t→args[j]? = some v→Value.okWide Try.prog W .any base t v:=hval0
 have hW':=hW
 obtain⟨p,q,hA0,hV,rfl,hfz,hnd⟩:=hW
 have hA:DataW.TrodAll enc Try.prog W 0 (fun _=>true) true Try.f7.params.toList args.toList ds p:=hA0
 rw[Try.params7]at hA hval
 have hB:=hA
 obtain⟨v0,vs0,d0,ds0,p0,q0,hargs,rfl,rfl,h0,r0⟩:=trodAll_cons hA
 obtain⟨rfl,rfl,rfl⟩:=trodAll_nil r0
 obtain rfl:args=#[v0]:=by cases args;simp_all
 obtain⟨rfl,rfl⟩:=trodVars_none hV
 obtain⟨a0,l0,c0,rfl⟩:=okWide_slice Try.underlying56 (hval 0 56 v0 rfl rfl)
 obtain⟨fu0,t0⟩:=h0
 obtain⟨x0,s0⟩:=SlR.of_trod (rep:=repByte) Try.underlying56 cellsByte (by decide) (fun _ _ _ h=>trodByte h) t0
 obtain rfl:l0=x0.length:=by obtain⟨_,_,he,_⟩:=s0;injection he
 clear hA0 hval0
 simp only[List.append_nil]at hW'
 refine(FnLog_walk x0 a0 c0 W s0).mono fun e W' ⟨he,hg⟩=>?_
 subst he
 exact⟨_,rfl,_,_,_,_,_,[],hW',trodAll_mk1 (shut_bool Try.underlying4 true),
  trodAll_below laid hg.below (readable) hB,rfl,hg.below.frame _,fun h=>by cases h⟩
theorem over:Rows.fnLogRow.holds Try.pinned (OpenSpec.ofChange Rows.fnLogSpec):=
 OpenClaim.holds_of_wide 7 Try.f7 rfl rfl rfl rfl rfl rfl rfl ⟨rfl,rfl,rfl,rfl,rfl⟩ rfl rfl rfl rfl rfl (by kernel_rfl) Try.func7 (by kernel_rfl)
  (of_decide_eq_true (by kernel_rfl)) (by unfold Func.isWrapper;first|(rw[if_pos (by decide +kernel)];kernel_rfl)|(rw[if_neg (by decide +kernel)];exact⟨rfl,rfl⟩))
  (fun os started H enc _=>lifted os started H enc)
theorem proved:Rows.FnLogSaid:=
 over
#print axioms proved
end Go.Proofs.Yteblcdnhnckkaaa.fnLog

