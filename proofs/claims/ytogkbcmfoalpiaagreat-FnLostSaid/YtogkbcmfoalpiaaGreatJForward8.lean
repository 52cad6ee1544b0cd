/- Texts of the proof of FnForward, joined: EA9, ES1, ES2. -/
import Derived.Test.YtogkbcmfoalpiaaGreatJForward7
import Derived.Test.YtogkbcmfoalpiaaGreatJForward3
namespace Go.Proofs.YtogkbcmfoalpiaaGreat
open Go.RowKit
set_option maxHeartbeats 16000000
set_option maxRecDepth 100000
set_option linter.unusedSimpArgs false
set_option linter.unusedVariables false
theorem chansOk_at{x:Book}(h:chansOk x=true){k:Nat}(hk:k<x.chans.length):chanOk1 x.chans[k]=true∧ascAt x.chans k=true∧chanSum x x.chans[k]=true:=by
 unfold chansOk at h
 have:=List.all_eq_true.1 h k (by simpa using hk)
 unfold chanAtOk at this
 rw[List.getElem?_eq_getElem hk]at this
 simp only[Bool.and_eq_true]at this
 exact⟨this.1.1,this.1.2,this.2⟩
theorem asc_lt{l:List Chan}(h:∀k,k<l.length→ascAt l k=true):∀(j i:Nat) (hj:j<l.length) (hi:i<j),(l[i]'(by omega)).id<l[j].id
 |0,i,hj,hi=>by omega
 |j+1,i,hj,hi=>by
  have h1:=h (j+1) hj
  unfold ascAt at h1
  dsimp only at h1
  rw[List.getElem?_eq_getElem (by omega:j<l.length),List.getElem?_eq_getElem hj]at h1
  have h2:(l[j]'(by omega)).id<l[j+1].id:=by simpa using h1
  rcases Nat.lt_or_ge i j with q|q
  ·have:=asc_lt h j i (by omega) q;omega
  ·have:i=j:=by omega
   subst this;exact h2
theorem keys_pair{ks:List Int}(h:keysOk ks=true):ks.Pairwise (·≠·):=by
 rw[List.pairwise_iff_getElem]
 intro i j hi hj hij e
 unfold keysOk at h
 have h1:=List.all_eq_true.1 h j (by simpa using hj)
 unfold keyAt at h1
 simp only[Bool.and_eq_true,Bool.not_eq_true']at h1
 have e1:ks.getD j 0=ks[j]:=by simp[List.getD_eq_getElem?_getD,List.getElem?_eq_getElem hj]
 rw[e1]at h1
 have h2:hasI (ks.take j) ks[j]=true:=hasI_yes (k:=i) (by simp;omega) (by rw[List.getElem_take];exact e)
 rw[h2]at h1
 cases h1.2
theorem bookOk_parts{x:Book}(h:bookOk x=true):amtOk x.tick=true∧amtOk x.wallet=true∧inB x.next 1 1125899906842624=true∧x.chans.length≤20∧partsOk x=true∧chansOk x=true:=by
 unfold bookOk at h
 simp only[Bool.and_eq_true,decide_eq_true_eq]at h
 obtain⟨⟨⟨⟨⟨h1,h2⟩,h3⟩,h4⟩,h5⟩,h6⟩:=h
 exact⟨h1,h2,h3,h4,h5,h6⟩
theorem parts_all{x:Book}(h:partsOk x=true):x.htlcs.length≤60∧x.circles.length≤20∧(∀h∈x.htlcs,hOk x.chans h=true)∧(∀h∈x.circles,cOk x.chans h=true)∧keysOk (keysOf x)=true:=by
 unfold partsOk at h
 simp only[Bool.and_eq_true,decide_eq_true_eq,List.all_eq_true]at h
 obtain⟨⟨⟨⟨h1,h2⟩,h3⟩,h4⟩,h5⟩:=h
 exact⟨h1,h2,h3,h4,h5⟩
theorem chan_all{x:Book}(h:chansOk x=true){c:Chan}(hc:c∈x.chans):chanOk1 c=true∧chanSum x c=true:=by
 obtain⟨k,hk,rfl⟩:=List.getElem_of_mem hc
 have:=chansOk_at h hk
 exact⟨this.1,this.2.2⟩
theorem two_parts{l:List Chan}{a b:Int}(h:two l a b=true):a≠b∧0≤chanAt l a∧0≤chanAt l b:=by
 unfold two at h
 simp only[Bool.and_eq_true,Bool.not_eq_true',beq_eq_false_iff_ne,decide_eq_true_eq]at h
 exact⟨h.1.1,h.1.2,h.2⟩
theorem chanOk1_parts{c:Chan}(h:chanOk1 c=true):(1≤c.id∧c.id≤99)∧(0≤c.loc∧c.loc≤1125899906842624)∧(0≤c.remote∧c.remote≤1125899906842624)∧(0≤c.base∧c.base≤1125899906842624)∧(0≤c.ppm∧c.ppm≤1000000)∧(-100≤c.score∧c.score≤100)∧(0≤c.size∧c.size≤1125899906842624):=by
 unfold chanOk1 chOk scOk at h
 simp only[Bool.and_eq_true,amtOk_true,inB_true]at h
 obtain⟨⟨⟨⟨⟨⟨h1,h2⟩,h3⟩,h4⟩,h5⟩,h6⟩,h7⟩:=h
 exact⟨h1,h2,h3,h4,h5,h6,h7⟩
theorem bookOk_fi{x:Book}(h:bookOk x=true):BookFi x:=by
 obtain⟨h1,h2,h3,h4,h5,h6⟩:=bookOk_parts h
 obtain⟨p1,p2,p3,p4,p5⟩:=parts_all h5
 have h1':=amtOk_true.1 h1
 have h2':=amtOk_true.1 h2
 have h3':=inB_true.1 h3
 have hp:=keys_pair p5
 unfold keysOf at hp
 rw[List.pairwise_append]at hp
 refine⟨⟨by unfold A50;omega,by unfold A50;omega,by unfold A50;omega,fun c hc=>?_,fun y hy=>?_,fun y hy=>?_,h4,p1,p2⟩,?_,?_,?_,fun y hy=>?_,fun y hy=>?_⟩
 ·have:=chanOk1_parts (chan_all h6 hc).1
  unfold A50;omega
 ·have:=hOk_iff.1 (p3 y hy)
  rw[amtOk_true,amtOk_true]at this
  unfold A50;omega
 ·have:=cOk_iff.1 (p4 y hy)
  rw[amtOk_true,amtOk_true]at this
  unfold A50;omega
 ·rw[List.pairwise_iff_getElem]
  intro i j hi hj hij
  have:=asc_lt (fun k hk=>(chansOk_at h6 hk).2.1) j i hj hij
  omega
 ·exact List.pairwise_map.1 hp.1
 ·exact List.pairwise_map.1 hp.2.1
 ·have:=two_parts (hOk_iff.1 (p3 y hy)).2.2.2.2
  exact⟨this.2.1,this.2.2,this.1⟩
 ·have:=two_parts (cOk_iff.1 (p4 y hy)).2.2.2
  exact⟨this.2.1,this.2.2,this.1⟩
theorem evSm_of{e:Event}(h:eventOk e=true):EvSm e∧0≤e.amt∧0≤e.fee:=by
 have:=evAmt h
 rw[amtOk_true,amtOk_true]at this
 exact⟨⟨by unfold A50;omega,by unfold A50;omega⟩,by omega,by omega⟩
theorem ev_ne{e:Event}(h:eventOk e=true)(hk:e.kind=5∨e.kind=9):e.ch≠e.to:=by
 unfold eventOk at h
 simp only[Bool.and_eq_true]at h
 have h1:=h.1.1.1.2
 intro q
 rw[q]at h1
 rcases hk with hk|hk<;>simp[hk,hT]at h1
theorem ev_kind{e:Event}(h:eventOk e=true):1≤e.kind∧e.kind≤11:=by
 rcases Classical.em (1≤e.kind∧e.kind≤11)with q|q
 ·exact q
 ·rw[evNone q]at h;cases h
theorem amts_of{x:Book}(h:bookOk x=true):(∀h∈x.htlcs,h.amtOut≤h.amtIn)∧∀h∈x.circles,0≤h.amt∧0≤h.fee:=by
 obtain⟨_,_,_,_,h5,_⟩:=bookOk_parts h
 obtain⟨_,_,p3,p4,_⟩:=parts_all h5
 refine⟨fun y hy=>(hOk_iff.1 (p3 y hy)).2.2.1,fun y hy=>?_⟩
 have:=cOk_iff.1 (p4 y hy)
 rw[amtOk_true,amtOk_true]at this
 omega
theorem circle_fits{x:Book}(h:bookOk x=true):∀y∈x.circles,0≤y.amt∧0≤y.fee∧y.amt+y.fee≤1125899906842624:=fun y hy=>by
 obtain⟨h1,h2,h3,h4,h5,h6⟩:=bookOk_parts h
 obtain⟨p1,p2,p3,p4,p5⟩:=parts_all h5
 have ha:=(amts_of h).2 y hy
 refine⟨ha.1,ha.2,?_⟩
 obtain⟨i,c,q1,q2,q3,q4⟩:=chan_there (two_parts (cOk_iff.1 (p4 y hy)).2.2.2).2.1
 obtain⟨c1,c2⟩:=chan_all h6 (mem_of_get q2)
 have c1:=chanOk1_parts c1
 unfold chanSum at c2
 rw[beq_iff_eq]at c2
 have sm:=Small.of_parts h5
 have s1:=sums_le sm c.id
 have t1:cOut c.id y≤tot (cOut c.id) x.circles:=by
  obtain⟨k,hk,rfl⟩:=List.getElem_of_mem hy
  have e1:tot (cOut c.id) x.circles=tot (cOut c.id) (x.circles.take (k+1))+tot (cOut c.id) (x.circles.drop (k+1)):=by
   unfold tot
   rw[←List.sum_append,←List.map_append,List.take_append_drop]
  have e2:=tot_succ (cOut c.id) x.circles hk
  have e3:=tot_take_le (cOut c.id) 2251799813685248 (by decide) x.circles (sm.cOut c.id) k
  have e4:=tot_le (cOut c.id) 2251799813685248 (by decide) (x.circles.drop (k+1)) (fun z hz=>sm.cOut c.id z (List.mem_of_mem_drop hz))
  omega
 have t2:0≤tot (hOut c.id) x.htlcs:=(tot_le (hOut c.id) 1125899906842624 (by decide) x.htlcs (sm.hOut c.id)).1
 have t3:cOut c.id y=y.amt+y.fee:=by unfold cOut;rw[if_pos q4.symm]
 unfold outOf at c2 s1
 omega
def depR(x:Book)(e:Event):WR:=⟨{ x with wallet:=x.wallet+e.amt },addL (addL [] 1 0 e.amt) 2 0 (-e.amt),0⟩
def priR(x:Book)(e:Event):WR:=if chanAt x.chans e.ch=-1 then ⟨x,[],6⟩else ⟨{ x with chans:=updC x.chans e.ch fun c=>{ c with base:=e.amt,ppm:=e.fee } },[],0⟩
def workR(x:Book)(e:Event):WR:=
 if e.kind=1 then depR x e else if e.kind=2 then openR x e else if e.kind=3 then shutR x e else if e.kind=4 then priR x e else if e.kind=5 then admR x e
 else if e.kind=6∨e.kind=7 then setR x e else if e.kind=8 then tickR x else if e.kind=9 then lauR x e else landR x e
def applyC(x:Book)(e:Event):Int:=if (bookOk x&&eventOk e)=true then (if overB x e=true then 2 else (workR x e).c)else 1
theorem applyC_bad{x:Book}{e:Event}(h:(bookOk x&&eventOk e)=false):applyC x e=1:=if_neg (by simp[h])
theorem applyC_over{x:Book}{e:Event}(h:(bookOk x&&eventOk e)=true)(h2:overB x e=true):applyC x e=2:=by unfold applyC;rw[if_pos h,if_pos h2]
theorem applyC_work{x:Book}{e:Event}(h:(bookOk x&&eventOk e)=true)(h2:overB x e=false):applyC x e=(workR x e).c:=by unfold applyC;rw[if_pos h,if_neg (by simp[h2])]
theorem workR_next(x:Book)(e:Event):(workR x e).b.next=x.next:=by
 unfold workR
 repeat' split
 ·rfl
 ·unfold openR;split<;>rfl
 ·unfold shutR;split<;>rfl
 ·unfold priR;split<;>rfl
 ·unfold admR;split<;>rfl
 ·unfold setR;split<;>(try unfold setY;split)<;>rfl
 ·rfl
 ·unfold lauR;split<;>rfl
 ·unfold landR;split<;>(try unfold landY;split)<;>rfl
abbrev zBookV:AV:=.agg [int 0,int 0,int 0,.p (.v (.slice none 0 0)),.p (.v (.slice none 0 0)),.p (.v (.slice none 0 0))]
abbrev zPostV:AV:=.agg [int 0,.p (.v (.slice none 0 0))]
abbrev ownB(t n w:Int):AV:=.agg [int t,int n,int w,.own 1,.own 2,.own 3]
abbrev ob3(b:Book):List (Nat×AO):=[(1,.arr 40 7 (rowsOf encChan b.chans)),(2,hAr b.htlcs),(3,iAr b.circles)]
abbrev ob4(b:Book)(l:List Line):List (Nat×AO):=[(1,.arr 40 7 (rowsOf encChan b.chans)),(2,hAr b.htlcs),(3,iAr b.circles),(4,lAr l)]
def appR(x:Book)(e:Event):AV→List (Nat×AO)→Prop:=fun y ob1=>
 (applyC x e≠0∧y=.tup [zBookV,zPostV,int (applyC x e)]∧ob1=[])∨
 (applyC x e=0∧(workR x e).l=[]∧y=.tup [ownB (workR x e).b.tick (workR x e).b.next (workR x e).b.wallet,zPostV,int 0]∧ob1=ob3 (workR x e).b)∨
 (applyC x e=0∧(workR x e).l≠[]∧y=.tup [ownB (workR x e).b.tick ((workR x e).b.next+1) (workR x e).b.wallet,.agg [int x.next,.own 4],int 0]∧ob1=ob4 (workR x e).b (workR x e).l)
theorem row_set_self{rows:List (List PV)}{i:Nat}{R:List PV}(h:i<rows.length):(rows.set i R)[i]? = some R:=List.getElem?_set_self h
theorem over_next{x:Book}{e:Event}(h:overB x e=false):x.next≠1125899906842624:=fun q=>by unfold overB at h;rw[if_pos q]at h;cases h
theorem wk1{x:Book}{e:Event}(h:e.kind=1):depR x e=workR x e:=by unfold workR;simp[h]
theorem wk2{x:Book}{e:Event}(h:e.kind=2):openR x e=workR x e:=by unfold workR;simp[h]
theorem wk3{x:Book}{e:Event}(h:e.kind=3):shutR x e=workR x e:=by unfold workR;simp[h]
theorem wk4{x:Book}{e:Event}(h:e.kind=4):priR x e=workR x e:=by unfold workR;simp[h]
theorem wk5{x:Book}{e:Event}(h:e.kind=5):admR x e=workR x e:=by unfold workR;simp[h]
theorem wk6{x:Book}{e:Event}(h:e.kind=6∨e.kind=7):setR x e=workR x e:=by unfold workR;rcases h with h|h<;>simp[h]
theorem wk8{x:Book}{e:Event}(h:e.kind=8):tickR x=workR x e:=by unfold workR;simp[h]
theorem wk9{x:Book}{e:Event}(h:e.kind=9):lauR x e=workR x e:=by unfold workR;simp[h]
theorem wk10{x:Book}{e:Event}(h:10≤e.kind):landR x e=workR x e:=by
 unfold workR
 rw[if_neg (by omega),if_neg (by omega),if_neg (by omega),if_neg (by omega),if_neg (by omega),if_neg (by omega),if_neg (by omega),if_neg (by omega)]
theorem priR_no{x:Book}{e:Event}(h:chanAt x.chans e.ch=-1):priR x e=⟨x,[],6⟩:=if_pos h
theorem priR_yes{x:Book}{e:Event}{i:Nat}(h:chanAt x.chans e.ch=(i:Int)):priR x e=⟨{ x with chans:=updC x.chans e.ch fun c=>{ c with base:=e.amt,ppm:=e.fee } },[],0⟩:=if_neg (by omega)
theorem apply_e(x:Book)(e:Event)(hw:BookWf x):GX Tryz.prog 9 [bookV x,evV e] [] (appR x e):=by
 refine GX.intro (rs:=[.cell 4 27 (some 6),.cell 5 34 (some 2),.tmp 6]) Tryz.func9 rfl Tryz.ntmps9 (Nat.le_of_ble_eq_true rfl) ⟨rfl,rfl,ty.kd27,rfl,rfl,ty.kd34,rfl,trivial⟩ ?_
 intro L O w0
 refine sL<|lst (zX 2002 Z) Z<|lst (zX 2003 Z) Z<|lst (zA 2004 ty.ze27 Z) Z<|lst (zA 2005 ty.ze34 Z) Z<|laI Z<|nG<|aS<|sL<|loX (.agg [vI _ _,vI _ _,vI _ _,vL _ _ _,vL _ _ _,vL _ _ _]) ty.kd27 Z<|lst (zL Tryz.func11 (impl_BookOk_e x hw) Z) Z<|luB Z<|lmB Z ?_
 refine AL.bool (t:=13) rfl ?_ ?_
 ·intro h1
  refine lno Z<|lno Z<|lno Z<|lkT Z<|nG<|aY Z<|sL<|lq (rd (x:=.agg [vI _ _,vI _ _,vI _ _,vV _,vV _,vV _]) (rd_build Z ty.sa27 Z Z Z) Z)<|lq (rd (x:=.agg [vI _ _,vV _]) (rd_build Z ty.sa34 Z Z Z) Z)<|lst (zB 2004 ty.co27 ty.inf27 Z) Z<|lst (zB 2005 ty.co34 ty.inf34 Z) Z<|lT [2,3,4,5,6] [2002,2003,2004,2005] ?_
  refine laI Z<|nG<|aR<|rT ?_
  have hbe:(bookOk x&&eventOk e)=false:=by simp_all
  have hc1:=applyC_bad hbe
  refine end_xret (.tup [zBookV,zPostV,int 1]) [] ?_ rfl trivial
  exact .inl ⟨by rw[hc1];decide,by rw[hc1],rfl⟩
 ·intro h1
  refine loX (.agg [vI _ _,vI _ _,vI _ _,vI _ _,vI _ _,vI _ _,vB _]) ty.kd29 Z<|lst (zL Tryz.func37 (eventOk_e e) Z) Z<|luB Z<|lkB Z<|nG ?_
  refine AW.cond rfl ?_ ?_
  ·intro h2
   refine sL<|lq (rd (x:=.agg [vI _ _,vI _ _,vI _ _,vV _,vV _,vV _]) (rd_build Z ty.sa27 Z Z Z) Z)<|lq (rd (x:=.agg [vI _ _,vV _]) (rd_build Z ty.sa34 Z Z Z) Z)<|lst (zB 2004 ty.co27 ty.inf27 Z) Z<|lst (zB 2005 ty.co34 ty.inf34 Z) Z<|laI Z<|nG<|aR<|rT ?_
   have hbe:(bookOk x&&eventOk e)=false:=by simp_all
   have hc1:=applyC_bad hbe
   refine end_xret (.tup [zBookV,zPostV,int 1]) [] ?_ rfl trivial
   exact .inl ⟨by rw[hc1];decide,by rw[hc1],rfl⟩
  ·intro h2
   refine aK<|gT<|aS<|sL<|loX (.agg [vI _ _,vI _ _,vI _ _,vL _ _ _,vL _ _ _,vL _ _ _]) ty.kd27 Z ?_
   have hbe:(bookOk x&&eventOk e)=true:=by simp_all
   have hbk:bookOk x=true:=by simp_all
   have hev:eventOk e=true:=by simp_all
   have fi:=bookOk_fi hbk
   have sm:=fi.sm
   obtain⟨es,an0,fn0⟩:=evSm_of hev
   have hm:x.chans.length≤1000000000:=by have:=sm.lc;omega
   obtain⟨h_t,h_w,h_n,h_len,h_pt,h_ch⟩:=bookOk_parts hbk
   have hnx:=inB_true.1 h_n
   refine loX (.agg [vI _ _,vI _ _,vI _ _,vI _ _,vI _ _,vI _ _,vB _]) ty.kd29 Z<|lst (zL Tryz.func38 (over_e x e sm es) Z) Z<|nG ?_
   refine AW.cond rfl ?_ ?_
   ·intro h3
    refine sL<|lq (rd (x:=.agg [vI _ _,vI _ _,vI _ _,vV _,vV _,vV _]) (rd_build Z ty.sa27 Z Z Z) Z)<|lq (rd (x:=.agg [vI _ _,vV _]) (rd_build Z ty.sa34 Z Z Z) Z)<|lst (zB 2004 ty.co27 ty.inf27 Z) Z<|lT [2,3,4,5,6,24] [2002,2003,2004,2005] ?_
    refine lst (zB 2005 ty.co34 ty.inf34 Z) Z<|laI Z<|nG<|aR<|rT ?_
    have hc1:=applyC_over hbe (by simpa using h3)
    refine end_xret (.tup [zBookV,zPostV,int 2]) [] ?_ rfl trivial
    exact .inl ⟨by rw[hc1];decide,by rw[hc1],rfl⟩
   ·intro h3
    refine aK<|gA<|loX (.agg [vI _ _,vI _ _,vI _ _,vL _ _ _,vL _ _ _,vL _ _ _]) ty.kd27 Z<|lst (zC [(2005,1),(2009,2),(2013,3)] [1,2,3] [] Tryz.func39 (copyBook_e x (by have:=sm.lc;have:=sm.lh;have:=sm.li;omega)) (trivial) rfl rfl) Z<|lq (rd (x:=.agg [vI _ _,vI _ _,vI _ _,.own _,.own _,.own _,vV _,vI _ _]) (rd_build rfl ty.sa84 rfl rfl rfl) rfl)<|lst (zX 0 rfl) Z<|laP Z<|nG ?_
    refine AW.adoptB 4 0 6 120 3 rfl (by decide) rfl ?_
    refine AW.pinB 0 rfl ?_
    intro gw
    refine AW.pinA 1 rfl ?_
    intro u
    refine AW.obj 4 (lAr []) rfl ?_
    refine aJ [2,4,5,6,7] [2002,2003,2004,2005] (D:=Unit) (fun jd=>[]) (fun jd=>[(0,wBox gw (workR x e).b.tick (workR x e).b.next (workR x e).b.wallet (workR x e).c),(1,.arr 40 7 (rowsOf encChan (workR x e).b.chans)),(2,hAr (workR x e).b.htlcs),(3,iAr (workR x e).b.circles),(4,lAr (workR x e).l)]) (fun jd=>True) ?_ ?_
    ·refine sL<|lf 0 ty.F29_0 Z<|loI ty.kd3 Z<|nG<|aB<|sL<|lbB Z<|laB Z<|nG ?_
     refine AW.cond rfl ?_ ?_
     ·intro h4
      refine aS<|aG 11 []<|tq 0 (rmP Z)<|tq 1 (rc Z)<|tq 2 (rf 0 ty.F84_0 Z)<|tq 3 (rf 2 ty.F27_2 Z)<|tq 4 (roI ty.kd3 Z)<|yq 5 (rf 4 ty.F29_4 Z)<|yq 6 (roI ty.kd3 Z) ?_
      refine yq 7 (rhI rfl ⟨rfl,fits_i64 (by have:=sm.wallet;have:=es.amt;unfold A50 at *;unfold i64;omega)⟩)<|yq 8 (rc rfl)<|yq 9 (rf 0 ty.F84_0 rfl)<|yq 10 (rf 2 ty.F27_2 rfl)<|yl rfl (zB 0 ty.co3 ty.inf3 rfl)<|gA<|lmP Z<|lf 4 ty.F29_4 Z<|loI ty.kd3 rfl ?_
      refine lst (z5b Tryz.func40 (line_e _ _ _ _ _ _ _ _ _ _ _ _ _ _ ([]) 0 (LG.nil) (by decide) _ _ _ (Fresh.nil _ _) (rangeA_of es.amt)) (⟨stays.box rfl,stays.arr rfl,trivial⟩) rfl rfl) Z<|lT [2,3,4,5,6,7] [0,1,2,3,4,2002,2003,2004,2005] ?_
      refine nG ?_
      refine AW.unpin 1 rfl ?_
      refine aL<|lmP Z<|lf 4 ty.F29_4 Z<|loI ty.kd3 Z<|lq (rd (x:=vI _ _) (rd_un rfl rfl (fits_i64 (by have:=es.amt;unfold A50 at *;unfold i64;omega))) rfl) ?_
      refine lst (z5a Tryz.func40 (line_e _ _ _ _ _ _ _ _ _ _ _ _ _ _ (addL [] 1 0 e.amt) 1 (LG.nil.add (rangeA_of es.amt)) (by decide) _ _ _ ((Fresh.nil _ _).add (.inl (by decide))) (rangeA_neg es.amt)) (⟨stays.box rfl,trivial⟩) rfl rfl) Z<|lN<|gB<|gT ?_
      have hw:depR x e=workR x e:=wk1 (by simpa using h4)
      refine⟨(),trivial,trivial,⟨(congrArg (fun r:WR=>wBox gw r.b.tick r.b.next r.b.wallet r.c) hw),(congrArg (fun r:WR=>AO.arr 40 7 (rowsOf encChan r.b.chans)) hw),(congrArg (fun r:WR=>hAr r.b.htlcs) hw),(congrArg (fun r:WR=>iAr r.b.circles) hw),(congrArg (fun r:WR=>lAr r.l) hw),trivial⟩,rfl,rfl⟩
     ·intro h4
      refine sL<|lbB Z<|laB Z<|nG ?_
      refine AW.cond rfl ?_ ?_
      ·intro h5
       refine aL<|lmP Z<|loX (.agg [vI _ _,vI _ _,vI _ _,vI _ _,vI _ _,vI _ _,vB _]) ty.kd29 Z ?_
       refine lst (z5a Tryz.func41 (open_e _ _ x e sm es) (⟨stays.box rfl,trivial⟩) rfl rfl) Z<|lN<|gB<|gT ?_
       have hw:openR x e=workR x e:=wk2 (by simpa using h5)
       refine⟨(),trivial,trivial,⟨(congrArg (fun r:WR=>wBox gw r.b.tick r.b.next r.b.wallet r.c) hw),(congrArg (fun r:WR=>AO.arr 40 7 (rowsOf encChan r.b.chans)) hw),(congrArg (fun r:WR=>hAr r.b.htlcs) hw),(congrArg (fun r:WR=>iAr r.b.circles) hw),(congrArg (fun r:WR=>lAr r.l) hw),trivial⟩,rfl,rfl⟩
      ·intro h5
       refine sL<|lbB Z<|laB Z<|nG ?_
       refine AW.cond rfl ?_ ?_
       ·intro h6
        refine aL<|lmP Z<|loX (.agg [vI _ _,vI _ _,vI _ _,vI _ _,vI _ _,vI _ _,vB _]) ty.kd29 Z ?_
        refine lst (z5a Tryz.func42 (shut_e _ _ x e fi es fn0) (⟨stays.box rfl,trivial⟩) rfl rfl) Z<|lT [2,4,5,6,7] [0,1,2,3,4,2002,2003,2004,2005] ?_
        refine lN<|gB<|gT ?_
        have hw:shutR x e=workR x e:=wk3 (by simpa using h6)
        refine⟨(),trivial,trivial,⟨(congrArg (fun r:WR=>wBox gw r.b.tick r.b.next r.b.wallet r.c) hw),(congrArg (fun r:WR=>AO.arr 40 7 (rowsOf encChan r.b.chans)) hw),(congrArg (fun r:WR=>hAr r.b.htlcs) hw),(congrArg (fun r:WR=>iAr r.b.circles) hw),(congrArg (fun r:WR=>lAr r.l) hw),trivial⟩,rfl,rfl⟩
       ·intro h6
        refine sL<|lbB Z<|laB Z<|nG ?_
        refine AW.cond rfl ?_ ?_
        ·intro h7
         refine sL<|lmP Z<|lf 2 ty.F29_2 Z<|loI ty.kd3 Z ?_
         rcases chan_find x.chans e.ch with⟨hi,ho⟩|⟨i,c,hi,hc,ho,hid⟩
         ·skip
          refine lst (zC [(0,0),(1,1),(2,2),(3,3),(4,4),(2017,2017)] [2,3,4,2017] [0,1] Tryz.func43 (ch_none _ _ x _ _ _ hm hi) (⟨stays.box rfl,stays.arr rfl,trivial⟩) rfl rfl) Z<|laP Z<|nG ?_
          refine AW.unpin 1 rfl ?_
          refine aG 11 [2017]<|tq 0 (rmP Z)<|tq 1 (rmP Z)<|tq 2 (rf 4 ty.F29_4 Z)<|tq 3 (roI ty.kd3 Z)<|tq 4 (rf 5 ty.F29_5 Z)<|tq 5 (roI ty.kd3 Z)<|yq 6 (rc Z)<|yq 7 (rf 4 ty.F40_4 Z)<|yst 8 Z (zB 2017 ty.co3 ty.inf3 Z)<|gX [2,4,5,6,7,73,77] [0,1,2,3,4,2002,2003,2004,2005,2017] ?_
          refine yq 9 (rc Z)<|yq 10 (rf 5 ty.F40_5 Z)<|yl Z (zB 2017 ty.co3 ty.inf3 Z)<|gB<|gT ?_
          have hw:priR x e=workR x e:=wk4 (by simpa using h7)
          rw[priR_no hi]at hw
          refine⟨(),trivial,trivial,⟨(congrArg (fun r:WR=>wBox gw r.b.tick r.b.next r.b.wallet r.c) hw),(congrArg (fun r:WR=>AO.arr 40 7 (rowsOf encChan r.b.chans)) hw),(congrArg (fun r:WR=>hAr r.b.htlcs) hw),(congrArg (fun r:WR=>iAr r.b.circles) hw),(congrArg (fun r:WR=>lAr r.l) hw),trivial⟩,rfl,rfl⟩
         ·have hcm:=sm.chans c (mem_of_get hc)
          refine lst (z5b Tryz.func43 (ch_some _ _ x _ _ _ hm _ _ hi hc) (⟨stays.box rfl,stays.arr rfl,trivial⟩) rfl rfl) Z<|laP Z<|nG ?_
          refine AW.unpin 1 rfl ?_
          refine aG 11 [1]<|tq 0 (rmP Z)<|tq 1 (rmP Z)<|tq 2 (rf 4 ty.F29_4 Z)<|tq 3 (roI ty.kd3 Z)<|tq 4 (rf 5 ty.F29_5 Z)<|tq 5 (roI ty.kd3 Z)<|yq 6 (rc Z)<|yq 7 (rf 4 ty.F40_4 Z)<|yst 8 Z (zQ 1 [.v (.int .i64 e.amt)] ty.co3 ty.inf3 Z (rows_some hc))<|gX [2,4,5,6,7,73,77] [0,1,2,3,4,2002,2003,2004,2005] ?_
          refine yq 9 (rc rfl)<|yq 10 (rf 5 ty.F40_5 rfl)<|yl rfl (zQ 1 [.v (.int .i64 e.fee)] ty.co3 ty.inf3 rfl (row_set_self (by rw[length_rowsOf];exact(List.getElem?_eq_some_iff.1 hc).1)))<|gB<|gT ?_
          have hw:priR x e=workR x e:=wk4 (by simpa using h7)
          rw[priR_yes hi]at hw
          refine⟨(),trivial,trivial,⟨(congrArg (fun r:WR=>wBox gw r.b.tick r.b.next r.b.wallet r.c) hw),(Eq.trans (Eq.trans (b:=AO.arr 40 7 (((rowsOf encChan x.chans).set i ((encChan { c with base:=e.amt }).map PV.v)).set i ((encChan { c with base:=e.amt,ppm:=e.fee }).map PV.v))) rfl (congrArg (AO.arr 40 7) (by rw[List.set_set];exact rows_set.trans (congrArg (rowsOf encChan) (by rw[set_upd fi.ids hc (fun c=>{ c with base:=e.amt,ppm:=e.fee }),hid]))))) (congrArg (fun r:WR=>AO.arr 40 7 (rowsOf encChan r.b.chans)) hw)),(congrArg (fun r:WR=>hAr r.b.htlcs) hw),(congrArg (fun r:WR=>iAr r.b.circles) hw),(congrArg (fun r:WR=>lAr r.l) hw),trivial⟩,rfl,rfl⟩
        ·intro h7
         refine sL<|lbB Z<|laB Z<|nG ?_
         refine AW.cond rfl ?_ ?_
         ·intro h8
          refine aL<|lmP Z<|loX (.agg [vI _ _,vI _ _,vI _ _,vI _ _,vI _ _,vI _ _,vB _]) ty.kd29 Z ?_
          refine lst (z5a Tryz.func44 (admit_e _ _ x e fi es (ev_ne hev (.inl (by simpa using h8)))) (⟨stays.box rfl,trivial⟩) rfl rfl) Z<|lN<|gB<|gT ?_
          have hw:admR x e=workR x e:=wk5 (by simpa using h8)
          refine⟨(),trivial,trivial,⟨(congrArg (fun r:WR=>wBox gw r.b.tick r.b.next r.b.wallet r.c) hw),(congrArg (fun r:WR=>AO.arr 40 7 (rowsOf encChan r.b.chans)) hw),(congrArg (fun r:WR=>hAr r.b.htlcs) hw),(congrArg (fun r:WR=>iAr r.b.circles) hw),(congrArg (fun r:WR=>lAr r.l) hw),trivial⟩,rfl,rfl⟩
         ·intro h8
          refine aS<|sL<|lbB Z<|laB Z<|nG ?_
          refine AW.cond rfl ?_ ?_
          ·intro h9
           refine asB 87 true Z h9<|aK<|gT<|aY Z<|aL<|lmP Z<|loX (.agg [vI _ _,vI _ _,vI _ _,vI _ _,vI _ _,vI _ _,vB _]) ty.kd29 Z ?_
           refine lst (z5a Tryz.func45 (settle_e _ _ x e fi es (amts_of hbk).1) (⟨stays.box rfl,trivial⟩) rfl rfl) Z<|lN<|gB<|gT ?_
           have hw:setR x e=workR x e:=wk6 (.inl (by simpa using h9))
           refine⟨(),trivial,trivial,⟨(congrArg (fun r:WR=>wBox gw r.b.tick r.b.next r.b.wallet r.c) hw),(congrArg (fun r:WR=>AO.arr 40 7 (rowsOf encChan r.b.chans)) hw),(congrArg (fun r:WR=>hAr r.b.htlcs) hw),(congrArg (fun r:WR=>iAr r.b.circles) hw),(congrArg (fun r:WR=>lAr r.l) hw),trivial⟩,rfl,rfl⟩
          ·intro h9
           refine asB 87 false Z h9<|aL<|lbB Z<|laB Z<|nG ?_
           refine AW.cond rfl ?_ ?_
           ·intro h10
            refine aL<|lmP Z<|loX (.agg [vI _ _,vI _ _,vI _ _,vI _ _,vI _ _,vI _ _,vB _]) ty.kd29 Z ?_
            refine lst (z5a Tryz.func45 (settle_e _ _ x e fi es (amts_of hbk).1) (⟨stays.box rfl,trivial⟩) rfl rfl) Z<|lT [2,4,5,6,7] [0,1,2,3,4,2002,2003,2004,2005] ?_
            refine lN<|gB<|gT ?_
            have hw:setR x e=workR x e:=wk6 (.inr (by simpa using h10))
            refine⟨(),trivial,trivial,⟨(congrArg (fun r:WR=>wBox gw r.b.tick r.b.next r.b.wallet r.c) hw),(congrArg (fun r:WR=>AO.arr 40 7 (rowsOf encChan r.b.chans)) hw),(congrArg (fun r:WR=>hAr r.b.htlcs) hw),(congrArg (fun r:WR=>iAr r.b.circles) hw),(congrArg (fun r:WR=>lAr r.l) hw),trivial⟩,rfl,rfl⟩
           ·intro h10
            refine sL<|lbB Z<|laB Z<|nG ?_
            refine AW.cond rfl ?_ ?_
            ·intro h11
             refine aL<|lmP Z ?_
             refine lst (z5a Tryz.func46 (tick_e _ _ x sm) (⟨stays.box rfl,trivial⟩) rfl rfl) Z<|lN<|gB<|gT ?_
             have hw:tickR x=workR x e:=wk8 (by simpa using h11)
             refine⟨(),trivial,trivial,⟨(congrArg (fun r:WR=>wBox gw r.b.tick r.b.next r.b.wallet r.c) hw),(congrArg (fun r:WR=>AO.arr 40 7 (rowsOf encChan r.b.chans)) hw),(congrArg (fun r:WR=>hAr r.b.htlcs) hw),(congrArg (fun r:WR=>iAr r.b.circles) hw),(congrArg (fun r:WR=>lAr r.l) hw),trivial⟩,rfl,rfl⟩
            ·intro h11
             refine sL<|lbB Z<|laB Z<|nG ?_
             refine AW.cond rfl ?_ ?_
             ·intro h12
              refine aL<|lmP Z<|loX (.agg [vI _ _,vI _ _,vI _ _,vI _ _,vI _ _,vI _ _,vB _]) ty.kd29 Z ?_
              refine lst (z5a Tryz.func47 (launch_e _ _ x e fi es (ev_ne hev (.inr (by simpa using h12)))) (⟨stays.box rfl,trivial⟩) rfl rfl) Z<|lN<|gB<|gT ?_
              have hw:lauR x e=workR x e:=wk9 (by simpa using h12)
              refine⟨(),trivial,trivial,⟨(congrArg (fun r:WR=>wBox gw r.b.tick r.b.next r.b.wallet r.c) hw),(congrArg (fun r:WR=>AO.arr 40 7 (rowsOf encChan r.b.chans)) hw),(congrArg (fun r:WR=>hAr r.b.htlcs) hw),(congrArg (fun r:WR=>iAr r.b.circles) hw),(congrArg (fun r:WR=>lAr r.l) hw),trivial⟩,rfl,rfl⟩
             ·intro h12
              refine aL<|lmP Z<|loX (.agg [vI _ _,vI _ _,vI _ _,vI _ _,vI _ _,vI _ _,vB _]) ty.kd29 Z ?_
              refine lst (z5a Tryz.func48 (land_e _ _ x e fi es (circle_fits hbk)) (⟨stays.box rfl,trivial⟩) rfl rfl) Z<|lN<|gB<|gT ?_
              have hw:landR x e=workR x e:=wk10 (by have hek:=ev_kind hev;simp only[decide_eq_false_iff_not]at *;omega)
              refine⟨(),trivial,trivial,⟨(congrArg (fun r:WR=>wBox gw r.b.tick r.b.next r.b.wallet r.c) hw),(congrArg (fun r:WR=>AO.arr 40 7 (rowsOf encChan r.b.chans)) hw),(congrArg (fun r:WR=>hAr r.b.htlcs) hw),(congrArg (fun r:WR=>iAr r.b.circles) hw),(congrArg (fun r:WR=>lAr r.l) hw),trivial⟩,rfl,rfl⟩
    ·intro jd hJ
     refine aS<|aS ?_
     have hov:overB x e=false:=by simpa using h3
     have hcw:=applyC_work hbe hov
     have hnn:=over_next hov
     refine aL<|lmP Z<|lc Z<|lf 7 ty.F84_2 Z<|loI ty.kd3 Z<|lbB Z<|nG ?_
     refine AW.cond rfl ?_ ?_
     ·intro h13
      refine aS<|aG 8 [2004,2005]<|tq 0 (rd (x:=.agg [vI _ _,vI _ _,vI _ _,vV _,vV _,vV _]) (rd_build Z ty.sa27 Z Z Z) Z)<|tq 1 (rd (x:=.agg [vI _ _,vV _]) (rd_build Z ty.sa34 Z Z Z) Z)<|tq 2 (rmP Z)<|tq 3 (rc Z)<|tq 4 (rf 7 ty.F84_2 Z)<|tq 5 (roI ty.kd3 Z)<|yst 6 Z (zB 2004 ty.co27 ty.inf27 Z)<|yst 7 Z (zB 2005 ty.co34 ty.inf34 Z)<|yq 8 (raI Z)<|gD<|gT<|aR<|rT ?_
      refine end_xret (.tup [zBookV,zPostV,int (workR x e).c]) [] ?_ rfl trivial
      exact .inl ⟨by rw[hcw];simpa using h13,by rw[hcw],rfl⟩
     ·intro h13
      refine aK<|gA<|lst (zA 2009 ty.ze34 Z) Z<|lT [2,4,5,6,7,9] [0,1,2,3,4,2002,2003,2004,2005,2009] ?_
      refine nG<|aS<|sL<|lmP Z<|lc Z<|lf 6 ty.F84_1 Z<|loO ty.kd32 Z<|lnI ty.sl32 Z<|lbB Z<|nG ?_
      refine AW.cond rfl ?_ ?_
      ·intro h14
       refine aS<|aG 7 []<|tq 0 (rf 1 ty.F27_1 Z)<|tq 1 (roI ty.kd3 Z)<|yq 2 (rmP Z)<|yq 3 (rc Z)<|yq 4 (rf 6 ty.F84_1 Z)<|yq 5 (roO ty.kd32 Z)<|yq 6 (rd (x:=.agg [vI _ _,.own _]) (rd_build Z ty.sa34 Z Z Z) Z)<|yl Z (zB 2009 ty.co34 ty.inf34 Z)<|gT<|aL<|lmP Z<|lc Z<|lf 0 ty.F84_0 Z<|lf 1 ty.F27_1 Z<|loI ty.kd3 Z ?_
       refine lhI rfl ⟨rfl,fits_i64 (by rw[workR_next];unfold i64;omega)⟩<|lc Z<|lf 0 ty.F84_0 Z<|lf 1 ty.F27_1 Z<|lst (zB 0 ty.co3 ty.inf3 rfl) Z<|lT [4,5,6,7,9] [0,1,2,3,4,2002,2003,2004,2005,2009] ?_
       refine nG<|aS<|aG 7 [2004,2005]<|tq 0 (rmP Z)<|tq 1 (rc Z)<|tq 2 (rf 0 ty.F84_0 Z)<|tq 3 (roX (.agg [vI _ _,vI _ _,vI _ _,.own _,.own _,.own _]) ty.kd27 Z)<|tq 4 (roX (.agg [vI _ _,.own _]) ty.kd34 Z)<|yst 5 Z (zB 2004 ty.co27 ty.inf27 Z)<|yst 6 Z (zB 2005 ty.co34 ty.inf34 Z)<|yq 7 (raI Z)<|gD<|gT<|aR ?_
       refine end_xret (.tup [ownB (workR x e).b.tick ((workR x e).b.next+1) (workR x e).b.wallet,.agg [int x.next,.own 4],int 0]) (ob4 (workR x e).b (workR x e).l) ?_ rfl ⟨rfl,rfl,rfl,rfl,trivial⟩
       exact .inr (.inr ⟨(by rw[hcw];simpa using h13),(by intro q;have h:=h14;rw[q]at h;cases h),rfl,rfl⟩)
      ·intro h14
       refine aK<|gT<|aS<|aG 7 [2004,2005]<|tq 0 (rmP Z)<|tq 1 (rc Z)<|tq 2 (rf 0 ty.F84_0 Z)<|tq 3 (roX (.agg [vI _ _,vI _ _,vI _ _,.own _,.own _,.own _]) ty.kd27 Z)<|tq 4 (roX (.agg [vI _ _,vV _]) ty.kd34 Z)<|yst 5 Z (zB 2004 ty.co27 ty.inf27 Z)<|gX [4,5,6,139] [0,1,2,3,4,2002,2003,2004,2005,2009] ?_
       refine yst 6 Z (zB 2005 ty.co34 ty.inf34 Z)<|yq 7 (raI Z)<|gD<|gT<|aR ?_
       have hl0:(workR x e).l=[]:=List.length_eq_zero_iff.1 (by have h:=h14;simp only[length_rowsOf,decide_eq_false_iff_not]at h;omega)
       refine end_xret (.tup [ownB (workR x e).b.tick (workR x e).b.next (workR x e).b.wallet,zPostV,int 0]) (ob3 (workR x e).b) ?_ rfl ⟨rfl,rfl,rfl,trivial⟩
       exact .inr (.inl ⟨(by rw[hcw];simpa using h13),hl0,rfl,rfl⟩)

def notLess(x y:Line):Bool:=!lessA y.acc x.acc
theorem insL_no{x:Line}:∀ {l:List Line},l.any (notLess x)=false→insL l x=l++[x]
 |[],_=>rfl
 |y::l,h=>by
  rw[List.any_cons,Bool.or_eq_false_iff]at h
  unfold insL
  have:lessA y.acc x.acc=true:=by have:=h.1;unfold notLess at this;simpa using this
  rw[if_pos this,insL_no h.2];rfl
theorem insL_snoc{x y:Line}:∀ {l:List Line},l.any (notLess x)=true→insL (l++[y]) x=insL l x++[y]
 |[],h=>by simp at h
 |z::l,h=>by
  rw[List.any_cons,Bool.or_eq_true]at h
  rw[List.cons_append]
  unfold insL
  by_cases q:lessA z.acc x.acc=true
  ·rw[if_pos q,if_pos q]
   have:l.any (notLess x)=true:=by
    rcases h with h|h
    ·unfold notLess at h;simp[q]at h
    ·exact h
   rw[insL_snoc this];rfl
  ·rw[if_neg q,if_neg q];rfl
theorem insL_here{x y:Line}:∀ {l:List Line},l.any (notLess x)=false→notLess x y=true→insL (l++[y]) x=l++[x,y]
 |[],_,h=>by
  unfold notLess at h
  simp only[Bool.not_eq_true']at h
  simp[insL,h]
 |z::l,h,h2=>by
  rw[List.any_cons,Bool.or_eq_false_iff]at h
  rw[List.cons_append]
  unfold insL
  have:lessA z.acc x.acc=true:=by have:=h.1;unfold notLess at this;simpa using this
  rw[if_pos this,insL_here h.2 h2];rfl
def putL(x:Line)(l:List Line):List Line:=if l.any (notLess x)then insL l x else l
theorem any_take{α:Type}{p:α→Bool}{l:List α}{k:Nat}(hk:k<l.length):(l.take (k+1)).any p=((l.take k).any p||p l[k]):=by rw[List.take_succ_eq_append_getElem hk,List.any_append];simp
theorem putL_old{x:Line}{l:List Line}{k:Nat}(hk:k<l.length)(h:(l.take k).any (notLess x)=true):putL x (l.take (k+1))=putL x (l.take k)++[l[k]]:=by
 unfold putL
 rw[any_take hk,h,Bool.true_or,if_pos rfl,if_pos rfl,List.take_succ_eq_append_getElem hk,insL_snoc h]
theorem putL_new{x:Line}{l:List Line}{k:Nat}(hk:k<l.length)(h:(l.take k).any (notLess x)=false)(h2:notLess x l[k]=true):putL x (l.take (k+1))=(putL x (l.take k)++[x])++[l[k]]:=by
 unfold putL
 rw[any_take hk,h,h2,Bool.false_or,if_pos rfl,if_neg (by simp),List.take_succ_eq_append_getElem hk,insL_here h h2]
 simp
theorem putL_not{x:Line}{l:List Line}{k:Nat}(hk:k<l.length)(h:(l.take k).any (notLess x)=false)(h2:notLess x l[k]=false):putL x (l.take (k+1))=putL x (l.take k)++[l[k]]:=by
 unfold putL
 rw[any_take hk,h,h2,Bool.false_or,if_neg (by simp),if_neg (by simp),List.take_succ_eq_append_getElem hk]
theorem putL_all{x:Line}{l:List Line}(h:l.any (notLess x)=true):putL x l=insL l x:=if_pos h
theorem putL_none{x:Line}{l:List Line}(h:l.any (notLess x)=false):putL x l++[x]=insL l x:=by unfold putL;rw[insL_no h,if_neg (by simp[h])]
theorem putL_len{x:Line}(l:List Line):(putL x l).length≤l.length+1:=by unfold putL;split<;>simp[insL_length]
abbrev sBox(g:Value)(t n w c:Int):AO:=.box 91 (some g) [int t,int n,int w,.own 1,.own 2,.own 3,.own 4,int c]
abbrev sIn(g:Value)(x:Book)(l:List Line)(c:Int):List (Nat×AO):=[(0,sBox g x.tick x.next x.wallet c),(1,.arr 40 7 (rowsOf encChan x.chans)),(2,hAr x.htlcs),(3,iAr x.circles),(4,lAr l)]
abbrev sOut(g:Value)(r:WR):List (Nat×AO):=sIn g r.b r.l r.c
def keyL(x:Book):List Int:=x.htlcs.map (fun h=>h.key)++x.circles.map (fun h=>h.key)
def encKey(n:Int):List Value:=[.int .i64 n]
theorem atI_any{α:Type}{p:α→Bool}{l:List α}:decide (0≤atI p l)=l.any p:=by
 rcases atI_cases p l with h|⟨k,hk,h,h2⟩
 ·have e:l.any p=false:=by
   rcases q:l.any p with _|_
   ·rfl
   ·obtain⟨c,hc,hp⟩:=List.any_eq_true.1 q
    unfold atI at h
    cases hf:l.findIdx? p with
    |none=>exact absurd (List.findIdx?_eq_none_iff.1 hf c hc) (by simp[hp])
    |some i=>rw[hf]at h;simp at h
  rw[h,e];rfl
 ·rw[h,any_yes hk h2];simp
theorem any_keys(x:Book)(key:Int):(keyL x).any (fun k=>k==key)=knownB x key:=by
 unfold keyL knownB htlcAt circleAt
 rw[List.any_append,atI_any,atI_any,List.any_map,List.any_map]
 rfl
theorem sless_e(a b:Acc):GC Tryz.prog 135 [.agg [int a.kind,int a.ch],.agg [int b.kind,int b.ch]] [] (boo (lessA a b)) []:=by
 refine gi 4 Tryz.func135 rfl Tryz.ntmps135 rfl ?_
 intro L O w0
 refine sL<|lst (zX 2002 Z) Z<|lst (zX 2003 Z) Z<|laZ Z<|nA<|lf 0 ty.F110_0 Z<|loI ty.kd3 Z<|lf 0 ty.F110_0 Z<|loI ty.kd3 Z<|lbB Z<|lmB Z ?_
 refine AL.bool (t:=10) rfl ?_ ?_
 ·intro h1
  refine lno Z<|lno Z<|lno Z<|lno Z<|lno Z<|lno Z<|lno Z<|lno Z<|lno Z<|lno Z<|lno Z<|lno Z<|lkT Z<|laT Z<|nG<|aR ?_
  refine eBo trivial ?_
  unfold lessA
  first|(simp_all;done)|(simp_all;intros;omega)
 ·intro h1
  refine lf 0 ty.F110_0 Z<|loI ty.kd3 Z<|lf 0 ty.F110_0 Z<|loI ty.kd3 Z<|lbB Z<|lmB Z ?_
  refine AL.bool (t:=16) rfl ?_ ?_
  ·intro h2
   refine lf 1 ty.F110_1 Z<|loI ty.kd3 Z<|lf 1 ty.F110_1 Z<|loI ty.kd3 Z<|lbB Z<|lkB Z<|lkB Z<|laB Z<|nG<|aR ?_
   refine eBo trivial ?_
   unfold lessA
   first|(simp_all;done)|(simp_all;intros;omega)
  ·intro h2
   refine lno Z<|lno Z<|lno Z<|lno Z<|lno Z<|lkZ Z<|lkZ Z<|laZ Z<|nG<|aR ?_
   refine eBo trivial ?_
   unfold lessA
   first|(simp_all;done)|(simp_all;intros;omega)
theorem sadd_e(l:List Line)(x:Line)(m:Nat)(hl:LG l m)(hm:m≤1000)(hf:Fresh l x.acc.kind x.acc.ch):GC Tryz.prog 107 [.p (.lst 120 3 (rowsOf encLine l)),.agg [int x.acc.kind,int x.acc.ch,int x.amt]] [] (.own 2009) [(2009,lAr (insL l x))]:=by
 have hlen:=hl.len
 refine gi 4 Tryz.func107 rfl Tryz.ntmps107 rfl ?_
 intro L O w0
 refine sL<|lst (zX 2003 rfl) Z<|laV Z<|nA<|lst (zS 2009 [] ty.el32 ty.ze120 rfl (by simp)) Z<|laO Z<|nA<|laZ Z<|nG<|aS<|sL<|lmL Z<|lnI ty.sl32 Z<|lmI Z<|nG<|aB ?_
 refine aW [3,4,5,10,11] [2003] (D:=Nat) (fun k=>[(6,boo ((l.take k).any (notLess x))),(12,int (k:Int))]) (fun k=>[(2009,lAr (putL x (l.take k)))]) (fun k=>k≤l.length) (fun k=>l.length-k) (0) (Nat.zero_le _) ⟨rfl,rfl,trivial⟩ ⟨rfl,trivial⟩ ?_
 intro k hI
 refine sL<|lbB Z<|nG<|aS ?_
 refine AW.cond rfl ?_ ?_
 ·intro h1
  refine aK<|gT<|aS<|aB<|sL ?_
  have hk:k<l.length:=by simpa[length_rowsOf]using h1
  refine li k ty.el32 Z (row_map hk)<|lrX (.agg [vI _ _,vI _ _,vI _ _]) ty.kd120 Z<|lst (zA 2008 ty.ze120 Z) Z<|lst (zB 2008 ty.co120 ty.inf120 Z) Z<|nG<|aS<|sL<|lmB Z<|luB Z<|lmB Z ?_
  refine AL.bool (t:=18) rfl ?_ ?_
  ·intro h2
   refine lf 0 ty.F120_0 Z<|loX (.agg [vI _ _,vI _ _]) ty.kd110 Z<|lf 0 ty.F120_0 Z<|loX (.agg [vI _ _,vI _ _]) ty.kd110 Z<|lst (zL Tryz.func135 (sless_e _ _) Z) Z<|lT [3,4,5,6,8,10,11,12,18,23] [2003,2008,2009] ?_
   refine luB Z<|lkB Z<|nG ?_
   refine AW.cond rfl ?_ ?_
   ·intro h3
    refine aS<|sL<|lf 0 ty.F120_0 Z<|loX (.agg [vI _ _,vI _ _]) ty.kd110 Z<|lf 0 ty.F120_0 Z<|loX (.agg [vI _ _,vI _ _]) ty.kd110 Z<|lq (rd (x:=vB _) (rd_eqS rfl (.inr rfl) rfl rfl ty.sf110 ty.su110 ty.sh110 ty.sg110 ?hn1) rfl) ?_
    case hn1=>exact⟨rfl,by decide,rfl,⟨_,Tryz.underlying3⟩,rfl,by decide,rfl,⟨_,Tryz.underlying3⟩,trivial⟩
    refine lsB 30 true rfl (by show (!eqVals _ _)=true;have:=hf l[k] (List.getElem_mem hk);simp[eqVals];first|(intro q1 q2;exact this ⟨q1,q2⟩)|omega)<|nG<|aY Z<|aL<|lmO Z<|loX (.agg [vI _ _,vI _ _,vI _ _]) ty.kd120 Z<|lst (zS 2033 (rowsOf encLine [x]) ty.el32 ty.ze120 rfl) Z<|lst (zP 2009 ty.el32 ty.ze120 ty.by120 rfl (Src.own rfl rfl) (by have:=putL_len (x:=x) (l.take k);have:=hl.len;simp[rowsOf]at *;omega)) Z<|laO Z<|nA<|laT Z<|nA<|lf 0 ty.F120_0 Z<|loX (.agg [vI _ _,vI _ _]) ty.kd110 Z<|lf 0 ty.F120_0 Z<|loX (.agg [vI _ _,vI _ _]) ty.kd110 Z<|lq (rd (x:=vB _) (rd_eqS rfl (.inl rfl) rfl rfl ty.sf110 ty.su110 ty.sh110 ty.sg110 ?hn2) rfl) ?_
    case hn2=>exact⟨rfl,by decide,rfl,⟨_,Tryz.underlying3⟩,rfl,by decide,rfl,⟨_,Tryz.underlying3⟩,trivial⟩
    refine lsB 56 false rfl (by show eqVals _ _=false;have:=hf l[k] (List.getElem_mem hk);simp[eqVals];first|(intro q1 q2;exact this ⟨q1,q2⟩)|omega)<|nG<|aN Z<|aK<|gT<|aL<|lmO Z<|loX (.agg [vI _ _,vI _ _,vI _ _]) ty.kd120 Z<|lst (zS 2059 (rowsOf encLine [l[k]]) ty.el32 ty.ze120 rfl) Z<|lT [3,4,5,6,10,11,12,57,59] [2003,2008,2009,2033,2059] ?_
    refine lst (zP 2009 ty.el32 ty.ze120 ty.by120 rfl (Src.own rfl rfl) (by have:=putL_len (x:=x) (l.take k);have:=hl.len;simp[rowsOf]at *;omega)) Z<|laO Z<|lN<|gB<|gT<|aL<|lgI Z<|lmI Z<|nG ?_
    have ha:(l.take k).any (notLess x)=false:=by simpa using h2
    have hb:notLess x l[k]=true:=by unfold notLess;simpa using h3
    refine⟨k+1,hk,by omega,⟨(Eq.trans (b:=boo true) rfl (congrArg boo (by rw[any_take hk,hb,Bool.or_true]))),(iq rfl),trivial⟩,⟨(Eq.trans (b:=lAr ((putL x (l.take k)++[x])++[l[k]])) (congrArg (AO.arr 120 3) (by rw[rowsOf_app,rowsOf_app]<;>rfl)) (congrArg lAr (putL_new hk ha hb).symm)),trivial⟩,rfl,rfl⟩
   ·intro h3
    refine aK<|gT<|aL<|lmO Z<|loX (.agg [vI _ _,vI _ _,vI _ _]) ty.kd120 Z<|lst (zS 2059 (rowsOf encLine [l[k]]) ty.el32 ty.ze120 rfl) Z<|lst (zP 2009 ty.el32 ty.ze120 ty.by120 rfl (Src.own rfl rfl) (by have:=putL_len (x:=x) (l.take k);have:=hl.len;simp[rowsOf]at *;omega)) Z<|laO Z<|lN<|gB<|gT<|aL<|lgI Z<|lmI Z<|nG ?_
    have ha:(l.take k).any (notLess x)=false:=by simpa using h2
    have hb:notLess x l[k]=false:=by unfold notLess;simpa using h3
    refine⟨k+1,hk,by omega,⟨(Eq.trans (b:=boo ((l.take k).any (notLess x))) rfl (congrArg boo (by rw[any_take hk,hb,Bool.or_false]))),(iq rfl),trivial⟩,⟨(Eq.trans (b:=lAr (putL x (l.take k)++[l[k]])) (congrArg (AO.arr 120 3) (rowsOf_app encLine _ [_]).symm) (congrArg lAr (putL_not hk ha hb).symm)),trivial⟩,rfl,rfl⟩
  ·intro h2
   refine lno Z<|lno Z<|lno Z<|lno Z<|lno Z<|lno Z<|lkZ Z<|nG<|aN Z<|aK<|gT<|aL<|lmO Z<|loX (.agg [vI _ _,vI _ _,vI _ _]) ty.kd120 Z<|lst (zS 2059 (rowsOf encLine [l[k]]) ty.el32 ty.ze120 Z) Z<|lT [3,4,5,6,10,11,12,57,59] [2003,2008,2009,2059] ?_
   refine lst (zP 2009 ty.el32 ty.ze120 ty.by120 rfl (Src.own rfl rfl) (by have:=putL_len (x:=x) (l.take k);have:=hl.len;simp[rowsOf]at *;omega)) Z<|laO Z<|lN<|gB<|gT<|aL<|lgI Z<|lmI Z<|nG ?_
   have ha:(l.take k).any (notLess x)=true:=by simpa using h2
   refine⟨k+1,hk,by omega,⟨(Eq.trans (b:=boo ((l.take k).any (notLess x))) rfl (congrArg boo (by rw[any_take hk,ha,Bool.true_or]))),(iq rfl),trivial⟩,⟨(Eq.trans (b:=lAr (putL x (l.take k)++[l[k]])) (congrArg (AO.arr 120 3) (rowsOf_app encLine _ [_]).symm) (congrArg lAr (putL_old hk ha).symm)),trivial⟩,rfl,rfl⟩
 ·intro h1
  refine aE<|eT<|eT<|eB<|gT<|aS<|sL<|lmB Z<|luB Z<|nG ?_
  refine AW.cond rfl ?_ ?_
  ·intro h4
   refine aL<|lmO Z<|loX (.agg [vI _ _,vI _ _,vI _ _]) ty.kd120 Z<|lst (zS 2066 (rowsOf encLine [x]) ty.el32 ty.ze120 rfl) Z<|lst (zP 2009 ty.el32 ty.ze120 ty.by120 rfl (Src.own rfl rfl) (by have:=putL_len (x:=x) (l.take k);have:=hl.len;simp[rowsOf]at *;omega)) Z<|laO Z<|nA<|lmO Z<|laO Z<|nG<|aR ?_
   have hke:k=l.length:=by have h:=h1;simp only[length_rowsOf,decide_eq_false_iff_not]at h;omega
   subst hke
   refine end_ret ?_ ⟨(Eq.trans (b:=lAr (putL x (l.take l.length)++[x])) (congrArg (AO.arr 120 3) (rowsOf_app encLine _ [_]).symm) (congrArg lAr (by rw[List.take_length];exact putL_none (by have h:=h4;rw[List.take_length]at h;simpa using h)))),trivial⟩
   rfl
  ·intro h4
   refine aK<|gA<|lmO Z<|laO Z<|nG<|aR ?_
   have hke:k=l.length:=by have h:=h1;simp only[length_rowsOf,decide_eq_false_iff_not]at h;omega
   subst hke
   refine end_ret ?_ ⟨(congrArg lAr (by rw[List.take_length];exact putL_all (by have h:=h4;rw[List.take_length]at h;simpa using h))),trivial⟩
   rfl
theorem scode_e(g:Value)(t n w c:Int)(p1:Pin)(s1:Nat)(r1:List (List PV))(p2:Pin)(s2:Nat)(r2:List (List PV))(p3:Pin)(s3:Nat)(r3:List (List PV))(p4:Pin)(s4:Nat)(r4:List (List PV))(is:Bool)(k:Int):GC Tryz.prog 51 [.ptr 0 0 0,boo is,int k] [(0,sBox g t n w c),(1,.arr p1 s1 r1),(2,.arr p2 s2 r2),(3,.arr p3 s3 r3),(4,.arr p4 s4 r4)] (boo (!decide (failC is c k=0))) [(0,sBox g t n w (failC is c k)),(1,.arr p1 s1 r1),(2,.arr p2 s2 r2),(3,.arr p3 s3 r3),(4,.arr p4 s4 r4)]:=by
 refine gi 6 Tryz.func51 rfl Tryz.ntmps51 rfl ?_
 intro L O w0
 refine sL<|laZ Z<|nG<|aS<|sL<|lmB Z<|lmB Z ?_
 refine AL.bool (t:=8) rfl ?_ ?_
 ·intro h1
  refine lmP Z<|lc Z<|lf 7 ty.F91_2 Z<|loI ty.kd3 Z<|lbB Z<|lkB Z<|nG ?_
  refine AW.cond rfl ?_ ?_
  ·intro h2
   refine aL<|lmP Z<|lmI Z<|lc Z<|lf 7 ty.F91_2 Z<|lst (zB 0 ty.co3 ty.inf3 Z) Z<|lT [0,6] [0,1,2,3,4] ?_
   refine nA<|lmP Z<|lc Z<|lf 7 ty.F91_2 Z<|loI ty.kd3 Z<|lbB Z<|laB Z<|nG<|aR ?_
   refine eBo ⟨Eq.trans (b:=sBox g t n w _) rfl (congrArg (sBox g t n w) (by unfold failC;simp_all)),rfl,rfl,rfl,rfl,trivial⟩ ?_
   refine congrArg (fun n:Int=>!decide (n=0)) ?_
   unfold failC
   simp_all
  ·intro h2
   refine aK<|gA<|lmP Z<|lc Z<|lf 7 ty.F91_2 Z<|loI ty.kd3 Z<|lbB Z<|laB Z<|nG<|aR ?_
   refine eBo ⟨Eq.trans (b:=sBox g t n w _) rfl (congrArg (sBox g t n w) (by unfold failC;simp_all)),rfl,rfl,rfl,rfl,trivial⟩ ?_
   refine congrArg (fun n:Int=>!decide (n=0)) ?_
   unfold failC
   simp_all
 ·intro h1
  refine lno Z<|lno Z<|lno Z<|lno Z<|lno Z<|lkZ Z<|nG<|aN Z<|aK<|gA<|lmP Z<|lc Z<|lf 7 ty.F91_2 Z<|loI ty.kd3 Z<|lbB Z<|laB Z<|nG<|aR ?_
  refine eBo ⟨Eq.trans (b:=sBox g t n w _) rfl (congrArg (sBox g t n w) (by unfold failC;simp_all)),rfl,rfl,rfl,rfl,trivial⟩ ?_
  refine congrArg (fun n:Int=>!decide (n=0)) ?_
  unfold failC
  simp_all
theorem sline_e(g:Value)(t n w c:Int)(p1:Pin)(s1:Nat)(r1:List (List PV))(p2:Pin)(s2:Nat)(r2:List (List PV))(p3:Pin)(s3:Nat)(r3:List (List PV))(l:List Line)(m:Nat)(hl:LG l m)(hm:m≤1000)(k cc nn:Int)(hf:Fresh l k cc)(hn:rangeA nn=true):GC Tryz.prog 53 [.ptr 0 0 0,int k,int cc,int nn] [(0,sBox g t n w c),(1,.arr p1 s1 r1),(2,.arr p2 s2 r2),(3,.arr p3 s3 r3),(4,lAr l)] (.tup []) [(0,sBox g t n w c),(1,.arr p1 s1 r1),(2,.arr p2 s2 r2),(3,.arr p3 s3 r3),(4,lAr (addL l k cc nn))]:=by
 refine GC.intro (rs:=[]) Tryz.func53 rfl Tryz.ntmps53 (Nat.le_of_ble_eq_true rfl) trivial ?_
 intro L O w0
 refine sL<|lmI Z<|lbB Z<|nG ?_
 refine AW.cond rfl ?_ ?_
 ·intro h1
  refine aL<|lmP Z<|lmP Z<|lc Z<|lf 6 ty.F91_1 Z<|loO ty.kd32 Z<|lmI Z<|lmI Z<|lq (rd (x:=.agg [vI _ _,vI _ _]) (rd_build Z ty.sa110 Z Z Z) Z)<|lmI Z<|lq (rd (x:=.agg [vI _ _,vI _ _,vI _ _]) (rd_build Z ty.sa120 Z Z Z) Z) ?_
  refine AL.freeze 4 rfl ?_
  refine lst (zC [(2009,4)] [4] [] Tryz.func107 (sadd_e l ⟨⟨k,cc⟩,nn⟩ m hl hm hf) (trivial) rfl rfl) Z<|lc Z<|lf 6 ty.F91_1 Z<|lst (zB 0 ty.co32 ty.inf32 rfl) Z<|lT [] [0,1,2,3,4] ?_
  refine lN ?_
  refine end_go ?_ ⟨rfl,rfl,rfl,rfl,(congrArg lAr (addL_pos (by simpa using h1)).symm),trivial⟩
  rfl
 ·intro h1
  refine aK ?_
  refine end_go ?_ ⟨rfl,rfl,rfl,rfl,(congrArg lAr (addL_zero (by simpa using h1)).symm),trivial⟩
  rfl
theorem scopy_e(x:Book)(hx:x.chans.length≤1000000∧x.htlcs.length≤1000000∧x.circles.length≤1000000):GC Tryz.prog 50 [bookV x] [] (.agg [int x.tick,int x.next,int x.wallet,.own 2003,.own 2008,.own 2013]) [(2003,.arr 40 7 (rowsOf encChan x.chans)),(2008,hAr x.htlcs),(2013,iAr x.circles)]:=by
 refine GC.intro (rs:=[.cell 2 27 (some 6)]) Tryz.func50 rfl Tryz.ntmps50 (Nat.le_of_ble_eq_true rfl) ⟨rfl,rfl,ty.kd27,trivial⟩ ?_
 intro L O w0
 refine sL<|lst (zX 2001 rfl) Z<|lst (zA 2002 ty.ze27 rfl) Z<|nA<|lst (zS 2003 [] ty.el23 ty.ze40 rfl (by simp)) Z<|lf 3 ty.F27_3 Z<|loL ty.kd23 Z<|lst (zP 2003 ty.el23 ty.ze40 ty.by40 rfl (Src.p rfl)) Z<|lf 3 ty.F27_3 Z<|lst (zB 2001 ty.co23 ty.inf23 rfl) Z<|nA<|lst (zS 2008 [] ty.el24 ty.ze68 rfl (by simp)) Z<|lf 4 ty.F27_4 Z<|loL ty.kd24 Z<|lst (zP 2008 ty.el24 ty.ze68 ty.by68 rfl (Src.p rfl)) Z<|lf 4 ty.F27_4 Z<|lst (zB 2001 ty.co24 ty.inf24 rfl) Z<|lT [1,2] [2001,2002,2003,2008] ?_
 refine nA<|lst (zS 2013 [] ty.el25 ty.ze78 rfl (by simp)) Z<|lf 5 ty.F27_5 Z<|loL ty.kd25 Z<|lst (zP 2013 ty.el25 ty.ze78 ty.by78 rfl (Src.p rfl)) Z<|lf 5 ty.F27_5 Z<|lst (zB 2001 ty.co25 ty.inf25 rfl) Z<|nA<|loX (.agg [vI _ _,vI _ _,vI _ _,.own _,.own _,.own _]) ty.kd27 Z<|lst (zB 2002 ty.co27 ty.inf27 rfl) Z<|nG<|aR ?_
 refine end_ret ?_ ⟨rfl,rfl,rfl,trivial⟩
 rfl
theorem smove_e(g:Value)(x:Book)(l:List Line)(cd ch a b:Int)(hm:x.chans.length≤1000000000)(i:Nat)(c:Chan)(hi:chanAt x.chans ch=(i:Int))(hc:x.chans[i]? = some c)(hfa:i64 (c.loc+a))(hfb:i64 (c.remote+b)):GC Tryz.prog 114 [.ptr 0 0 0,int ch,int a,int b] (sIn g x l cd) (.tup []) (sIn g { x with chans:=x.chans.set i { c with loc:=c.loc+a,remote:=c.remote+b } } l cd):=by
 refine GC.intro (rs:=[]) Tryz.func114 rfl Tryz.ntmps114 (Nat.le_of_ble_eq_true rfl) trivial ?_
 intro L O w0
 refine sL<|lmP Z<|lc Z<|lf 0 ty.F91_0 Z<|loX (.agg [vI _ _,vI _ _,vI _ _,.own _,.own _,.own _]) ty.kd27 Z<|lmI Z<|lst (zL Tryz.func55 (sAt_e x _ hm) rfl) Z<|laI Z<|nA<|lmP Z<|lc Z<|lf 0 ty.F91_0 Z<|lf 3 ty.F27_3 Z<|loO ty.kd23 Z<|lmI Z<|lq (rd (x:=.ptr 1 _ 0) (rd_iaddr_own (i:=i) rfl ty.el23 rfl rfl rfl ?hn1 (by rw[length_rowsOf];exact(List.getElem?_eq_some_iff.1 hc).1)) rfl) ?_
 case hn1=>rw[←chanAt_atI];exact hi
 refine lq (rd (x:=.agg [vI _ _,vI _ _,vI _ _,vI _ _,vI _ _,vI _ _,vI _ _]) (rd_load_arr Z ty.kd40 Z Z Z (rows_some hc) Z) Z)<|lst (zA 2009 ty.ze40 Z) Z<|lT [0,2,3,8,9,23] [0,1,2,3,4,2009] ?_
 refine lst (zB 2009 ty.co40 ty.inf40 Z) Z<|nA<|lf 2 ty.F40_2 Z<|loI ty.kd3 Z<|lmI Z ?_
 refine lhI rfl ⟨rfl,fits_i64 hfa⟩<|lf 2 ty.F40_2 Z<|lst (zB 2009 ty.co3 ty.inf3 rfl) Z<|nA<|lf 3 ty.F40_3 Z<|loI ty.kd3 Z<|lmI rfl ?_
 refine lhI rfl ⟨rfl,fits_i64 hfb⟩<|lf 3 ty.F40_3 Z<|lst (zB 2009 ty.co3 ty.inf3 rfl) Z<|nG<|aG 8 []<|tq 0 (rmP rfl)<|tq 1 (rc rfl)<|tq 2 (rf 0 ty.F91_0 rfl)<|tq 3 (rf 3 ty.F27_3 rfl)<|tq 4 (roO ty.kd23 rfl)<|tq 5 (rmI rfl)<|yq 6 (roX (.agg [vI _ _,vI _ _,vI _ _,vI _ _,vI _ _,vI _ _,vI _ _]) ty.kd40 rfl)<|yq 7 (rd (x:=.ptr 1 _ 0) (rd_iaddr_own (i:=i) rfl ty.el23 rfl rfl rfl ?hn2 (by rw[length_rowsOf];exact(List.getElem?_eq_some_iff.1 hc).1)) rfl) ?_
 case hn2=>rw[←chanAt_atI];exact hi
 refine yl rfl (zQ 1 ((encChan { c with loc:=c.loc+a,remote:=c.remote+b }).map PV.v) ty.co40 ty.inf40 rfl (rows_some hc)) ?_
 refine end_go ?_ ⟨rfl,Eq.trans (b:=AO.arr 40 7 ((rowsOf encChan x.chans).set i ((encChan { c with loc:=c.loc+a,remote:=c.remote+b }).map PV.v))) rfl (congrArg (AO.arr 40 7) rows_set),rfl,rfl,rfl,trivial⟩
 rfl
theorem skeys_e(x:Book)(hmh:x.htlcs.length≤1000)(hmc:x.circles.length≤1000):GC Tryz.prog 110 [bookV x] [] (.own 2008) [(2008,.arr 3 1 (rowsOf encKey (keyL x)))]:=by
 refine gi 2 Tryz.func110 rfl Tryz.ntmps110 rfl ?_
 intro L O w0
 refine sL<|lst (zX 2001 rfl) Z<|laV Z<|nA<|lst (zS 2008 [] ty.el50 ty.ze3 rfl (by simp)) Z<|laO Z<|nG<|aS<|sL<|lf 4 ty.F27_4 Z<|loL ty.kd24 Z<|lnI ty.sl24 Z<|lmI Z<|nG<|aB ?_
 refine aW [1,2,3,10,11] [2001] (D:=Nat) (fun k=>[(12,int (k:Int))]) (fun k=>[(2008,AO.arr 3 1 (rowsOf encKey ((x.htlcs.take k).map fun h=>h.key)))]) (fun k=>k≤x.htlcs.length) (fun k=>x.htlcs.length-k) (0) (Nat.zero_le _) ⟨rfl,trivial⟩ ⟨rfl,trivial⟩ ?_
 intro k hI
 refine sL<|lbB Z<|nG<|aS ?_
 refine AW.cond rfl ?_ ?_
 ·intro h1
  refine aK<|gT<|aS<|aB<|sL ?_
  have hk:k<x.htlcs.length:=by simpa[length_rowsOf]using h1
  refine li k ty.el24 Z (row_map hk)<|lrX (.agg [vI _ _,vI _ _,vI _ _,vI _ _,vI _ _,vB _,vI _ _]) ty.kd68 Z<|lst (zA 2005 ty.ze68 Z) Z<|lst (zB 2005 ty.co68 ty.inf68 Z) Z<|nG<|aL<|lmO Z<|lf 0 ty.F68_0 Z<|loI ty.kd3 Z<|lst (zS 2019 (rowsOf encKey [x.htlcs[k].key]) ty.el50 ty.ze3 Z) Z<|lT [1,2,3,10,11,12,16,19] [2001,2005,2008,2019] ?_
  refine lst (zP 2008 ty.el50 ty.ze3 ty.by3 rfl (Src.own rfl rfl) (by simp[rowsOf,List.length_take]at *;omega)) Z<|laO Z<|lN<|gB<|gT<|aL<|lgI Z<|lmI Z<|nG ?_
  refine⟨k+1,hk,by omega,⟨(iq rfl),trivial⟩,⟨(congrArg (AO.arr 3 1) ((rowsOf_app encKey _ [x.htlcs[k].key]).symm.trans (congrArg (rowsOf encKey) (by rw[List.take_succ_eq_append_getElem hk,List.map_append];simp)))),trivial⟩,rfl,rfl⟩
 ·intro h1
  refine aE<|eT<|eT<|eB<|gT<|aS<|sL<|lf 5 ty.F27_5 Z<|loL ty.kd25 Z<|lnI ty.sl25 Z<|lmI Z<|nG<|aB ?_
  have hke:k=x.htlcs.length:=by have h:=h1;simp only[length_rowsOf,decide_eq_false_iff_not]at h;omega
  refine aW [2,3,23,24] [2001] (D:=Nat) (fun j=>[(25,int (j:Int))]) (fun j=>[(2008,AO.arr 3 1 (rowsOf encKey (x.htlcs.map (fun h=>h.key)++(x.circles.take j).map fun h=>h.key)))]) (fun j=>j≤x.circles.length) (fun j=>x.circles.length-j) (0) (Nat.zero_le _) ⟨rfl,trivial⟩ ⟨(congrArg (fun l=>AO.arr 3 1 (rowsOf encKey l)) (by rw[hke,List.take_length];simp)),trivial⟩ ?_
  intro j hI
  refine sL<|lbB Z<|nG<|aS ?_
  refine AW.cond rfl ?_ ?_
  ·intro h2
   refine aK<|gT<|aS<|aB<|sL ?_
   have hj:j<x.circles.length:=by simpa[length_rowsOf]using h2
   refine li j ty.el25 Z (row_map hj)<|lrX (.agg [vI _ _,vI _ _,vI _ _,vI _ _,vI _ _]) ty.kd78 Z<|lst (zA 2007 ty.ze78 Z) Z<|lst (zB 2007 ty.co78 ty.inf78 Z) Z<|nG<|aL<|lmO Z<|lf 0 ty.F78_0 Z<|loI ty.kd3 Z<|lst (zS 2032 (rowsOf encKey [x.circles[j].key]) ty.el50 ty.ze3 Z) Z<|lT [2,3,23,24,25,29,32] [2001,2007,2008,2032] ?_
   refine lst (zP 2008 ty.el50 ty.ze3 ty.by3 rfl (Src.own rfl rfl) (by simp[rowsOf,List.length_take]at *;omega)) Z<|laO Z<|lN<|gB<|gT<|aL<|lgI Z<|lmI Z<|nG ?_
   refine⟨j+1,hj,by omega,⟨(iq rfl),trivial⟩,⟨(congrArg (AO.arr 3 1) ((rowsOf_app encKey _ [x.circles[j].key]).symm.trans (congrArg (rowsOf encKey) (by rw[List.take_succ_eq_append_getElem hj,List.map_append];simp)))),trivial⟩,rfl,rfl⟩
  ·intro h2
   refine aE<|eT<|eT<|eB<|gA<|lmO Z<|laO Z<|nG<|aR ?_
   refine end_ret ?_ ⟨(congrArg (fun l=>AO.arr 3 1 (rowsOf encKey l)) (by have h:=h2;simp only[length_rowsOf,decide_eq_false_iff_not]at h;rw[show j=x.circles.length by omega,List.take_length];rfl)),trivial⟩
   rfl
theorem shasInt_e(l:List Int)(n:Int)(hm:l.length≤1000000000):GC Tryz.prog 109 [.p (.lst 3 1 (rowsOf encKey l)),int n] [] (boo (l.any fun k=>k==n)) []:=by
 refine gi 4 Tryz.func109 rfl Tryz.ntmps109 rfl ?_
 intro L O w0
 refine sL<|laZ Z<|nG<|aS<|sL<|lmL Z<|lnI ty.sl50 Z<|lmI Z<|nG<|aB ?_
 refine aW [1,4,7,8] [] (D:=Nat) (fun k=>[(9,int (k:Int))]) (fun k=>[]) (fun k=>k≤l.length∧∀j (h:j<l.length),j<k→(l[j]==n)=false) (fun k=>l.length-k) (0) (⟨Nat.zero_le _,fun j _ h=>absurd h (by omega)⟩) ⟨rfl,trivial⟩ trivial ?_
 intro k hI
 obtain⟨hkl,hall⟩:=hI
 refine sL<|lbB Z<|nG<|aS ?_
 refine AW.cond rfl ?_ ?_
 ·intro h1
  refine aK<|gT<|aS<|aB<|sL ?_
  have hk:k<l.length:=by simpa[length_rowsOf]using h1
  refine li k ty.el50 Z (row_map hk)<|lrI ty.kd3 Z<|laI Z<|nA<|lmI Z<|lmI Z<|lbB Z<|nG ?_
  refine AW.cond rfl ?_ ?_
  ·intro h2
   refine sL<|laT Z<|nG<|aR<|rB<|rT<|rT<|rB<|rT ?_
   refine eBo trivial ?_
   exact(any_yes (p:=fun k=>k==n) hk (by simpa using h2)).symm
  ·intro h2
   refine aK<|gB<|gT<|aL<|lgI Z<|lmI Z<|nG ?_
   refine⟨k+1,⟨hk,all_succ (p:=fun k=>k==n) hk hall (by simpa using h2)⟩,by omega,⟨(iq rfl),trivial⟩,trivial,rfl,rfl⟩
 ·intro h1
  refine aE<|eT<|eT<|eB<|gA<|laZ Z<|nG<|aR ?_
  refine eBo trivial ?_
  exact(any_no (p:=fun k=>k==n) fun j hj=>hall j hj (by have h:=h1;simp only[length_rowsOf,decide_eq_false_iff_not]at h;omega)).symm

theorem insL_swap{a b:Line}(h:¬(a.acc.kind=b.acc.kind∧a.acc.ch=b.acc.ch)):∀(l:List Line),insL (insL l a) b=insL (insL l b) a:=by
 have tot:lessA a.acc b.acc=!lessA b.acc a.acc:=by
  unfold lessA
  refine Bool.eq_iff_iff.2 ?_
  simp only[Bool.or_eq_true,Bool.and_eq_true,decide_eq_true_eq,beq_iff_eq,Bool.not_eq_true',Bool.or_eq_false_iff,Bool.and_eq_false_iff,decide_eq_false_iff_not,beq_eq_false_iff_ne]
  omega
 have tr:∀x y z:Acc,lessA x y=true→lessA x z=false→lessA z y=true:=fun x y z=>by
  unfold lessA
  simp only[Bool.or_eq_true,Bool.and_eq_true,decide_eq_true_eq,beq_iff_eq,Bool.or_eq_false_iff,Bool.and_eq_false_iff,decide_eq_false_iff_not,beq_eq_false_iff_ne]
  omega
 intro l
 induction l with
 |nil=>
  rcases q:lessA b.acc a.acc with _|_
  ·simp[insL,q,tot]
  ·simp[insL,q,tot]
 |cons c l ih=>
  rcases qa:lessA c.acc a.acc with _|_<;>rcases qb:lessA c.acc b.acc with _|_
  ·rcases q:lessA b.acc a.acc with _|_
   ·simp[insL,qa,qb,q,tot]
   ·simp[insL,qa,qb,q,tot]
  ·have h1:=tr _ _ _ qb qa
   have h2:lessA b.acc a.acc=false:=by rw[tot]at h1;simpa using h1
   simp[insL,qa,qb,h1,h2]
  ·have h1:=tr _ _ _ qa qb
   have h2:lessA a.acc b.acc=false:=by rw[tot,h1];rfl
   simp[insL,qa,qb,h1,h2]
  ·simp[insL,qa,qb,ih]
theorem addL_swap{l:List Line}{k c n k' c' n':Int}(h:¬(k=k'∧c=c')):addL (addL l k c n) k' c' n'=addL (addL l k' c' n') k c n:=by
 unfold addL
 repeat' split
 all_goals first|rfl|exact insL_swap h l
def insG{α:Type}(p:α→Bool)(l:List α)(x:α):List α:=l.take (l.findIdx p)++[x]++l.drop (l.findIdx p)
theorem find_none{α:Type}{p:α→Bool}{l:List α}(h:l.any p=false):l.findIdx p=l.length:=List.findIdx_eq_length.2 fun x hx=>by simpa using List.any_eq_false.1 h x hx
theorem find_some{α:Type}{p:α→Bool}{l:List α}(h:l.any p=true):l.findIdx p<l.length:=by
 obtain⟨x,hx,hp⟩:=List.any_eq_true.1 h
 exact List.findIdx_lt_length_of_exists ⟨x,hx,hp⟩
theorem insG_no{α:Type}{p:α→Bool}{l:List α}{x:α}(h:l.any p=false):insG p l x=l++[x]:=by
 unfold insG
 rw[find_none h,List.take_length,List.drop_length,List.append_nil]
theorem insG_snoc{α:Type}{p:α→Bool}{l:List α}{x y:α}(h:l.any p=true):insG p (l++[y]) x=insG p l x++[y]:=by
 have q:=find_some h
 unfold insG
 rw[List.findIdx_append,if_pos q,List.take_append_of_le_length (Nat.le_of_lt q),List.drop_append_of_le_length (Nat.le_of_lt q)]
 simp
theorem insG_here{α:Type}{p:α→Bool}{l:List α}{x y:α}(h:l.any p=false)(h2:p y=true):insG p (l++[y]) x=l++[x,y]:=by
 have q:=find_none h
 unfold insG
 rw[List.findIdx_append,if_neg (by omega)]
 have:List.findIdx p [y]=0:=by simp[List.findIdx_cons,h2]
 rw[this,Nat.zero_add]
 simp
def putG{α:Type}(p:α→Bool)(x:α)(l:List α):List α:=if l.any p then insG p l x else l
theorem putG_old{α:Type}{p:α→Bool}{x:α}{l:List α}{k:Nat}(hk:k<l.length)(h:(l.take k).any p=true):putG p x (l.take (k+1))=putG p x (l.take k)++[l[k]]:=by
 unfold putG
 rw[any_take hk,h,Bool.true_or,if_pos rfl,if_pos rfl,List.take_succ_eq_append_getElem hk,insG_snoc h]
theorem putG_new{α:Type}{p:α→Bool}{x:α}{l:List α}{k:Nat}(hk:k<l.length)(h:(l.take k).any p=false)(h2:p l[k]=true):putG p x (l.take (k+1))=(putG p x (l.take k)++[x])++[l[k]]:=by
 unfold putG
 rw[any_take hk,h,h2,Bool.false_or,if_pos rfl,if_neg (by simp),List.take_succ_eq_append_getElem hk,insG_here h h2]
 simp
theorem putG_not{α:Type}{p:α→Bool}{x:α}{l:List α}{k:Nat}(hk:k<l.length)(h:(l.take k).any p=false)(h2:p l[k]=false):putG p x (l.take (k+1))=putG p x (l.take k)++[l[k]]:=by
 unfold putG
 rw[any_take hk,h,h2,Bool.false_or,if_neg (by simp),if_neg (by simp),List.take_succ_eq_append_getElem hk]
theorem putG_all{α:Type}{p:α→Bool}{x:α}{l:List α}(h:l.any p=true):putG p x l=insG p l x:=if_pos h
theorem putG_none{α:Type}{p:α→Bool}{x:α}{l:List α}(h:l.any p=false):putG p x l++[x]=insG p l x:=by unfold putG;rw[insG_no h,if_neg (by simp[h])]
theorem putG_len{α:Type}{p:α→Bool}{x:α}(l:List α):(putG p x l).length≤l.length+1:=by
 unfold putG insG
 split
 ·simp;omega
 ·omega
theorem no_chan{l:List Chan}{ch:Int}(h:chanAt l ch=-1):∀c∈l,c.id≠ch:=fun c hc e=>by
 unfold chanAt at h
 cases hf:l.findIdx? (fun c=>c.id==ch)with
 |none=>exact absurd (List.findIdx?_eq_none_iff.1 hf c hc) (by simp[e])
 |some i=>rw[hf]at h;simp at h
def pastC(ch:Int)(d:Chan):Bool:=!decide (d.id<ch)
abbrev newC(e:Event):Chan:=⟨e.ch,e.amt+e.fee,e.amt,e.fee,0,0,0⟩
theorem opC_no{x:Book}{e:Event}(h:openC x e=0):chanAt x.chans e.ch=-1:=by
 rcases chan_find x.chans e.ch with⟨q,_⟩|⟨i,c,q,_⟩
 ·exact q
 ·exfalso
  unfold openC at h
  rw[show decide (0≤chanAt x.chans e.ch)=true by rw[q];simp]at h
  exact failC_keep (failC_set (by decide)) h
theorem sopen_e(g:Value)(x:Book)(e:Event)(sm:BookSm x)(es:EvSm e)(hsum:addOk e.amt e.fee=true):GC Tryz.prog 54 [.ptr 0 0 0,evV e] (sIn g x [] 0) (.tup []) (sOut g (openR x e)):=by
 have hm:x.chans.length≤1000000000:=by have:=sm.lc;omega
 have hmh:x.htlcs.length≤1000000000:=by have:=sm.lh;omega
 have hmc:x.circles.length≤1000000000:=by have:=sm.li;omega
 have hlc:=sm.lc
 have hL:decide ((x.chans.length:Int)=20)=decide ((20:Int)≤(x.chans.length:Int)):=by have:=sm.lc;apply decide_eq_decide.2;omega

 refine GC.intro (rs:=[]) Tryz.func54 rfl Tryz.ntmps54 (Nat.le_of_ble_eq_true rfl) trivial ?_
 intro L O w0
 refine sL<|lst (zX 2003 Z) Z<|nA<|lf 4 ty.F29_4 Z<|loI ty.kd3 Z<|lf 5 ty.F29_5 Z<|loI ty.kd3 Z<|lst (zL Tryz.func52 (saddAmt_e _ _) Z) Z<|lmX (.tup [vI _ _,vB _]) Z<|lxI Z<|lsN 17 (e.amt+e.fee) Z (addV_yes hsum)<|lxB Z<|lsB 18 true Z hsum<|laI Z<|laT Z<|nG<|aS<|aS<|aF [3,23,35]<|pq 0 (qmP Z)<|vq 1 (rmT Z)<|vq 2 (ruZ Z) ?_
 refine vst 3 rfl (z5a Tryz.func51 (scode_e _ _ _ _ _ _ _ _ _ _ _ _ _ _ _ _ _ _ _ ) (⟨stays.box (Eq.refl 8),trivial⟩) rfl rfl) (.inl rfl) ?_
 have f0:failC false 0 2=0:=rfl
 refine fsB 22 false rfl (by simp[failC])<|fT [0,3,4,22] [0,1,2,3,4,2003] ?_
 refine vq 4 (rmZ Z)<|pq 5 (qmP Z)<|pq 6 (qmP Z)<|pq 7 (qc Z)<|pq 8 (qf 0 ty.F91_0 Z)<|sq 9 (roX (.agg [vI _ _,vI _ _,vI _ _,.own _,.own _,.own _]) ty.kd27 Z)<|vq 10 (rf 2 ty.F29_2 Z)<|vq 11 (roI ty.kd3 Z)<|vst 12 Z (zL Tryz.func55 (sAt_e x _ hm) Z) (.inr Z)<|vq 13 (rbB Z)<|vq 14 (rmB Z) ?_
 refine AF.bool (t:=33) rfl ?_ ?_
 ·intro h1
  refine vno 15 Z<|vno 16 Z<|vno 17 Z<|vno 18 Z<|vno 19 Z<|vno 20 Z<|vno 21 Z<|vq 22 (rkT rfl)<|fsB 41 (decide (0≤chanAt x.chans e.ch)||decide ((20:Int)≤(x.chans.length:Int))) rfl (by rw[show decide (0≤chanAt x.chans e.ch)=true from h1];simp) ?_
  refine vst 23 rfl (z5a Tryz.func51 (scode_e _ _ _ _ _ _ _ _ _ _ _ _ _ _ _ _ _ _ _ ) (⟨stays.box (Eq.refl 8),trivial⟩) rfl rfl) (.inl rfl)<|vq 24 (rkB rfl)<|vq 25 (rmB rfl) ?_
  refine AF.bool (t:=44) rfl ?_ ?_
  ·intro h2
   refine pno 26 Z<|pno 27 Z<|pno 28 Z<|pno 29 Z<|pno 30 Z<|pno 31 Z<|vno 32 Z<|vno 33 Z<|vno 34 Z<|vno 35 Z<|vq 36 (rkT Z)<|fD<|gT<|aY Z<|aR<|rT ?_
   have hc0:openC x e≠0:=by
    have h:=h2
    unfold openC
    simp only[f0,Bool.not_eq_true',decide_eq_false_iff_not]at h
    rw[failC_old h];exact h
   rw[openR_no hc0]
   refine end_ret ?_ ⟨(Eq.trans (b:=sBox g x.tick x.next x.wallet _) rfl (congrArg (sBox g x.tick x.next x.wallet) (by have h:=h2;unfold openC;(simp only[f0,Bool.not_eq_true',decide_eq_false_iff_not]at h ⊢)<;>rw[failC_old h]))),rfl,rfl,rfl,rfl,trivial⟩
   rfl
  ·intro h2
   refine pq 26 (qmP Z)<|pq 27 (qmP Z)<|pq 28 (qc Z)<|pq 29 (qf 0 ty.F91_0 Z)<|pq 30 (qf 2 ty.F27_2 Z)<|sq 31 (roI ty.kd3 Z)<|vq 32 (rf 4 ty.F29_4 Z)<|vq 33 (roI ty.kd3 Z)<|vq 34 (rbB Z) ?_
   refine vst 35 rfl (z5a Tryz.func51 (scode_e _ _ _ _ _ _ _ _ _ _ _ _ _ _ _ _ _ _ _ ) (⟨stays.box (Eq.refl 8),trivial⟩) rfl rfl) (.inl rfl)<|fT [0,3,4,44,54] [0,1,2,3,4,2003] ?_
   refine vq 36 (rkB Z)<|fD<|gT ?_
   refine AW.cond rfl ?_ ?_
   ·intro h3
    refine aR<|rT ?_
    have hc0:openC x e≠0:=by
     have h:=h3
     unfold openC
     simp only[f0,Bool.not_eq_true',decide_eq_false_iff_not]at h
     exact h
    rw[openR_no hc0]
    refine end_ret ?_ ⟨(Eq.trans (b:=sBox g x.tick x.next x.wallet _) rfl (congrArg (sBox g x.tick x.next x.wallet) (by have h:=h3;unfold openC;(simp only[f0,Bool.not_eq_true',decide_eq_false_iff_not]at h ⊢)<;>rfl))),rfl,rfl,rfl,rfl,trivial⟩
    rfl
   ·intro h3
    refine aK<|gT<|aS ?_
    have hc0:openC x e=0:=by
     have h:=h3
     unfold openC
     simp only[f0,Bool.not_eq_false',decide_eq_true_eq]at h
     exact h
    have hno:=no_chan (opC_no hc0)
    refine aL<|lst (zS 2056 [] ty.el23 ty.ze40 rfl (by simp)) Z<|laO Z<|nA<|laZ Z<|nA<|lf 2 ty.F29_2 Z<|loI ty.kd3 Z<|lmI Z<|lf 4 ty.F29_4 Z<|loI ty.kd3 Z<|lf 5 ty.F29_5 Z<|loI ty.kd3 Z<|lq (rd (x:=.agg [vI _ _,vI _ _,vI _ _,vI _ _,vI _ _,vI _ _,vI _ _]) (rd_build rfl ty.sa40 rfl rfl rfl) rfl)<|lst (zA 2008 ty.ze40 rfl) Z<|lst (zB 2008 ty.co40 ty.inf40 rfl) Z<|lT [0,3,6,7,8] [0,1,2,3,4,2003,2008,2056] ?_
    refine nG<|aS<|sL<|lmP Z<|lc Z<|lf 0 ty.F91_0 Z<|lf 3 ty.F27_3 Z<|loO ty.kd23 Z<|lnI ty.sl23 Z<|lmI Z<|nG<|aB ?_
    refine aW [0,3,6,8,69,70] [0,1,2,3,4,2003,2008] (D:=Nat) (fun k=>[(7,boo ((x.chans.take k).any (pastC e.ch))),(71,int (k:Int))]) (fun k=>[(2056,AO.arr 40 7 (rowsOf encChan (putG (pastC e.ch) (newC e) (x.chans.take k))))]) (fun k=>k≤x.chans.length) (fun k=>x.chans.length-k) (0) (Nat.zero_le _) ⟨rfl,rfl,trivial⟩ ⟨rfl,trivial⟩ ?_
    intro k hI
    refine sL<|lbB Z<|nG<|aS ?_
    refine AW.cond rfl ?_ ?_
    ·intro h4
     refine aK<|gT<|aS<|aB<|sL ?_
     have hk:k<x.chans.length:=by simpa[length_rowsOf]using h4
     have hidk:=hno x.chans[k] (List.getElem_mem hk)
     refine lq (rj k ty.el23 rfl (by rw[length_rowsOf];exact hk))<|lq (rd (x:=.agg [vI _ _,vI _ _,vI _ _,vI _ _,vI _ _,vI _ _,vI _ _]) (rd_load_arr rfl ty.kd40 rfl rfl rfl (row_map hk) rfl) rfl)<|lst (zA 2010 ty.ze40 rfl) Z<|lst (zB 2010 ty.co40 ty.inf40 rfl) Z<|nG<|aS<|sL<|lmB Z<|luB Z<|lmB rfl ?_
     refine AL.bool (t:=77) rfl ?_ ?_
     ·intro h5
      refine lf 0 ty.F40_0 Z<|loI ty.kd3 Z<|lf 2 ty.F29_2 Z<|loI ty.kd3 Z<|lbB Z<|lkB Z<|nG ?_
      refine AW.cond rfl ?_ ?_
      ·intro h6
       refine sL<|lmO Z<|loX (.agg [vI _ _,vI _ _,vI _ _,vI _ _,vI _ _,vI _ _,vI _ _]) ty.kd40 Z<|lst (zS 2086 (rowsOf encChan [newC e]) ty.el23 ty.ze40 Z) Z<|lT [0,3,6,7,8,10,69,70,71,84,86] [0,1,2,3,4,2003,2008,2010,2056,2086] ?_
       refine lst (zP 2056 ty.el23 ty.ze40 ty.by40 rfl (Src.own rfl rfl) (by have:=putG_len (p:=(pastC e.ch)) (x:=newC e) (x.chans.take k);simp[rowsOf]at *;omega)) Z<|laO Z<|nG<|aL<|laT Z<|nG<|aL<|lmO Z<|loX (.agg [vI _ _,vI _ _,vI _ _,vI _ _,vI _ _,vI _ _,vI _ _]) ty.kd40 Z<|lst (zS 2090 (rowsOf encChan [x.chans[k]]) ty.el23 ty.ze40 rfl) Z<|lst (zP 2056 ty.el23 ty.ze40 ty.by40 rfl (Src.own rfl rfl) (by have:=putG_len (p:=(pastC e.ch)) (x:=newC e) (x.chans.take k);simp[rowsOf]at *;omega)) Z<|laO Z<|lN<|gB<|gT<|aL<|lgI Z<|lmI Z<|nG ?_
       have ha:(x.chans.take k).any (pastC e.ch)=false:=by simpa using h5
       have hb:(pastC e.ch) x.chans[k]=true:=by unfold pastC;have h:=h6;simp at h ⊢;omega
       refine⟨k+1,hk,by omega,⟨(Eq.trans (b:=boo (true)) rfl (congrArg boo (by rw[any_take hk,hb,Bool.or_true]))),(iq rfl),trivial⟩,⟨(Eq.trans (b:=AO.arr 40 7 (rowsOf encChan ((putG (pastC e.ch) (newC e) (x.chans.take k)++[newC e])++[x.chans[k]]))) (congrArg (AO.arr 40 7) (by rw[rowsOf_app,rowsOf_app]<;>rfl)) (congrArg (fun l=>AO.arr 40 7 (rowsOf encChan l)) (putG_new hk ha hb).symm)),trivial⟩,rfl,rfl⟩
      ·intro h6
       refine aK<|gT<|aL<|lmO Z<|loX (.agg [vI _ _,vI _ _,vI _ _,vI _ _,vI _ _,vI _ _,vI _ _]) ty.kd40 Z<|lst (zS 2090 (rowsOf encChan [x.chans[k]]) ty.el23 ty.ze40 rfl) Z<|lst (zP 2056 ty.el23 ty.ze40 ty.by40 rfl (Src.own rfl rfl) (by have:=putG_len (p:=(pastC e.ch)) (x:=newC e) (x.chans.take k);simp[rowsOf]at *;omega)) Z<|lT [0,3,7,8,69,70,71,91] [0,1,2,3,4,2003,2008,2010,2056,2090] ?_
       refine laO Z<|lN<|gB<|gT<|aL<|lgI Z<|lmI Z<|nG ?_
       have ha:(x.chans.take k).any (pastC e.ch)=false:=by simpa using h5
       have hb:(pastC e.ch) x.chans[k]=false:=by unfold pastC;have h:=h6;simp at h ⊢;omega
       refine⟨k+1,hk,by omega,⟨(Eq.trans (b:=boo ((x.chans.take k).any (pastC e.ch))) rfl (congrArg boo (by rw[any_take hk,hb,Bool.or_false]))),(iq rfl),trivial⟩,⟨(Eq.trans (b:=AO.arr 40 7 (rowsOf encChan (putG (pastC e.ch) (newC e) (x.chans.take k)++[x.chans[k]]))) (congrArg (AO.arr 40 7) (rowsOf_app encChan _ [_]).symm) (congrArg (fun l=>AO.arr 40 7 (rowsOf encChan l)) (putG_not hk ha hb).symm)),trivial⟩,rfl,rfl⟩
     ·intro h5
      refine lno Z<|lno Z<|lno Z<|lno Z<|lno Z<|lkZ Z<|nG<|aN Z<|aK<|gT<|aL<|lmO Z<|loX (.agg [vI _ _,vI _ _,vI _ _,vI _ _,vI _ _,vI _ _,vI _ _]) ty.kd40 Z<|lst (zS 2090 (rowsOf encChan [x.chans[k]]) ty.el23 ty.ze40 rfl) Z<|lst (zP 2056 ty.el23 ty.ze40 ty.by40 rfl (Src.own rfl rfl) (by have:=putG_len (p:=(pastC e.ch)) (x:=newC e) (x.chans.take k);simp[rowsOf]at *;omega)) Z<|laO Z<|lN<|gB<|gT<|aL<|lgI Z<|lmI Z<|nG ?_
      have ha:(x.chans.take k).any (pastC e.ch)=true:=by simpa using h5
      refine⟨k+1,hk,by omega,⟨(Eq.trans (b:=boo ((x.chans.take k).any (pastC e.ch))) rfl (congrArg boo (by rw[any_take hk,ha,Bool.true_or]))),(iq rfl),trivial⟩,⟨(Eq.trans (b:=AO.arr 40 7 (rowsOf encChan (putG (pastC e.ch) (newC e) (x.chans.take k)++[x.chans[k]]))) (congrArg (AO.arr 40 7) (rowsOf_app encChan _ [_]).symm) (congrArg (fun l=>AO.arr 40 7 (rowsOf encChan l)) (putG_old hk ha).symm)),trivial⟩,rfl,rfl⟩
    ·intro h4
     refine aE<|eT<|eT<|eB<|gT ?_
     refine aJ [0,3,6] [0,1,2,3,4,2003,2008] (D:=Unit) (fun jd=>[]) (fun jd=>[(2056,AO.arr 40 7 (rowsOf encChan (insC x.chans (newC e))))]) (fun jd=>True) ?_ ?_
     ·refine aS ?_
      have hke:k=x.chans.length:=by have h:=h4;simp only[length_rowsOf,decide_eq_false_iff_not]at h;omega
      have htk:x.chans.take k=x.chans:=by rw[hke,List.take_length]
      refine aL<|lmB Z<|luB Z<|nG ?_
      refine AW.cond rfl ?_ ?_
      ·intro h7
       refine aL<|lmO Z<|loX (.agg [vI _ _,vI _ _,vI _ _,vI _ _,vI _ _,vI _ _,vI _ _]) ty.kd40 Z<|lst (zS 2097 (rowsOf encChan [newC e]) ty.el23 ty.ze40 Z) Z<|lT [0,3,6,95,97] [0,1,2,3,4,2003,2008,2056,2097] ?_
       refine lst (zP 2056 ty.el23 ty.ze40 ty.by40 rfl (Src.own rfl rfl) (by have:=putG_len (p:=(pastC e.ch)) (x:=newC e) (x.chans.take k);simp[rowsOf]at *;omega)) Z<|laO Z<|nG ?_
       refine⟨(),trivial,trivial,⟨(Eq.trans (b:=AO.arr 40 7 (rowsOf encChan (putG (pastC e.ch) (newC e) (x.chans.take k)++[newC e]))) (congrArg (AO.arr 40 7) (rowsOf_app encChan _ [_]).symm) (congrArg (fun l=>AO.arr 40 7 (rowsOf encChan l)) (by have h:=h7;rw[htk]at h ⊢;exact putG_none (by simpa using h)))),trivial⟩,rfl,rfl⟩
      ·intro h7
       refine aK<|gT ?_
       refine⟨(),trivial,trivial,⟨(congrArg (fun l=>AO.arr 40 7 (rowsOf encChan l)) (by have h:=h7;rw[htk]at h ⊢;exact putG_all (by simpa using h))),trivial⟩,rfl,rfl⟩
     ·intro jd hJ
      refine sL<|lmP Z<|lmO Z<|lc Z<|lf 0 ty.F91_0 Z<|lf 3 ty.F27_3 Z<|lst (zB 0 ty.co23 ty.inf23 Z) Z<|nG<|aS ?_
      refine AW.swap 2056 1 ?_
      refine aT [0,3] [0,1,2,3,4,2003,2008] ?_
      refine aF [12]<|pq 0 (qmP Z)<|pq 1 (qmP Z)<|pq 2 (qc Z)<|pq 3 (qf 0 ty.F91_0 Z)<|pq 4 (qf 2 ty.F27_2 Z)<|sq 5 (roI ty.kd3 Z)<|vq 6 (rf 4 ty.F29_4 Z)<|vq 7 (roI ty.kd3 Z) ?_
      refine vq 8 (rhI rfl ⟨rfl,fits_i64 (by have:=es.amt;have:=es.fee;have:=sm.wallet;unfold A50 at *;unfold i64;omega)⟩)<|vq 9 (rc rfl)<|vq 10 (rf 0 ty.F91_0 rfl)<|vq 11 (rf 2 ty.F27_2 rfl)<|vst 12 rfl (zB 0 ty.co3 ty.inf3 rfl) (.inl rfl)<|fD<|gA<|lmP Z<|lf 4 ty.F29_4 Z<|loI ty.kd3 Z<|lq (rd (x:=vI _ _) (rd_un rfl rfl (fits_i64 (by have:=es.amt;have:=es.fee;have:=sm.wallet;unfold A50 at *;unfold i64;omega))) rfl) ?_
      refine lst (z5a Tryz.func53 (sline_e _ _ _ _ _ _ _ _ _ _ _ _ _ _ ([]) 0 (LG.nil) (by decide) _ _ _ (Fresh.nil _ _) (rangeA_neg es.amt)) (⟨stays.box (Eq.refl 8),trivial⟩) rfl rfl) Z<|lT [0,3] [0,1,2,3,4,2003,2008] ?_
      refine nG<|aL<|lmP Z<|lf 2 ty.F29_2 Z<|loI ty.kd3 Z<|lf 4 ty.F29_4 Z<|loI ty.kd3 Z ?_
      refine lst (z5a Tryz.func53 (sline_e _ _ _ _ _ _ _ _ _ _ _ _ _ _ (addL [] 1 0 (-e.amt)) 1 (LG.nil.add (rangeA_neg es.amt)) (by decide) _ _ _ ((Fresh.nil _ _).add (.inl (by decide))) (rangeA_of es.amt)) (⟨stays.box (Eq.refl 8),trivial⟩) rfl rfl) Z<|lN ?_
      rw[openR_yes hc0]
      refine end_go ?_ ⟨(Eq.trans (b:=sBox g x.tick x.next (x.wallet-e.amt) _) rfl (congrArg (sBox g x.tick x.next (x.wallet-e.amt)) (by first|exact hc0|(have h:=hc0;unfold openC at h;rw[f0];exact h)))),rfl,rfl,rfl,(congrArg lAr (addL_swap (by omega))),trivial⟩
      rfl
 ·intro h1
  refine vq 15 (rmP rfl)<|vq 16 (rc rfl)<|vq 17 (rf 0 ty.F91_0 rfl)<|vq 18 (rf 3 ty.F27_3 rfl)<|vq 19 (roO ty.kd23 rfl)<|vq 20 (rnI ty.sl23 rfl)<|vq 21 (rbB rfl)<|fsB 40 (decide ((20:Int)≤(x.chans.length:Int))) rfl (by rw[length_rowsOf];exact hL)<|vq 22 (rkB rfl)<|fsB 41 (decide (0≤chanAt x.chans e.ch)||decide ((20:Int)≤(x.chans.length:Int))) rfl (by rw[show decide (0≤chanAt x.chans e.ch)=false from h1];simp) ?_
  refine vst 23 rfl (z5a Tryz.func51 (scode_e _ _ _ _ _ _ _ _ _ _ _ _ _ _ _ _ _ _ _ ) (⟨stays.box (Eq.refl 8),trivial⟩) rfl rfl) (.inl rfl)<|fT [0,3,4,23,42] [0,1,2,3,4,2003] ?_
  refine vq 24 (rkB Z)<|vq 25 (rmB Z) ?_
  refine AF.bool (t:=44) rfl ?_ ?_
  ·intro h8
   refine pno 26 Z<|pno 27 Z<|pno 28 Z<|pno 29 Z<|pno 30 Z<|pno 31 Z<|vno 32 Z<|vno 33 Z<|vno 34 Z<|vno 35 Z<|vq 36 (rkT Z)<|fD<|gT<|aY Z<|aR<|rT ?_
   have hc0:openC x e≠0:=by
    have h:=h8
    unfold openC
    simp only[f0,Bool.not_eq_true',decide_eq_false_iff_not]at h
    rw[failC_old h];exact h
   rw[openR_no hc0]
   refine end_ret ?_ ⟨(Eq.trans (b:=sBox g x.tick x.next x.wallet _) rfl (congrArg (sBox g x.tick x.next x.wallet) (by have h:=h8;unfold openC;(simp only[f0,Bool.not_eq_true',decide_eq_false_iff_not]at h ⊢)<;>rw[failC_old h]))),rfl,rfl,rfl,rfl,trivial⟩
   rfl
  ·intro h8
   refine pq 26 (qmP Z)<|pq 27 (qmP Z)<|pq 28 (qc Z)<|pq 29 (qf 0 ty.F91_0 Z)<|pq 30 (qf 2 ty.F27_2 Z)<|sq 31 (roI ty.kd3 Z)<|vq 32 (rf 4 ty.F29_4 Z)<|vq 33 (roI ty.kd3 Z)<|vq 34 (rbB Z) ?_
   refine vst 35 rfl (z5a Tryz.func51 (scode_e _ _ _ _ _ _ _ _ _ _ _ _ _ _ _ _ _ _ _ ) (⟨stays.box (Eq.refl 8),trivial⟩) rfl rfl) (.inl rfl)<|vq 36 (rkB rfl)<|fD<|gT ?_
   refine AW.cond rfl ?_ ?_
   ·intro h9
    refine aR<|rT ?_
    have hc0:openC x e≠0:=by
     have h:=h9
     unfold openC
     simp only[f0,Bool.not_eq_true',decide_eq_false_iff_not]at h
     exact h
    rw[openR_no hc0]
    refine end_ret ?_ ⟨(Eq.trans (b:=sBox g x.tick x.next x.wallet _) rfl (congrArg (sBox g x.tick x.next x.wallet) (by have h:=h9;unfold openC;(simp only[f0,Bool.not_eq_true',decide_eq_false_iff_not]at h ⊢)<;>rfl))),rfl,rfl,rfl,rfl,trivial⟩
    rfl
   ·intro h9
    refine aK<|gT<|aS ?_
    have hc0:openC x e=0:=by
     have h:=h9
     unfold openC
     simp only[f0,Bool.not_eq_false',decide_eq_true_eq]at h
     exact h
    have hno:=no_chan (opC_no hc0)
    refine aL<|lst (zS 2056 [] ty.el23 ty.ze40 rfl (by simp)) Z<|lT [0,3,4,56] [0,1,2,3,4,2003,2056] ?_
    refine laO Z<|nA<|laZ Z<|nA<|lf 2 ty.F29_2 Z<|loI ty.kd3 Z<|lmI Z<|lf 4 ty.F29_4 Z<|loI ty.kd3 Z<|lf 5 ty.F29_5 Z<|loI ty.kd3 Z<|lq (rd (x:=.agg [vI _ _,vI _ _,vI _ _,vI _ _,vI _ _,vI _ _,vI _ _]) (rd_build Z ty.sa40 Z Z Z) Z)<|lst (zA 2008 ty.ze40 Z) Z<|lst (zB 2008 ty.co40 ty.inf40 Z) Z<|nG<|aS<|sL<|lmP Z<|lc Z<|lf 0 ty.F91_0 Z<|lf 3 ty.F27_3 Z<|loO ty.kd23 Z ?_
    refine lnI ty.sl23 Z<|lmI Z<|nG<|aB ?_
    refine aW [0,3,6,8,69,70] [0,1,2,3,4,2003,2008] (D:=Nat) (fun k=>[(7,boo ((x.chans.take k).any (pastC e.ch))),(71,int (k:Int))]) (fun k=>[(2056,AO.arr 40 7 (rowsOf encChan (putG (pastC e.ch) (newC e) (x.chans.take k))))]) (fun k=>k≤x.chans.length) (fun k=>x.chans.length-k) (0) (Nat.zero_le _) ⟨rfl,rfl,trivial⟩ ⟨rfl,trivial⟩ ?_
    intro k hI
    refine sL<|lbB Z<|nG<|aS ?_
    refine AW.cond rfl ?_ ?_
    ·intro h10
     refine aK<|gT<|aS<|aB<|sL ?_
     have hk:k<x.chans.length:=by simpa[length_rowsOf]using h10
     have hidk:=hno x.chans[k] (List.getElem_mem hk)
     refine lq (rj k ty.el23 rfl (by rw[length_rowsOf];exact hk))<|lq (rd (x:=.agg [vI _ _,vI _ _,vI _ _,vI _ _,vI _ _,vI _ _,vI _ _]) (rd_load_arr rfl ty.kd40 rfl rfl rfl (row_map hk) rfl) rfl)<|lst (zA 2010 ty.ze40 rfl) Z<|lT [0,3,6,7,8,10,69,70,71,74] [0,1,2,3,4,2003,2008,2010,2056] ?_
     refine lst (zB 2010 ty.co40 ty.inf40 Z) Z<|nG<|aS<|sL<|lmB Z<|luB Z<|lmB Z ?_
     refine AL.bool (t:=77) rfl ?_ ?_
     ·intro h11
      refine lf 0 ty.F40_0 Z<|loI ty.kd3 Z<|lf 2 ty.F29_2 Z<|loI ty.kd3 Z<|lbB Z<|lkB Z<|nG ?_
      refine AW.cond rfl ?_ ?_
      ·intro h12
       refine sL<|lmO Z<|loX (.agg [vI _ _,vI _ _,vI _ _,vI _ _,vI _ _,vI _ _,vI _ _]) ty.kd40 Z<|lst (zS 2086 (rowsOf encChan [newC e]) ty.el23 ty.ze40 rfl) Z<|lst (zP 2056 ty.el23 ty.ze40 ty.by40 rfl (Src.own rfl rfl) (by have:=putG_len (p:=(pastC e.ch)) (x:=newC e) (x.chans.take k);simp[rowsOf]at *;omega)) Z<|lT [0,3,7,8,10,69,70,71,87] [0,1,2,3,4,2003,2008,2010,2056,2086] ?_
       refine laO Z<|nG<|aL<|laT Z<|nG<|aL<|lmO Z<|loX (.agg [vI _ _,vI _ _,vI _ _,vI _ _,vI _ _,vI _ _,vI _ _]) ty.kd40 Z<|lst (zS 2090 (rowsOf encChan [x.chans[k]]) ty.el23 ty.ze40 rfl) Z<|lst (zP 2056 ty.el23 ty.ze40 ty.by40 rfl (Src.own rfl rfl) (by have:=putG_len (p:=(pastC e.ch)) (x:=newC e) (x.chans.take k);simp[rowsOf]at *;omega)) Z<|laO Z<|lN<|gB<|gT<|aL<|lgI Z<|lmI Z<|nG ?_
       have ha:(x.chans.take k).any (pastC e.ch)=false:=by simpa using h11
       have hb:(pastC e.ch) x.chans[k]=true:=by unfold pastC;have h:=h12;simp at h ⊢;omega
       refine⟨k+1,hk,by omega,⟨(Eq.trans (b:=boo (true)) rfl (congrArg boo (by rw[any_take hk,hb,Bool.or_true]))),(iq rfl),trivial⟩,⟨(Eq.trans (b:=AO.arr 40 7 (rowsOf encChan ((putG (pastC e.ch) (newC e) (x.chans.take k)++[newC e])++[x.chans[k]]))) (congrArg (AO.arr 40 7) (by rw[rowsOf_app,rowsOf_app]<;>rfl)) (congrArg (fun l=>AO.arr 40 7 (rowsOf encChan l)) (putG_new hk ha hb).symm)),trivial⟩,rfl,rfl⟩
      ·intro h12
       refine aK<|gT<|aL<|lmO Z<|loX (.agg [vI _ _,vI _ _,vI _ _,vI _ _,vI _ _,vI _ _,vI _ _]) ty.kd40 Z<|lst (zS 2090 (rowsOf encChan [x.chans[k]]) ty.el23 ty.ze40 rfl) Z<|lst (zP 2056 ty.el23 ty.ze40 ty.by40 rfl (Src.own rfl rfl) (by have:=putG_len (p:=(pastC e.ch)) (x:=newC e) (x.chans.take k);simp[rowsOf]at *;omega)) Z<|laO Z<|lN<|gB<|gT<|aL<|lgI Z<|lmI Z<|nG ?_
       have ha:(x.chans.take k).any (pastC e.ch)=false:=by simpa using h11
       have hb:(pastC e.ch) x.chans[k]=false:=by unfold pastC;have h:=h12;simp at h ⊢;omega
       refine⟨k+1,hk,by omega,⟨(Eq.trans (b:=boo ((x.chans.take k).any (pastC e.ch))) rfl (congrArg boo (by rw[any_take hk,hb,Bool.or_false]))),(iq rfl),trivial⟩,⟨(Eq.trans (b:=AO.arr 40 7 (rowsOf encChan (putG (pastC e.ch) (newC e) (x.chans.take k)++[x.chans[k]]))) (congrArg (AO.arr 40 7) (rowsOf_app encChan _ [_]).symm) (congrArg (fun l=>AO.arr 40 7 (rowsOf encChan l)) (putG_not hk ha hb).symm)),trivial⟩,rfl,rfl⟩
     ·intro h11
      refine lno Z<|lno Z<|lno Z<|lno Z<|lno Z<|lkZ Z<|nG<|aN Z<|aK<|gT<|aL<|lmO Z<|loX (.agg [vI _ _,vI _ _,vI _ _,vI _ _,vI _ _,vI _ _,vI _ _]) ty.kd40 Z<|lst (zS 2090 (rowsOf encChan [x.chans[k]]) ty.el23 ty.ze40 Z) Z<|lT [0,3,6,7,8,69,70,71,88,90] [0,1,2,3,4,2003,2008,2010,2056,2090] ?_
      refine lst (zP 2056 ty.el23 ty.ze40 ty.by40 rfl (Src.own rfl rfl) (by have:=putG_len (p:=(pastC e.ch)) (x:=newC e) (x.chans.take k);simp[rowsOf]at *;omega)) Z<|laO Z<|lN<|gB<|gT<|aL<|lgI Z<|lmI Z<|nG ?_
      have ha:(x.chans.take k).any (pastC e.ch)=true:=by simpa using h11
      refine⟨k+1,hk,by omega,⟨(Eq.trans (b:=boo ((x.chans.take k).any (pastC e.ch))) rfl (congrArg boo (by rw[any_take hk,ha,Bool.true_or]))),(iq rfl),trivial⟩,⟨(Eq.trans (b:=AO.arr 40 7 (rowsOf encChan (putG (pastC e.ch) (newC e) (x.chans.take k)++[x.chans[k]]))) (congrArg (AO.arr 40 7) (rowsOf_app encChan _ [_]).symm) (congrArg (fun l=>AO.arr 40 7 (rowsOf encChan l)) (putG_old hk ha).symm)),trivial⟩,rfl,rfl⟩
    ·intro h10
     refine aE<|eT<|eT<|eB<|gT ?_
     refine aJ [0,3,6] [0,1,2,3,4,2003,2008] (D:=Unit) (fun jd=>[]) (fun jd=>[(2056,AO.arr 40 7 (rowsOf encChan (insC x.chans (newC e))))]) (fun jd=>True) ?_ ?_
     ·refine aS ?_
      have hke:k=x.chans.length:=by have h:=h10;simp only[length_rowsOf,decide_eq_false_iff_not]at h;omega
      have htk:x.chans.take k=x.chans:=by rw[hke,List.take_length]
      refine aL<|lmB Z<|luB Z<|nG ?_
      refine AW.cond rfl ?_ ?_
      ·intro h13
       refine aL<|lmO Z<|loX (.agg [vI _ _,vI _ _,vI _ _,vI _ _,vI _ _,vI _ _,vI _ _]) ty.kd40 Z<|lst (zS 2097 (rowsOf encChan [newC e]) ty.el23 ty.ze40 rfl) Z<|lst (zP 2056 ty.el23 ty.ze40 ty.by40 rfl (Src.own rfl rfl) (by have:=putG_len (p:=(pastC e.ch)) (x:=newC e) (x.chans.take k);simp[rowsOf]at *;omega)) Z<|laO Z<|nG ?_
       refine⟨(),trivial,trivial,⟨(Eq.trans (b:=AO.arr 40 7 (rowsOf encChan (putG (pastC e.ch) (newC e) (x.chans.take k)++[newC e]))) (congrArg (AO.arr 40 7) (rowsOf_app encChan _ [_]).symm) (congrArg (fun l=>AO.arr 40 7 (rowsOf encChan l)) (by have h:=h13;rw[htk]at h ⊢;exact putG_none (by simpa using h)))),trivial⟩,rfl,rfl⟩
      ·intro h13
       refine aK<|gT ?_
       refine⟨(),trivial,trivial,⟨(congrArg (fun l=>AO.arr 40 7 (rowsOf encChan l)) (by have h:=h13;rw[htk]at h ⊢;exact putG_all (by simpa using h))),trivial⟩,rfl,rfl⟩
     ·intro jd hJ
      refine sL<|lmP Z<|lmO Z<|lc Z<|lf 0 ty.F91_0 Z<|lf 3 ty.F27_3 Z<|lst (zB 0 ty.co23 ty.inf23 Z) Z<|nG<|aS ?_
      refine AW.swap 2056 1 ?_
      refine aT [0,3] [0,1,2,3,4,2003,2008] ?_
      refine aF [12]<|pq 0 (qmP Z)<|pq 1 (qmP Z)<|pq 2 (qc Z)<|pq 3 (qf 0 ty.F91_0 Z)<|pq 4 (qf 2 ty.F27_2 Z)<|sq 5 (roI ty.kd3 Z)<|vq 6 (rf 4 ty.F29_4 Z)<|vq 7 (roI ty.kd3 Z) ?_
      refine vq 8 (rhI rfl ⟨rfl,fits_i64 (by have:=es.amt;have:=es.fee;have:=sm.wallet;unfold A50 at *;unfold i64;omega)⟩)<|vq 9 (rc rfl)<|vq 10 (rf 0 ty.F91_0 rfl)<|vq 11 (rf 2 ty.F27_2 rfl)<|vst 12 rfl (zB 0 ty.co3 ty.inf3 rfl) (.inl rfl)<|fD<|gA<|lmP Z<|lf 4 ty.F29_4 Z<|loI ty.kd3 Z<|lq (rd (x:=vI _ _) (rd_un rfl rfl (fits_i64 (by have:=es.amt;have:=es.fee;have:=sm.wallet;unfold A50 at *;unfold i64;omega))) rfl) ?_
      refine lst (z5a Tryz.func53 (sline_e _ _ _ _ _ _ _ _ _ _ _ _ _ _ ([]) 0 (LG.nil) (by decide) _ _ _ (Fresh.nil _ _) (rangeA_neg es.amt)) (⟨stays.box (Eq.refl 8),trivial⟩) rfl rfl) Z<|lT [0,3] [0,1,2,3,4,2003,2008] ?_
      refine nG<|aL<|lmP Z<|lf 2 ty.F29_2 Z<|loI ty.kd3 Z<|lf 4 ty.F29_4 Z<|loI ty.kd3 Z ?_
      refine lst (z5a Tryz.func53 (sline_e _ _ _ _ _ _ _ _ _ _ _ _ _ _ (addL [] 1 0 (-e.amt)) 1 (LG.nil.add (rangeA_neg es.amt)) (by decide) _ _ _ ((Fresh.nil _ _).add (.inl (by decide))) (rangeA_of es.amt)) (⟨stays.box (Eq.refl 8),trivial⟩) rfl rfl) Z<|lN ?_
      rw[openR_yes hc0]
      refine end_go ?_ ⟨(Eq.trans (b:=sBox g x.tick x.next (x.wallet-e.amt) _) rfl (congrArg (sBox g x.tick x.next (x.wallet-e.amt)) (by first|exact hc0|(have h:=hc0;unfold openC at h;rw[f0];exact h)))),rfl,rfl,rfl,(congrArg lAr (addL_swap (by omega))),trivial⟩
      rfl
theorem delC_take{l:List Chan}{ch:Int}{k:Nat}(hk:k<l.length):delC (l.take (k+1)) ch=delC (l.take k) ch++(if l[k].id=ch then []else [l[k]]):=by
 unfold delC
 rw[List.take_succ_eq_append_getElem hk,List.filter_append]
 by_cases q:l[k].id=ch<;>simp[q]
theorem delC_len{l:List Chan}{ch:Int}:(delC l ch).length≤l.length:=List.length_filter_le _ _
theorem sshut_e(g:Value)(x:Book)(e:Event)(fi:BookFi x)(es:EvSm e)(fn0:0≤e.fee):GC Tryz.prog 56 [.ptr 0 0 0,evV e] (sIn g x [] 0) (.tup []) (sOut g (shutR x e)):=by
 have sm:=fi.sm
 have hm:x.chans.length≤1000000000:=by have:=sm.lc;omega
 have hmh:x.htlcs.length≤1000000000:=by have:=sm.lh;omega
 have hmc:x.circles.length≤1000000000:=by have:=sm.li;omega
 have hlc:=sm.lc
 have hL:decide ((x.chans.length:Int)=20)=decide ((20:Int)≤(x.chans.length:Int)):=by have:=sm.lc;apply decide_eq_decide.2;omega

 refine GC.intro (rs:=[]) Tryz.func56 rfl Tryz.ntmps56 (Nat.le_of_ble_eq_true rfl) trivial ?_
 intro L O w0
 refine sL<|lst (zX 2003 Z) Z<|nG<|aS<|aF []<|pq 0 (qmP Z)<|pq 1 (qc Z)<|pq 2 (qf 0 ty.F91_0 Z)<|sq 3 (roX (.agg [vI _ _,vI _ _,vI _ _,.own _,.own _,.own _]) ty.kd27 Z)<|vq 4 (rf 2 ty.F29_2 Z)<|vq 5 (roI ty.kd3 Z) ?_
 rcases chan_find x.chans e.ch with⟨hi,ho⟩|⟨i,c,hi,hc,ho,hid⟩
 ·skip
  refine vst 6 rfl (zL Tryz.func55 (sAt_e x _ hm) rfl) (.inr rfl)<|vq 7 (raI rfl)<|fD<|gT<|aS<|sL<|lmP Z<|lmI Z<|lbB Z<|lsB 18 true rfl (by rw[show atI (fun c=>c.id==e.ch) x.chans=_ from hi];simp) ?_
  refine lst (z5a Tryz.func51 (scode_e _ _ _ _ _ _ _ _ _ _ _ _ _ _ _ _ _ _ _ ) (⟨stays.box (Eq.refl 8),trivial⟩) rfl rfl) rfl ?_
  have f0:failC false 0 6=0:=rfl
  refine lsB 19 true rfl (by rfl)<|nG<|aY Z<|aR<|rT ?_
  have hcd:shutC x e=6:=by unfold shutC;rw[missC_none hi,failC_old (failC_keep (failC_set (by decide))),failC_old (failC_set (by decide))];rfl
  have hc0:shutC x e≠0:=by rw[hcd];decide
  rw[shutR_no hc0,hcd]
  refine end_ret ?_ ⟨rfl,rfl,rfl,rfl,rfl,trivial⟩
  rfl
 ·have hcm:=sm.chans c (mem_of_get hc)
  refine vst 6 Z (zL Tryz.func55 (sAt_e x _ hm) Z) (.inr Z)<|fT [0,3,15] [0,1,2,3,4,2003] ?_
  refine vq 7 (raI rfl)<|fD<|gT<|aS<|sL<|lmP Z<|lmI Z<|lbB Z<|lsB 18 false rfl (by rw[show atI (fun c=>c.id==e.ch) x.chans=_ from hi];simp) ?_
  refine lst (z5a Tryz.func51 (scode_e _ _ _ _ _ _ _ _ _ _ _ _ _ _ _ _ _ _ _ ) (⟨stays.box (Eq.refl 8),trivial⟩) rfl rfl) rfl ?_
  have f0:failC false 0 6=0:=rfl
  refine lsB 19 false rfl (by rfl)<|nG<|aN Z<|aK<|gA<|lmP Z<|lc Z<|lf 0 ty.F91_0 Z<|lf 3 ty.F27_3 Z<|loO ty.kd23 Z<|lmI Z<|lq (rd (x:=.ptr 1 _ 0) (rd_iaddr_own (i:=i) rfl ty.el23 rfl rfl rfl ?hn1 (by rw[length_rowsOf];exact(List.getElem?_eq_some_iff.1 hc).1)) rfl) ?_
  case hn1=>rw[←chanAt_atI];exact hi
  refine lq (rd (x:=.agg [vI _ _,vI _ _,vI _ _,vI _ _,vI _ _,vI _ _,vI _ _]) (rd_load_arr Z ty.kd40 Z Z Z (rows_some hc) Z) Z)<|lst (zA 2005 ty.ze40 Z) Z<|lT [0,3,5,27] [0,1,2,3,4,2003,2005] ?_
  refine lst (zB 2005 ty.co40 ty.inf40 Z) Z<|nG<|aS<|aS<|aF [8,16]<|pq 0 (qmP Z)<|pq 1 (qmP Z)<|pq 2 (qc Z)<|pq 3 (qf 0 ty.F91_0 Z)<|sq 4 (roX (.agg [vI _ _,vI _ _,vI _ _,.own _,.own _,.own _]) ty.kd27 Z)<|vq 5 (rf 2 ty.F29_2 Z)<|vq 6 (roI ty.kd3 Z)<|vst 7 Z (zL Tryz.func108 (sused_e x _ hmh hmc) Z) (.inr Z) ?_
  refine vst 8 rfl (z5a Tryz.func51 (scode_e _ _ _ _ _ _ _ _ _ _ _ _ _ _ _ _ _ _ _ ) (⟨stays.box (Eq.refl 8),trivial⟩) rfl rfl) (.inl rfl)<|vq 9 (rmB rfl) ?_
  refine AF.bool (t:=37) rfl ?_ ?_
  ·intro h1
   refine pno 10 Z<|pno 11 Z<|pno 12 Z<|vno 13 Z<|vno 14 Z<|vno 15 Z<|vno 16 Z<|vq 17 (rkT Z)<|fD<|gT<|aY Z<|aR<|rT ?_
   have hcd:shutC x e=failC (usedB x e.ch) 0 7:=by
    have h:=h1
    unfold shutC
    rw[missC_some hi,ho]
    simp only[f0,Bool.not_eq_true',decide_eq_false_iff_not]at h
    exact failC_old h
   have hc0:shutC x e≠0:=by
    have h:=h1
    rw[hcd]
    simp only[f0,Bool.not_eq_true',decide_eq_false_iff_not]at h
    exact h
   rw[shutR_no hc0,hcd]
   refine end_ret ?_ ⟨rfl,rfl,rfl,rfl,rfl,trivial⟩
   rfl
  ·intro h1
   refine pq 10 (qmP Z)<|pq 11 (qf 5 ty.F29_5 Z)<|sq 12 (roI ty.kd3 Z)<|vq 13 (rf 2 ty.F40_2 Z)<|vq 14 (roI ty.kd3 Z)<|vq 15 (rbB Z) ?_
   refine vst 16 rfl (z5a Tryz.func51 (scode_e _ _ _ _ _ _ _ _ _ _ _ _ _ _ _ _ _ _ _ ) (⟨stays.box (Eq.refl 8),trivial⟩) rfl rfl) (.inl rfl)<|fT [0,3,5,37,44] [0,1,2,3,4,2003,2005] ?_
   refine vq 17 (rkB Z)<|fD<|gT ?_
   refine AW.cond rfl ?_ ?_
   ·intro h2
    refine aR<|rT ?_
    have hcd:shutC x e=failC (decide (c.loc<e.fee)) (failC (usedB x e.ch) 0 7) 8:=by unfold shutC;rw[missC_some hi,ho]
    have hc0:shutC x e≠0:=by
     have h:=h2
     rw[hcd]
     simp only[f0,Bool.not_eq_true',decide_eq_false_iff_not]at h
     exact h
    rw[shutR_no hc0,hcd]
    refine end_ret ?_ ⟨rfl,rfl,rfl,rfl,rfl,trivial⟩
    rfl
   ·intro h2
    refine aK<|gT<|aS ?_
    have hc0:shutC x e=0:=by
     have h:=h2
     unfold shutC
     rw[missC_some hi,ho]
     simp only[f0,Bool.not_eq_false',decide_eq_true_eq]at h
     exact h
    refine aL<|lst (zS 2046 [] ty.el23 ty.ze40 rfl (by simp)) Z<|laO Z<|nG<|aS<|sL<|lmP Z<|lc Z<|lf 0 ty.F91_0 Z<|lf 3 ty.F27_3 Z<|loO ty.kd23 Z<|lnI ty.sl23 Z<|lmI Z<|nG<|aB ?_
    refine aW [0,3,5,6,51,52] [0,1,2,3,4,2003,2005] (D:=Nat) (fun k=>[(53,int (k:Int))]) (fun k=>[(2046,AO.arr 40 7 (rowsOf encChan (delC (x.chans.take k) e.ch)))]) (fun k=>k≤x.chans.length) (fun k=>x.chans.length-k) (0) (Nat.zero_le _) ⟨rfl,trivial⟩ ⟨rfl,trivial⟩ ?_
    intro k hI
    refine sL<|lbB Z<|nG<|aS ?_
    refine AW.cond rfl ?_ ?_
    ·intro h3
     refine aK<|gT<|aS<|aB<|sL ?_
     have hk:k<x.chans.length:=by simpa[length_rowsOf]using h3
     refine lq (rj k ty.el23 rfl (by rw[length_rowsOf];exact hk))<|lq (rd (x:=.agg [vI _ _,vI _ _,vI _ _,vI _ _,vI _ _,vI _ _,vI _ _]) (rd_load_arr rfl ty.kd40 rfl rfl rfl (row_map hk) rfl) rfl)<|lst (zA 2008 ty.ze40 rfl) Z<|lT [0,3,5,6,8,51,52,53,56] [0,1,2,3,4,2003,2005,2008,2046] ?_
     refine lst (zB 2008 ty.co40 ty.inf40 Z) Z<|nA<|lf 0 ty.F40_0 Z<|loI ty.kd3 Z<|lf 2 ty.F29_2 Z<|loI ty.kd3 Z<|lbB Z<|nG ?_
     refine AW.cond rfl ?_ ?_
     ·intro h4
      refine aL<|lmO Z<|loX (.agg [vI _ _,vI _ _,vI _ _,vI _ _,vI _ _,vI _ _,vI _ _]) ty.kd40 Z<|lst (zS 2064 (rowsOf encChan [x.chans[k]]) ty.el23 ty.ze40 rfl) Z<|lst (zP 2046 ty.el23 ty.ze40 ty.by40 rfl (Src.own rfl rfl) (by have:=delC_len (l:=x.chans.take k) (ch:=e.ch);simp[rowsOf]at *;omega)) Z<|laO Z<|lN<|gB<|gT<|aL<|lgI Z<|lmI Z<|nG ?_
      refine⟨k+1,hk,by omega,⟨(iq rfl),trivial⟩,⟨(Eq.trans (b:=AO.arr 40 7 (rowsOf encChan (delC (x.chans.take k) e.ch++[x.chans[k]]))) (congrArg (AO.arr 40 7) (rowsOf_app encChan _ [_]).symm) (congrArg (fun l=>AO.arr 40 7 (rowsOf encChan l)) (by have h:=h4;rw[delC_take hk,if_neg (by simpa using h)]))),trivial⟩,rfl,rfl⟩
     ·intro h4
      refine aK<|gB<|gT<|aL<|lgI Z<|lmI Z<|nG ?_
      refine⟨k+1,hk,by omega,⟨(iq rfl),trivial⟩,⟨(congrArg (fun l=>AO.arr 40 7 (rowsOf encChan l)) (by have h:=h4;rw[delC_take hk,if_pos (by simpa using h),List.append_nil])),trivial⟩,rfl,rfl⟩
    ·intro h3
     refine aE<|eT<|eT<|eB<|gT<|aS ?_
     have hke:k=x.chans.length:=by have h:=h3;simp only[length_rowsOf,decide_eq_false_iff_not]at h;omega
     refine AW.obj 2046 (AO.arr 40 7 (rowsOf encChan (delC x.chans e.ch))) (congrArg (fun l=>AO.arr 40 7 (rowsOf encChan l)) (by rw[hke,List.take_length])) ?_
     refine aL<|lmP Z<|lmO Z<|lc Z<|lf 0 ty.F91_0 Z<|lf 3 ty.F27_3 Z<|lst (zB 0 ty.co23 ty.inf23 Z) Z<|lT [0,3,5] [0,1,2,3,4,2003,2005,2046] ?_
     refine nG<|aS ?_
     refine AW.swap 2046 1 ?_
     refine aT [0,3,5] [0,1,2,3,4,2003,2005] ?_
     refine aF [15]<|pq 0 (qmP Z)<|pq 1 (qmP Z)<|pq 2 (qc Z)<|pq 3 (qf 0 ty.F91_0 Z)<|pq 4 (qf 2 ty.F27_2 Z)<|sq 5 (roI ty.kd3 Z)<|pq 6 (qf 2 ty.F40_2 Z)<|sq 7 (roI ty.kd3 Z) ?_
     refine sq 8 (rhI rfl ⟨rfl,fits_i64 (by have:=hcm.1;have:=es.amt;have:=es.fee;have:=sm.wallet;unfold A50 at *;unfold i64;omega)⟩)<|vq 9 (rf 5 ty.F29_5 rfl)<|vq 10 (roI ty.kd3 rfl) ?_
     refine vq 11 (rhI rfl ⟨rfl,fits_i64 (by have:=hcm.1;have:=es.amt;have:=es.fee;have:=sm.wallet;unfold A50 at *;unfold i64;omega)⟩)<|fsN 83 (x.wallet+(c.loc-e.fee)) rfl (by omega)<|vq 12 (rc rfl)<|vq 13 (rf 0 ty.F91_0 rfl)<|vq 14 (rf 2 ty.F27_2 rfl)<|vst 15 rfl (zB 0 ty.co3 ty.inf3 rfl) (.inl rfl)<|fT [0,3,5] [0,1,2,3,4,2003,2005] ?_
     refine fD<|gA<|lmP Z<|lf 2 ty.F40_2 Z<|loI ty.kd3 Z<|lf 5 ty.F29_5 Z<|loI ty.kd3 Z ?_
     refine lhI rfl ⟨rfl,fits_i64 (by have:=hcm.1;have:=es.amt;have:=es.fee;have:=sm.wallet;unfold A50 at *;unfold i64;omega)⟩ ?_
     have hnl:¬c.loc<e.fee∧0≤e.fee:=⟨fun q=>by
      have h:=hc0;unfold shutC at h;rw[missC_some hi,ho]at h;exact absurd h (by rw[decide_eq_true q];exact failC_set (by decide)),fn0⟩
     refine lst (z5a Tryz.func53 (sline_e _ _ _ _ _ _ _ _ _ _ _ _ _ _ ([]) 0 (LG.nil) (by decide) _ _ _ (Fresh.nil _ _) (rangeA_of (by have:=hcm.1;have:=es.fee;have:=hnl;unfold A50 at *;omega))) (⟨stays.box (Eq.refl 8),trivial⟩) rfl rfl) Z<|nA<|lmP Z<|lf 5 ty.F29_5 Z<|loI ty.kd3 rfl ?_
     refine lst (z5a Tryz.func53 (sline_e _ _ _ _ _ _ _ _ _ _ _ _ _ _ (addL [] 1 0 (c.loc-e.fee)) 1 (LG.nil.add (rangeA_of (by have:=hcm.1;have:=es.fee;have:=hnl;unfold A50 at *;omega))) (by decide) _ _ _ ((Fresh.nil _ _).add (.inl (by decide))) (rangeA_of es.fee)) (⟨stays.box (Eq.refl 8),trivial⟩) rfl rfl) Z<|nG<|aL<|lmP Z<|lf 2 ty.F29_2 Z<|loI ty.kd3 Z<|lf 2 ty.F40_2 Z<|loI ty.kd3 Z<|lq (rd (x:=vI _ _) (rd_un rfl rfl (fits_i64 (by have:=hcm.1;have:=es.amt;have:=es.fee;have:=sm.wallet;unfold A50 at *;unfold i64;omega))) rfl) ?_
     refine lst (z5a Tryz.func53 (sline_e _ _ _ _ _ _ _ _ _ _ _ _ _ _ (addL (addL [] 1 0 (c.loc-e.fee)) 5 0 e.fee) 2 ((LG.nil.add (rangeA_of (by have:=hcm.1;have:=es.fee;have:=hnl;unfold A50 at *;omega))).add (rangeA_of es.fee)) (by decide) _ _ _ (((Fresh.nil _ _).add (.inl (by decide))).add (.inl (by decide))) (rangeA_neg hcm.1)) (⟨stays.box (Eq.refl 8),trivial⟩) rfl rfl) Z<|lT [] [0,1,2,3,4,2003,2005] ?_
     refine lN ?_
     rw[shutR_yes hc0]
     unfold shutY
     rw[ho]
     refine end_go ?_ ⟨(Eq.trans (b:=sBox g x.tick x.next (x.wallet+(c.loc-e.fee)) _) rfl (congrArg (sBox g x.tick x.next (x.wallet+(c.loc-e.fee))) (by have h:=hc0;unfold shutC at h;rw[missC_some hi,ho]at h;exact h))),rfl,rfl,rfl,rfl,trivial⟩
     rfl
end Go.Proofs.YtogkbcmfoalpiaaGreat

