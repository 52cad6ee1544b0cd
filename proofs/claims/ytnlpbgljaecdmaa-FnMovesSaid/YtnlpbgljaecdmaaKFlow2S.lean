/- FlowOk of the reference, walked. -/
import Derived.Test.YtnlpbgljaecdmaaKFlow1
import Derived.Test.YtnlpbgljaecdmaaKSup
namespace Go.Proofs.Ytnlpbgljaecdmaa
open Go.RowKit
set_option maxHeartbeats 16000000
set_option maxRecDepth 100000
set_option linter.unusedSimpArgs false
set_option linter.unusedVariables false
theorem spec_FlowOk_c(x:Graph)(a:Option Addr)(c:Nat)(f:List Int)(a':Option Addr)(c':Nat)(w:World)(h:SlR 4 repEdge w 0 w.heap.size (.slice a x.edges.length c) x.edges)
 (h':SlR 1 repInt w 0 w.heap.size (.slice a' f.length c') f) :
 Calls Try.prog 49 #[.agg #[.int .i64 x.n,.slice a x.edges.length c],.slice a' f.length c'] w fun e w'=>e=.returned (.bool (flowOk x f))∧Grow w w':=by
 by_cases hok:graphOk x=true
 rotate_left
 ·have hok:graphOk x=false:=by simpa using hok
  have hr:flowOk x f=false:=by simp[flowOk,hok]
  have HR:=Lib.hid hr;clear hr
  go_enter Try.func49,Try.ntmps49
  go_wp2_with fail
  refine(spec_GraphOk_c x _ _ _ (h.grow' repEdge_stable (Grow.below ((Grow.refl _).alloc _ _)))).mono ?_
  rintro e w1 ⟨rfl,g1⟩
  go_wp2_with fail
  go_ret
  exact⟨by rw[HR.out];rfl,((Grow.refl w).alloc _ _).trans g1⟩
 have hok2:inB x.n 1 24=true∧x.edges.length≤60∧x.edges.all (edgeOk x.n)=true:=by
  unfold graphOk at hok;simp only[Bool.and_eq_true,decide_eq_true_eq]at hok;exact⟨hok.1.1,hok.1.2,hok.2⟩
 obtain⟨hn,h60,hedges⟩:=hok2
 obtain⟨hn1,hn2⟩:=inB_true.1 hn
 clear hn
 by_cases hlen:f.length=x.edges.length
 rotate_left
 ·have hr:flowOk x f=false:=by simp[flowOk,hlen]
  have HR:=Lib.hid hr;clear hr
  have hne:((f.length:Int) != (x.edges.length:Int))=true:=by simp;omega
  have hf:f.length≤9223372036854775807:=by obtain⟨_,_,_,_,hh,_⟩:=h';unfold maxLen at hh;omega
  have HL:=Lib.hid hlen;clear hlen
  go_enter Try.func49,Try.ntmps49
  go_wp2_with fail
  refine(spec_GraphOk_c x _ _ _ (h.grow' repEdge_stable (Grow.below ((Grow.refl _).alloc _ _)))).mono ?_
  rintro e w1 ⟨rfl,g1⟩
  have b0:=cellGrow g1 (cell_new 0 rfl)
  have b1:=cellGrow g1 (cell_new 1 rfl)
  go_wp2_with fail
  go_ret
  exact⟨by rw[HR.out];rfl,((Grow.refl w).alloc _ _).trans g1⟩
 obtain⟨N,hN⟩:∃N:Nat,x.n=(N:Int):=⟨x.n.toNat,by omega⟩
 obtain⟨n,edges⟩:=x
 simp only at hN hn1 hn2 h60 hedges hok h hlen
 subst hN
 have hmk:=fun w=>madeInts N (by omega) w
 have hnn:((f.length:Int) != (edges.length:Int))=false:=by simp;omega
 have HOK:=Lib.hid hok;have HLEN:=Lib.hid hlen;have HED:=Lib.hid hedges
 have hlf:f.length≤60:=by omega
 clear hedges hlen
 go_enter Try.func49,Try.ntmps49
 go_wp2_with fail
 refine(spec_GraphOk_c ⟨_,edges⟩ _ _ _ (h.grow' repEdge_stable (Grow.below ((Grow.refl _).alloc _ _)))).mono ?_
 rintro e w1 ⟨rfl,g1⟩
 have b0:=cellGrow g1 (cell_new 0 rfl)
 have b1:=cellGrow g1 (cell_new 1 rfl)
 have z1:w.heap.size<w1.heap.size:=lt_of_cell b0
 go_wp2_with fail
 have hzl:(edges.zip f).length=edges.length:=by have:=HLEN.out;simp;omega
 go_loopg [27] edges.length (fun g i wr=>∃k:Nat,k+g=edges.length∧i=.int .i64 k∧((edges.zip f).take k).all flowIn=true∧Grow (w.alloc (.cells #[.int .i64 (N:Int),.slice a edges.length c] 36)) wr∧w1.heap.size<wr.heap.size∧
  IntsAt wr w1.heap.size (sumsOf N ((edges.zip f).take k))∧(∀o,wr.frozen? ⟨w1.heap.size,o,none⟩=false))
 case atStart=>exact⟨0,by simp,rfl,by simp,g1.alloc _ _,by simp,IntsAt.made _ _ _,fun o=>(g1.alloc _ _).nf _ o (by simp;omega) (by simp)⟩
 case round=>
  obtain⟨k,hk,rfl,hall,hg,hz,hs,hfz⟩:=hrel
  have hgw:=((Grow.refl w).alloc _ _).trans hg
  have c0:=cellGrow hg (cell_new 0 rfl)
  have c1:=cellGrow hg (cell_new 1 rfl)
  by_cases hlt:k<edges.length
  ·obtain⟨b,off,e0,e1,e2,e3,rfl,hb⟩:=elem_edge h k hlt
   obtain⟨b',off',f0,rfl,hb'⟩:=elem_int h' k (by have:=HLEN.out;omega)
   have e0:=cellGrow hgw e0;have e1:=cellGrow hgw e1;have e2:=cellGrow hgw e2;have e3:=cellGrow hgw e3;have f0:=cellGrow hgw f0
   have hbz:b<wr.heap.size:=by have:=hgw.size;omega
   have hbz':b'<wr.heap.size:=by have:=hgw.size;omega
   have hltz:k<(edges.zip f).length:=by omega
   have hzk:(edges.zip f)[k]=(edges[k],f[k]'(by have:=HLEN.out;omega)):=List.getElem_zip
   have hee:edgeOk (N:Int) edges[k]=true:=List.all_eq_true.1 HED.out _ (List.getElem_mem hlt)
   obtain⟨p1,p2,p3,p4,p5,p6,p7,_,_⟩:=edgeOk_iff.1 hee
   have hbd:bdd (2000000000*60) (sumsOf N ((edges.zip f).take k)):=by
    have hh:=bdd_sums N ((edges.zip f).take k) (fun p hp=>?_)
    ·intro i hi
     have:=hh i hi
     have hl:((edges.zip f).take k).length≤60:=Nat.le_trans (List.length_take_le _ _) (by omega)
     omega
    ·have h1:=List.all_eq_true.1 hall p hp
     obtain⟨q1,q2⟩:=inB_true.1 h1
     have hm:p.1∈edges:=(List.of_mem_zip (List.mem_of_mem_take hp)).1
     have:=edgeOk_iff.1 (List.all_eq_true.1 HED.out _ hm)
     omega
   have hsl:=sumsOf_length N ((edges.zip f).take k)
   have hsn:=sumsOf_snoc N (edges.zip f) k hltz
   have hat:=all_take_succ' (p:=flowIn) hltz
   have hff:flowIn (edges.zip f)[k]=false→flowOk ⟨N,edges⟩ f=false:=fun hh=>by
    have:(edges.zip f).all flowIn=false:=by rw[List.all_eq_false];exact⟨_,List.getElem_mem hltz,by rw[hh];exact Bool.false_ne_true⟩
    simp[flowOk,this]
   rw[hzk]at hsn hat hff
   have HSN:=Lib.hid hsn;have HAT:=Lib.hid hat;have HFF:=Lib.hid hff;have HK:=Lib.hid hk;have HALL:=Lib.hid hall;have HGW:=Lib.hid hgw;have HG:=Lib.hid hg;have HBD:=Lib.hid hbd;have HSL:=Lib.hid hsl;have HS:=Lib.hid hs
   clear hsn hat hff hall hgw hg hbd hsl hs hzk hee hltz
   generalize edges[k]=e at *
   generalize f[k]'(by have:=HLEN.out;omega)=v at *
   generalize sumsOf N ((edges.zip f).take k)=s at *
   clear hk
   have hk0:(0:Int)≤(k:Int):=by omega
   have hk1:(k:Int)<(f.length:Int):=by have:=HLEN.out;omega
   obtain⟨frm,to,cap,cost⟩:=e
   simp only at e0 e1 e2 e3 p1 p2 p3 p4 p5 p6 p7
   obtain⟨fm,rfl⟩:=Int.eq_ofNat_of_zero_le p1
   obtain⟨tm,rfl⟩:=Int.eq_ofNat_of_zero_le p3
   by_cases hin:inB v 0 cap=true
   ·obtain⟨v1,v2⟩:=inB_true.1 hin
    have HIN:=Lib.hid hin
    have hfl:fm<s.length:=by have:=HSL.out;omega
    have htl:tm<s.length:=by have:=HSL.out;omega
    have fN:fm<N:=by omega
    have tN:tm<N:=by omega
    have fN':(fm:Int)<(N:Int):=by omega
    have tN':(tm:Int)<(N:Int):=by omega
    have x0:=HS.out fm hfl
    have x1:=HS.out tm htl
    have hb0:=HBD.out fm hfl
    have hb1:=HBD.out tm htl
    generalize hX0:s[fm]=y0 at *
    generalize hX1:s[tm]=y1 at *
    obtain⟨hb01,hb02⟩:=hb0
    obtain⟨hb11,hb12⟩:=hb1
    have HX0:=Lib.hid hX0;have HX1:=Lib.hid hX1;clear hX0 hX1
    have hv0:decide (v<(0:Int))=false:=by simp;omega
    have hv1:decide (cap<v)=false:=by simp;omega
    go_wp2_with fail
    go_quiet (fail)
    go_wp2_with fail
    have hz3:wr.heap.size<((wr.alloc (.cells #[.int .i64 (fm:Int),.int .i64 (tm:Int),.int .i64 cap,.int .i64 cost] 40)).drewN nq).heap.size:=by show _<(wr.alloc _).heap.size;simp
    have hGN:=(HG.out.alloc #[.int .i64 (fm:Int),.int .i64 (tm:Int),.int .i64 cap,.int .i64 cost] 40).drewN nq
    have hSN:=HS.out.same (((Same.refl 0 wr.heap.size wr).alloc (Nat.le_refl _) (.cells #[.int .i64 (fm:Int),.int .i64 (tm:Int),.int .i64 cap,.int .i64 cost] 40))) (Nat.zero_le _) hz
    have k0:=cell_new (w:=wr) (c:=#[.int .i64 (fm:Int),.int .i64 (tm:Int),.int .i64 cap,.int .i64 cost]) (T:=40) 0 rfl
    have k1:=cell_new (w:=wr) (c:=#[.int .i64 (fm:Int),.int .i64 (tm:Int),.int .i64 cap,.int .i64 cost]) (T:=40) 1 rfl
    have k2:=cellAlloc f0 (.cells #[.int .i64 (fm:Int),.int .i64 (tm:Int),.int .i64 cap,.int .i64 cost] 40)
    have k3:=fun o=>(frozen?_alloc_cells wr #[.int .i64 (fm:Int),.int .i64 (tm:Int),.int .i64 cap,.int .i64 cost] 40 ⟨w1.heap.size,o,none⟩).trans (hfz o)
    obtain⟨W,hW⟩:∃W,W=(wr.alloc (.cells #[.int .i64 (fm:Int),.int .i64 (tm:Int),.int .i64 cap,.int .i64 cost] 40)).drewN nq:=⟨_,rfl⟩
    rw[←hW]at hz3 hGN ⊢
    have k0':W.cell? ⟨wr.heap.size,0,none⟩=some (.int .i64 (fm:Int)):=by rw[hW];exact k0
    have k1':W.cell? ⟨wr.heap.size,1,none⟩=some (.int .i64 (tm:Int)):=by rw[hW];exact k1
    have k2':W.cell? ⟨b',off'+k,none⟩=some (.int .i64 v):=by rw[hW];exact k2
    have k3':∀o,W.frozen? ⟨w1.heap.size,o,none⟩=false:=by rw[hW];exact k3
    have hSN':IntsAt W w1.heap.size s:=by rw[hW];exact hSN
    clear k0 k1 k2 k3 hSN hW
    have HSW:=Lib.hid hSN';have HGW2:=Lib.hid hGN
    have x0':W.cell? ⟨w1.heap.size,fm,none⟩=some (.int .i64 y0):=by rw[hSN' fm hfl,HX0.out]
    clear hSN' hGN e0 e1 e2 e3 f0 x0 x1 c0 c1 hfz
    go_still_tail 14,(by kernel_rfl)
    go_wp2_with fail
    have m1:=cellSet (p:=⟨w1.heap.size,fm,none⟩) (u:=.int .i64 (y0-v)) (w:=W) k1' (by show w1.heap.size≠_;omega)
    have m2:=cellSet (p:=⟨w1.heap.size,fm,none⟩) (u:=.int .i64 (y0-v)) (w:=W) k2' (by show w1.heap.size≠_;omega)
    have m3:∀o,(W.setCell ⟨w1.heap.size,fm,none⟩ (.int .i64 (y0-v))).frozen? ⟨w1.heap.size,o,none⟩=false:=fun o=>by rw[World.frozen?_setCell];exact k3' o
    have m4:IntsAt (W.setCell ⟨w1.heap.size,fm,none⟩ (.int .i64 (y0-v))) w1.heap.size (s.set fm (y0-v)):=IntsAt.set (w:=W) HSW.out hfl _
    have m5:=(HGW2.out.setCell (p:=⟨w1.heap.size,fm,none⟩) (by simp;omega) (.int .i64 (y0-v))).drew
    have m6:wr.heap.size<(W.setCell ⟨w1.heap.size,fm,none⟩ (.int .i64 (y0-v))).heap.size:=by rw[World.size_setCell];exact hz3
    have m7:bdd (2000000000*60+1000000000) (s.set fm (y0-v)):=bdd_set HBD.out _ _ (by omega) (by omega) (by omega)
    obtain⟨W2,hW2⟩:∃W2,W2=(W.setCell ⟨w1.heap.size,fm,none⟩ (.int .i64 (y0-v))).drew:=⟨_,rfl⟩
    have m1:W2.cell? ⟨wr.heap.size,1,none⟩=some (.int .i64 (tm:Int)):=by rw[hW2];exact m1
    have m2:W2.cell? ⟨b',off'+k,none⟩=some (.int .i64 v):=by rw[hW2];exact m2
    have m3:∀o,W2.frozen? ⟨w1.heap.size,o,none⟩=false:=by rw[hW2];exact m3
    have m4:IntsAt W2 w1.heap.size (s.set fm (y0-v)):=by rw[hW2];exact m4
    have m6:wr.heap.size<W2.heap.size:=by rw[hW2];exact m6
    rw[←hW2]at m5 ⊢
    clear hW2 k0' k1' k2' k3' x0' hz3
    have ht1:tm<(s.set fm (y0-v)).length:=by simpa using htl
    have m8:=m4 tm ht1
    obtain⟨m9,m10⟩:=m7 tm ht1
    generalize hX2:(s.set fm (y0-v))[tm]=y2 at *
    have HX2:=Lib.hid hX2;have M4:=Lib.hid m4;have M5:=Lib.hid m5;clear hX2 m4 m5 m7
    go_still_tail 14,(by kernel_rfl)
    go_wp2_with fail
    have n1:IntsAt (W2.setCell ⟨w1.heap.size,tm,none⟩ (.int .i64 (y2+v))) w1.heap.size ((s.set fm (y0-v)).set tm (y2+v)):=IntsAt.set M4.out ht1 _
    have n2:stepSum s (⟨(fm:Int),(tm:Int),cap,cost⟩,v)=(s.set fm (y0-v)).set tm (y2+v):=by
     have q1:s.getD fm 0=y0:=by rw[List.getD_eq_getElem?_getD,List.getElem?_eq_getElem hfl];exact HX0.out
     have q2:(s.set fm (y0-v)).getD tm 0=y2:=by rw[List.getD_eq_getElem?_getD,List.getElem?_eq_getElem ht1];exact HX2.out
     unfold stepSum
     simp only[Int.toNat_natCast,q1,q2]
    go_roundg (edges.length-(k+1))
    case measure=>have:=HK.out;omega
    case rel=>
     refine⟨k+1,by have:=HK.out;omega,by go_num,?_,(M5.out.setCell (p:=⟨w1.heap.size,tm,none⟩) (by simp;omega) _).drew,?_,?_,?_⟩
     ·rw[HAT.out,HALL.out];exact HIN.out
     ·show _<(W2.setCell _ _).heap.size
      rw[World.size_setCell];omega
     ·rw[HSN.out,n2];exact n1
     ·intro o
      show (W2.setCell _ _).frozen? _=false
      rw[World.frozen?_setCell];exact m3 o
   ·have hin:inB v 0 cap=false:=by simpa using hin
    have hr:=HFF.out hin
    have HR:=Lib.hid hr;clear hr
    rcases inB_false.1 hin with hv|hv
    ·have hv0:decide (v<(0:Int))=true:=by simp;omega
     go_wp2_with fail
     go_quiet (fail)
     go_wp2_with fail
     go_ret
     exact⟨by rw[HR.out];rfl,(HGW.out.alloc _ _).drewN _⟩
    ·have hv0:decide (v<(0:Int))=false:=by simp;omega
     have hv1:decide (cap<v)=true:=by simp;omega
     go_wp2_with fail
     go_quiet (fail)
     go_wp2_with fail
     go_ret
     exact⟨by rw[HR.out];rfl,(HGW.out.alloc _ _).drewN _⟩
  ·have hke:k=edges.length:=by omega
   have htk:(edges.zip f).take k=edges.zip f:=List.take_of_length_le (by omega)
   rw[htk]at hall hs
   have hsl:=sumsOf_length N (edges.zip f)
   have HALL:=Lib.hid hall;have HGW:=Lib.hid hgw;have HS:=Lib.hid hs;have HSL:=Lib.hid hsl
   clear hall hg hgw hs hsl htk hke hk
   have hN9:N≤24:=by omega
   go_wp2_with fail
   go_loopg [77] N (fun g i wq=>∃j:Nat,j+g=N∧i=.int .i64 j∧((sumsOf N (edges.zip f)).take j).all (fun n=>n==0)=true∧wq=wr)
   case atStart=>exact⟨0,by simp,rfl,by simp,rfl⟩
   case round=>
    rename_i wq
    obtain⟨j,hj,rfl,hz0,rfl⟩:=hrel
    by_cases hjl:j<N
    ·have hjs:j<(sumsOf N (edges.zip f)).length:=by have:=HSL.out;omega
     have y0:=HS.out j hjs
     have hat:=all_take_succ' (p:=fun n=>n==(0:Int)) hjs
     have hno:((sumsOf N (edges.zip f))[j]==0)=false→flowOk ⟨N,edges⟩ f=false:=fun hh=>by
      have:(sumsOf N (edges.zip f)).all (fun n=>n==0)=false:=by rw[List.all_eq_false];exact⟨_,List.getElem_mem hjs,by rw[hh];exact Bool.false_ne_true⟩
      simp[flowOk,this]
     have HAT:=Lib.hid hat;have HNO:=Lib.hid hno;have HJ:=Lib.hid hj;have HZ:=Lib.hid hz0
     clear hat hno hz0
     have hj0:(0:Int)≤(j:Int):=by omega
     have hj1:(j:Int)<(N:Int):=by omega
     generalize (sumsOf N (edges.zip f))[j]=y at *
     clear hj
     by_cases hy:y=0
     ·subst hy
      go_wp2
      go_roundg (N-(j+1))
      case measure=>have:=HJ.out;omega
      case rel=>exact⟨j+1,by have:=HJ.out;omega,by go_num,by rw[HAT.out,HZ.out];rfl,rfl⟩
     ·have hyb:(y != 0)=true:=by simp[hy]
      have hr:=HNO.out (by simp[hy])
      have HR:=Lib.hid hr;clear hr
      have HY:=Lib.hid hy;clear hy
      go_wp2
      go_ret
      exact⟨by rw[HR.out];rfl,HGW.out⟩
    ·have hje:j=N:=by omega
     have hr:flowOk ⟨N,edges⟩ f=true:=by
      rw[hje,List.take_of_length_le (by have:=HSL.out;omega)]at hz0
      unfold flowOk
      simp only[Int.toNat_natCast,hz0,HALL.out,HOK.out,HLEN.out,decide_true,Bool.and_self]
     have HR:=Lib.hid hr;clear hr hz0 hje
     go_wp2
     go_ret
     exact⟨by rw[HR.out];rfl,HGW.out⟩
end Go.Proofs.Ytnlpbgljaecdmaa
