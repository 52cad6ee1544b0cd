/- The residual arcs, of the program and of the reference. -/
import Derived.Test.YtnlpbgljaecdmaaKArc0
import Derived.Deep.RegionHeld3
namespace Go.Proofs.Ytnlpbgljaecdmaa
open Go.RowKit
set_option maxHeartbeats 16000000
set_option maxRecDepth 100000
set_option linter.unusedSimpArgs false
set_option linter.unusedVariables false
theorem own_ne{w:World}{base:Nat}{e:TypeId}{sz n b:Nat}{v:Value}{xs:List Value}(h:w.ownsRow base e sz v n xs)(hb:w.heap.size≤b):v.ownBlock≠some b:=fun hq=>by
 have:=(h.lt b hq).2;omega
theorem cellKept{w w':World}{row:Option Nat}(hg:w.grownBy w' row){b o:Nat}{u:Value}(hr:row≠some b)(h:w.cell? ⟨b,o,none⟩=some u):w'.cell? ⟨b,o,none⟩=some u:=by
 rw[World.cell?_of_block (w:=w) (a:=⟨b,o,none⟩) (hg.block b (lt_of_cell h) (fun q=>hr q.symm))];exact h
theorem cell_back{w w':World}(hg:Grow w w'){b o:Nat}{u:Value}(hb:b<w.heap.size)(h:w'.cell? ⟨b,o,none⟩=some u):w.cell? ⟨b,o,none⟩=some u:=by rw[←(bcell hg).1 b o hb];exact h
theorem one_arc(a b c d e:Int):∀u∈[Value.int .i64 a,.int .i64 b,.int .i64 c,.int .i64 d,.int .i64 e],u.oneCell'=true:=by
 intro u hu
 simp only[List.mem_cons,List.not_mem_nil,or_false]at hu
 rcases hu with rfl|rfl|rfl|rfl|rfl<;>rfl
theorem infoArc_impl:(Try.prog.info? 82).map (fun i=>(i.zero,i.size,i.bytes))=some (some (.agg #[.int .i64 0,.int .i64 0,.int .i64 0,.int .i64 0,.int .i64 0]),5,40):=by kernel_rfl
theorem impl_arcs_c(x:Graph)(a0:Option Addr)(c0:Nat)(f:List Int)(a1:Option Addr)(c1:Nat)(w:World)(h0:SlR 4 repEdge w 0 w.heap.size (.slice a0 x.edges.length c0) x.edges)(h1:SlR 1 repInt w 0 w.heap.size (.slice a1 f.length c1) f)(hok:flowOk x f=true) :
 Calls Try.prog 41 #[.agg #[.int .i64 x.n,.slice a0 x.edges.length c0],.slice a1 f.length c1] w fun e w'=>∃a c,e=.returned (.slice a (arcsOf x f).length c)∧Grow w w'∧SlR 5 repArc w' w.heap.size w'.heap.size (.slice a (arcsOf x f).length c) (arcsOf x f):=by
 obtain⟨i0,hi0,hz0,hz1,hz2⟩:=info_parts infoArc_impl
 have HFI:=Lib.hid (arcs_fine hok)
 have HAL:=Lib.hid (arcsOf_len hok)
 obtain⟨n1,n2,g2,hlen,he,hp,_⟩:=flowOk_facts hok
 have HE:=Lib.hid he;have HPP:=Lib.hid hp;have HLEN:=Lib.hid hlen
 clear he hp hok
 have hf60:f.length≤60:=by omega
 have hzl:(x.edges.zip f).length=x.edges.length:=by simp;omega
 have HZL:=Lib.hid hzl;clear hzl hlen
 have H0:=Lib.hid h0;have H1:=Lib.hid h1
 clear h0 h1
 go_enter Try.func41,Try.ntmps41
 go_wp2_with fail
 obtain⟨V1,hV⟩:∃V,V=(w.alloc (.cells #[.int .i64 x.n,.slice a0 x.edges.length c0] 36)):=⟨_,rfl⟩
 have G':Grow w V1:=by rw[hV];exact((Grow.refl w).alloc _ _)
 have gs:Grow w V1:=by rw[hV];exact((Grow.refl w).alloc _ _)
 have B0:Box V1 (w.heap.size) [.int .i64 x.n,.slice a0 x.edges.length c0]:=by rw[hV];exact Box.newAt (by simp) _ _
 have ys:V1.heap.size=w.heap.size+1:=by rw[hV];simp
 have G:=G'
 clear G'
 rw[←hV]
 clear hV
 clear gs
 have z0:=B0.lt
 have q0_0:V1.cell? ⟨w.heap.size,0,none⟩=some (.int .i64 x.n):=B0.c 0 _ rfl
 have q0_1:V1.cell? ⟨w.heap.size,1,none⟩=some (.slice a0 x.edges.length c0):=B0.c 1 _ rfl
 have f0:=B0.f
 clear z0 q0_0 q0_1 f0
 have GW:=Grow.refl V1
 have hed:x.edges.length≤60:=g2
 go_loopg [5,11] x.edges.length (fun g v i wr=>∃k:Nat,k+g=x.edges.length∧i=.int .i64 k∧Grow V1 wr∧wr.ownsRow V1.heap.size 82 5 v (arcsK (x.edges.zip f) k).length ((arcsK (x.edges.zip f) k).flatMap encArc))
 case atStart=>exact⟨0,by simp,rfl,GW,World.ownsRow_nil _ _ _ _⟩
 case round=>
  obtain⟨k,hk,rfl,hg,hown⟩:=hrel
  have HOWN:=Lib.hid hown;clear hown
  obtain⟨R2,rfl⟩:∃V,V=wr:=⟨_,rfl⟩
  have HGW:=Lib.hid hg
  replace B0:=B0.grow hg
  have G0:=Lib.hid G
  replace G:=G0.out.trans hg
  clear hg
  by_cases hlt:k<x.edges.length
  ·have HK:=Lib.hid hk;clear hk
   have hltf:k<f.length:=by have:=HLEN.out;omega
   have hltz:k<(x.edges.zip f).length:=by have:=HZL.out;omega
   have HM:Hid (arcsK (x.edges.zip f) (k+1)=arcsK (x.edges.zip f) k++(arcUp k (x.edges[k],f[k])++arcDn k (x.edges[k],f[k]))):=by
    show _=_
    rw[arcsK_succ hltz,List.getElem_zip];rfl
   have HL:Hid ((arcsK (x.edges.zip f) k).length≤120):=by
    show _≤_
    have:=arcsK_len (x.edges.zip f) k
    omega
   have hbf:=HPP.out (x.edges[k],f[k]) (by
    have:(x.edges.zip f)[k]=(x.edges[k],f[k]):=List.getElem_zip
    rw[←this];exact List.getElem_mem _)
   have hbe:=edgeOk_iff.1 (HE.out _ (List.getElem_mem hlt))
   simp only at hbf
   have z0:=B0.lt
   have q0_0:R2.cell? ⟨w.heap.size,0,none⟩=some (.int .i64 x.n):=B0.c 0 _ rfl
   have q0_1:R2.cell? ⟨w.heap.size,1,none⟩=some (.slice a0 x.edges.length c0):=B0.c 1 _ rfl
   have f0:=B0.f
   obtain⟨b_e,off_e,ha_e,hb1_e,hb2_e,hel_e⟩:=H0.out.elems k hlt
   obtain⟨ee0,ee1,ee2,ee3,-⟩:=Edge.atCell (hel_e.same repEdge_stable (G.same (Nat.le_refl _)) hb1_e hb2_e) k hlt
   subst ha_e
   clear hel_e
   obtain⟨b_v,off_v,ha_v,hb1_v,hb2_v,hel_v⟩:=H1.out.elems k hltf
   obtain⟨ev0,-⟩:=Int.atCell (hel_v.same repInt_stable (G.same (Nat.le_refl _)) hb1_v hb2_v) k hltf
   subst ha_v
   clear hel_v
   generalize x.edges[k]=e at *
   generalize f[k]=v at *
   generalize hks:arcsK (x.edges.zip f) k=ks at *
   have HKS:=Lib.hid hks;clear hks
   obtain⟨p1,p2,p3,p4,p5,p6,p7,p8,p9⟩:=hbe
   obtain⟨f1_,f2_⟩:=hbf
   have hq1:IntKind.i64.wrap (2*(k:Int))=2*(k:Int):=by rw[IntKind.wrap_i64];omega
   have hq2:IntKind.i64.wrap (2*(k:Int)+1)=2*(k:Int)+1:=by rw[IntKind.wrap_i64];omega
   have hq3:IntKind.i64.wrap (e.cap-v)=e.cap-v:=by rw[IntKind.wrap_i64];omega
   have hq4:IntKind.i64.wrap (-e.cost)=-e.cost:=by rw[IntKind.wrap_i64];omega
   have hk0:(0:Int)≤(k:Int):=by omega
   have hk60:(k:Int)<60:=by omega
   have hkf:(k:Int)<(f.length:Int):=by omega
   go_wp2_with fail
   have HNE:Hid (u5.ownBlock≠some R2.heap.size):=own_ne HOWN.out (Nat.le_refl _)
   obtain⟨V,hV⟩:∃V,V=(R2.alloc (.cells #[.int .i64 e.frm,.int .i64 e.to,.int .i64 e.cap,.int .i64 e.cost] 40)):=⟨_,rfl⟩
   have gs:Grow R2 V:=by rw[hV];exact((Grow.refl R2).alloc _ _)
   clear z0 q0_0 q0_1 f0
   replace B0:=B0.grow gs
   have B1:Box V R2.heap.size [.int .i64 e.frm,.int .i64 e.to,.int .i64 e.cap,.int .i64 e.cost]:=by rw[hV];exact Box.newAt (by simp) _ _
   have HOV:=Lib.hid (own_grow HOWN.out gs)
   have HGV:=Lib.hid (HGW.out.trans gs)
   replace G:=G.trans gs
   replace ev0:=cellGrow gs ev0
   rw[←hV]
   clear hV gs
   have z0:=B0.lt
   have z1:=B1.lt
   have q0_0:V.cell? ⟨w.heap.size,0,none⟩=some (.int .i64 x.n):=B0.c 0 _ rfl
   have q0_1:V.cell? ⟨w.heap.size,1,none⟩=some (.slice (some ⟨b_e,off_e,none⟩) x.edges.length c0):=B0.c 1 _ rfl
   have f0:=B0.f
   have q1_0:V.cell? ⟨R2.heap.size,0,none⟩=some (.int .i64 e.frm):=B1.c 0 _ rfl
   have q1_1:V.cell? ⟨R2.heap.size,1,none⟩=some (.int .i64 e.to):=B1.c 1 _ rfl
   have q1_2:V.cell? ⟨R2.heap.size,2,none⟩=some (.int .i64 e.cap):=B1.c 2 _ rfl
   have q1_3:V.cell? ⟨R2.heap.size,3,none⟩=some (.int .i64 e.cost):=B1.c 3 _ rfl
   have f1:=B1.f
   by_cases t1:v<e.cap
   ·have HT1:=Lib.hid (arcUp_yes (i:=k) (p:=(e,v)) t1)
    have T1:decide (v<e.cap)=true:=by simpa using t1
    by_cases t2:0<v
    ·have HT2:=Lib.hid (arcDn_yes (i:=k) (p:=(e,v)) t2)
     have T2:decide (0<v)=true:=by simpa using t2
     go_quiet (fail)
     go_wp2_with fail
     have gs:Grow V (V.drewN nq):=(Grow.refl V).drewN _
     obtain⟨U,hU⟩:∃U,U=V.drewN nq:=⟨_,rfl⟩
     rw[←hU]at gs ⊢
     clear hU
     clear z0 z1 q0_0 q0_1 f0 q1_0 q1_1 q1_2 q1_3 f1
     replace B0:=B0.grow gs
     replace B1:=B1.grow gs
     have HOU:=Lib.hid (own_grow HOV.out gs)
     have HGU:=Lib.hid (HGV.out.trans gs)
     replace G:=G.trans gs
     replace ev0:=cellGrow gs ev0
     clear gs
     have z0:=B0.lt
     have z1:=B1.lt
     have q0_0:U.cell? ⟨w.heap.size,0,none⟩=some (.int .i64 x.n):=B0.c 0 _ rfl
     have q0_1:U.cell? ⟨w.heap.size,1,none⟩=some (.slice (some ⟨b_e,off_e,none⟩) x.edges.length c0):=B0.c 1 _ rfl
     have f0:=B0.f
     have q1_0:U.cell? ⟨R2.heap.size,0,none⟩=some (.int .i64 e.frm):=B1.c 0 _ rfl
     have q1_1:U.cell? ⟨R2.heap.size,1,none⟩=some (.int .i64 e.to):=B1.c 1 _ rfl
     have q1_2:U.cell? ⟨R2.heap.size,2,none⟩=some (.int .i64 e.cap):=B1.c 2 _ rfl
     have q1_3:U.cell? ⟨R2.heap.size,3,none⟩=some (.int .i64 e.cost):=B1.c 3 _ rfl
     have f1:=B1.f
     go_region_held3 (fun W=>W.cell? ⟨R2.heap.size,0,none⟩=some (.int .i64 e.frm)∧W.cell? ⟨R2.heap.size,1,none⟩=some (.int .i64 e.to)∧W.cell? ⟨R2.heap.size,2,none⟩=some (.int .i64 e.cap)∧W.cell? ⟨R2.heap.size,3,none⟩=some (.int .i64 e.cost)∧W.cell? ⟨b_v,off_v+k,none⟩=some (.int .i64 v))
      (first
        |exact⟨q1_0,q1_1,q1_2,q1_3,ev0⟩
        |exact⟨cellAlloc (w:=U.drew) q1_0 _,cellAlloc (w:=U.drew) q1_1 _,cellAlloc (w:=U.drew) q1_2 _,cellAlloc (w:=U.drew) q1_3 _,cellAlloc (w:=U.drew) ev0 _⟩
        |exact⟨r1_0,r1_1,r1_2,r1_3,rv1⟩)
      (first
        |(refine step_append_g rfl (.tmp 23) (.tmp 40) 79 rfl V1 (show Grow V1 _ by refine Grow.trans HGU.out (b:=U) ?_;repeat (first|exact Grow.refl _|(refine Grow.alloc ?_ _ _)|(refine Grow.drew ?_))) 82 i0 _ 5 40 Try.underlying79 hi0 hz0 hz1 hz2 rfl (by omega) u5 ks.length (ks.flatMap encArc) rfl (own_grow HOU.out (show Grow U _ by repeat (first|exact Grow.refl _|(refine Grow.alloc ?_ _ _)|(refine Grow.drew ?_)))) ⟨U.heap.size,0,none⟩ 1 1 [.int .i64 (2*(k:Int)),.int .i64 e.frm,.int .i64 e.to,.int .i64 (e.cap-v),.int .i64 e.cost] rfl rfl (news_of _ _ _ _ (by simp[hq1,hq2,hq3,hq4])) (one_arc _ _ _ _ _) (by have:=HL.out;simp only[maxLen];(try simp only[List.length_append,List.length_cons,List.length_nil]);omega) (by have:=HL.out;(try simp only[List.length_append,List.length_cons,List.length_nil]);omega) ?_
          intro v1 w1 hown' hg' hgb hat
          have HOWN1:=Lib.hid (own_snocF (f:=encArc) (y:=(⟨2*(k:Int),e.frm,e.to,e.cap-v,e.cost⟩:Arc)) hown');have HG1:=Lib.hid hg';have HGB1:=Lib.hid hgb;have hat_:=hat;clear hown' hg' hgb hat
          have gx:∀ {b o:Nat} {u:Value},b=R2.heap.size→U.cell? ⟨b,o,none⟩=some u→w1.cell? ⟨b,o,none⟩=some u:=fun hb h=>cellKept HGB1.out (by rw[hb];exact HNE.out) (cellGrow (show Grow U _ by repeat (first|exact Grow.refl _|(refine Grow.alloc ?_ _ _)|(refine Grow.drew ?_))) h)
          have r1_0:w1.cell? ⟨R2.heap.size,0,none⟩=some (.int .i64 e.frm):=gx rfl q1_0
          have r1_1:w1.cell? ⟨R2.heap.size,1,none⟩=some (.int .i64 e.to):=gx rfl q1_1
          have r1_2:w1.cell? ⟨R2.heap.size,2,none⟩=some (.int .i64 e.cap):=gx rfl q1_2
          have r1_3:w1.cell? ⟨R2.heap.size,3,none⟩=some (.int .i64 e.cost):=gx rfl q1_3
          have rv1:w1.cell? ⟨b_v,off_v+k,none⟩=some (.int .i64 v):=cellGrow (w:=V1) HG1.out (cell_back HGU.out (by have:=G0.out.size;omega) ev0)
          have zw1:R2.heap.size<w1.heap.size:=lt_of_cell r1_0
          have zv1:b_v<w1.heap.size:=lt_of_cell rv1
          have HNE1:Hid (v1.ownBlock≠some R2.heap.size):=fun q=>by
           rcases hat_ with h|h
           ·rw[h]at q;exact HNE.out q
           ·rw[h]at q;injection q with q;have:R2.heap.size<U.heap.size:=z1;simp only[World.size_alloc,World.size_drew]at q;omega
          clear hat_ gx))
     go_wp2_with fail
     clear z0 z1 q0_0 q0_1 f0 q1_0 q1_1 q1_2 q1_3 f1
     go_region_held3 (fun W=>W.cell? ⟨R2.heap.size,0,none⟩=some (.int .i64 e.frm)∧W.cell? ⟨R2.heap.size,1,none⟩=some (.int .i64 e.to)∧W.cell? ⟨R2.heap.size,2,none⟩=some (.int .i64 e.cap)∧W.cell? ⟨R2.heap.size,3,none⟩=some (.int .i64 e.cost)∧W.cell? ⟨b_v,off_v+k,none⟩=some (.int .i64 v))
      (first
        |exact⟨r1_0,r1_1,r1_2,r1_3,rv1⟩
        |exact⟨cellAlloc (w:=w1.drew) r1_0 _,cellAlloc (w:=w1.drew) r1_1 _,cellAlloc (w:=w1.drew) r1_2 _,cellAlloc (w:=w1.drew) r1_3 _,cellAlloc (w:=w1.drew) rv1 _⟩
        |exact⟨r2_0,r2_1,r2_2,r2_3,rv2⟩)
      (first
        |(refine step_append_g rfl (.tmp 47) (.tmp 63) 79 rfl V1 (show Grow V1 _ by refine Grow.trans HG1.out (b:=w1) ?_;repeat (first|exact Grow.refl _|(refine Grow.alloc ?_ _ _)|(refine Grow.drew ?_))) 82 i0 _ 5 40 Try.underlying79 hi0 hz0 hz1 hz2 rfl (by omega) v1 (ks++[(⟨2*(k:Int),e.frm,e.to,e.cap-v,e.cost⟩:Arc)]).length ((ks++[(⟨2*(k:Int),e.frm,e.to,e.cap-v,e.cost⟩:Arc)]).flatMap encArc) rfl (own_grow HOWN1.out (show Grow w1 _ by repeat (first|exact Grow.refl _|(refine Grow.alloc ?_ _ _)|(refine Grow.drew ?_)))) ⟨w1.heap.size,0,none⟩ 1 1 [.int .i64 (2*(k:Int)+1),.int .i64 e.to,.int .i64 e.frm,.int .i64 v,.int .i64 (-e.cost)] rfl rfl (news_of _ _ _ _ (by simp[hq1,hq2,hq3,hq4])) (one_arc _ _ _ _ _) (by have:=HL.out;simp only[maxLen];(try simp only[List.length_append,List.length_cons,List.length_nil]);omega) (by have:=HL.out;(try simp only[List.length_append,List.length_cons,List.length_nil]);omega) ?_
          intro v2 w2 hown' hg' hgb hat
          have HOWN2:=Lib.hid (own_snocF (f:=encArc) (y:=(⟨2*(k:Int)+1,e.to,e.frm,v,-e.cost⟩:Arc)) hown');have HG2:=Lib.hid hg';have HGB2:=Lib.hid hgb;have hat_:=hat;clear hown' hg' hgb hat
          have gx:∀ {b o:Nat} {u:Value},b=R2.heap.size→w1.cell? ⟨b,o,none⟩=some u→w2.cell? ⟨b,o,none⟩=some u:=fun hb h=>cellKept HGB2.out (by rw[hb];exact HNE1.out) (cellGrow (show Grow w1 _ by repeat (first|exact Grow.refl _|(refine Grow.alloc ?_ _ _)|(refine Grow.drew ?_))) h)
          have r2_0:w2.cell? ⟨R2.heap.size,0,none⟩=some (.int .i64 e.frm):=gx rfl r1_0
          have r2_1:w2.cell? ⟨R2.heap.size,1,none⟩=some (.int .i64 e.to):=gx rfl r1_1
          have r2_2:w2.cell? ⟨R2.heap.size,2,none⟩=some (.int .i64 e.cap):=gx rfl r1_2
          have r2_3:w2.cell? ⟨R2.heap.size,3,none⟩=some (.int .i64 e.cost):=gx rfl r1_3
          have rv2:w2.cell? ⟨b_v,off_v+k,none⟩=some (.int .i64 v):=cellGrow (w:=V1) HG2.out (cell_back HGU.out (by have:=G0.out.size;omega) ev0)))
     go_wp2_with fail
     go_roundg (x.edges.length-(k+1))
     case measure=>have:=HK.out;omega
     case rel=>exact⟨k+1,by have:=HK.out;omega,by go_num,HG2.out,by rw[HM.out,HT1.out,HT2.out];simpa using HOWN2.out⟩
    ·have HT2:=Lib.hid (arcDn_no (i:=k) (p:=(e,v)) t2)
     have T2:decide (0<v)=false:=by simpa using t2
     go_quiet (fail)
     go_wp2_with fail
     have gs:Grow V (V.drewN nq):=(Grow.refl V).drewN _
     obtain⟨U,hU⟩:∃U,U=V.drewN nq:=⟨_,rfl⟩
     rw[←hU]at gs ⊢
     clear hU
     clear z0 z1 q0_0 q0_1 f0 q1_0 q1_1 q1_2 q1_3 f1
     replace B0:=B0.grow gs
     replace B1:=B1.grow gs
     have HOU:=Lib.hid (own_grow HOV.out gs)
     have HGU:=Lib.hid (HGV.out.trans gs)
     replace G:=G.trans gs
     replace ev0:=cellGrow gs ev0
     clear gs
     have z0:=B0.lt
     have z1:=B1.lt
     have q0_0:U.cell? ⟨w.heap.size,0,none⟩=some (.int .i64 x.n):=B0.c 0 _ rfl
     have q0_1:U.cell? ⟨w.heap.size,1,none⟩=some (.slice (some ⟨b_e,off_e,none⟩) x.edges.length c0):=B0.c 1 _ rfl
     have f0:=B0.f
     have q1_0:U.cell? ⟨R2.heap.size,0,none⟩=some (.int .i64 e.frm):=B1.c 0 _ rfl
     have q1_1:U.cell? ⟨R2.heap.size,1,none⟩=some (.int .i64 e.to):=B1.c 1 _ rfl
     have q1_2:U.cell? ⟨R2.heap.size,2,none⟩=some (.int .i64 e.cap):=B1.c 2 _ rfl
     have q1_3:U.cell? ⟨R2.heap.size,3,none⟩=some (.int .i64 e.cost):=B1.c 3 _ rfl
     have f1:=B1.f
     go_region_held3 (fun W=>W.cell? ⟨R2.heap.size,0,none⟩=some (.int .i64 e.frm)∧W.cell? ⟨R2.heap.size,1,none⟩=some (.int .i64 e.to)∧W.cell? ⟨R2.heap.size,2,none⟩=some (.int .i64 e.cap)∧W.cell? ⟨R2.heap.size,3,none⟩=some (.int .i64 e.cost)∧W.cell? ⟨b_v,off_v+k,none⟩=some (.int .i64 v))
      (first
        |exact⟨q1_0,q1_1,q1_2,q1_3,ev0⟩
        |exact⟨cellAlloc (w:=U.drew) q1_0 _,cellAlloc (w:=U.drew) q1_1 _,cellAlloc (w:=U.drew) q1_2 _,cellAlloc (w:=U.drew) q1_3 _,cellAlloc (w:=U.drew) ev0 _⟩
        |exact⟨r1_0,r1_1,r1_2,r1_3,rv1⟩)
      (first
        |(refine step_append_g rfl (.tmp 23) (.tmp 40) 79 rfl V1 (show Grow V1 _ by refine Grow.trans HGU.out (b:=U) ?_;repeat (first|exact Grow.refl _|(refine Grow.alloc ?_ _ _)|(refine Grow.drew ?_))) 82 i0 _ 5 40 Try.underlying79 hi0 hz0 hz1 hz2 rfl (by omega) u5 ks.length (ks.flatMap encArc) rfl (own_grow HOU.out (show Grow U _ by repeat (first|exact Grow.refl _|(refine Grow.alloc ?_ _ _)|(refine Grow.drew ?_)))) ⟨U.heap.size,0,none⟩ 1 1 [.int .i64 (2*(k:Int)),.int .i64 e.frm,.int .i64 e.to,.int .i64 (e.cap-v),.int .i64 e.cost] rfl rfl (news_of _ _ _ _ (by simp[hq1,hq2,hq3,hq4])) (one_arc _ _ _ _ _) (by have:=HL.out;simp only[maxLen];(try simp only[List.length_append,List.length_cons,List.length_nil]);omega) (by have:=HL.out;(try simp only[List.length_append,List.length_cons,List.length_nil]);omega) ?_
          intro v1 w1 hown' hg' hgb hat
          have HOWN1:=Lib.hid (own_snocF (f:=encArc) (y:=(⟨2*(k:Int),e.frm,e.to,e.cap-v,e.cost⟩:Arc)) hown');have HG1:=Lib.hid hg';have HGB1:=Lib.hid hgb;have hat_:=hat;clear hown' hg' hgb hat
          have gx:∀ {b o:Nat} {u:Value},b=R2.heap.size→U.cell? ⟨b,o,none⟩=some u→w1.cell? ⟨b,o,none⟩=some u:=fun hb h=>cellKept HGB1.out (by rw[hb];exact HNE.out) (cellGrow (show Grow U _ by repeat (first|exact Grow.refl _|(refine Grow.alloc ?_ _ _)|(refine Grow.drew ?_))) h)
          have r1_0:w1.cell? ⟨R2.heap.size,0,none⟩=some (.int .i64 e.frm):=gx rfl q1_0
          have r1_1:w1.cell? ⟨R2.heap.size,1,none⟩=some (.int .i64 e.to):=gx rfl q1_1
          have r1_2:w1.cell? ⟨R2.heap.size,2,none⟩=some (.int .i64 e.cap):=gx rfl q1_2
          have r1_3:w1.cell? ⟨R2.heap.size,3,none⟩=some (.int .i64 e.cost):=gx rfl q1_3
          have rv1:w1.cell? ⟨b_v,off_v+k,none⟩=some (.int .i64 v):=cellGrow (w:=V1) HG1.out (cell_back HGU.out (by have:=G0.out.size;omega) ev0)
          have zw1:R2.heap.size<w1.heap.size:=lt_of_cell r1_0
          have zv1:b_v<w1.heap.size:=lt_of_cell rv1
          have HNE1:Hid (v1.ownBlock≠some R2.heap.size):=fun q=>by
           rcases hat_ with h|h
           ·rw[h]at q;exact HNE.out q
           ·rw[h]at q;injection q with q;have:R2.heap.size<U.heap.size:=z1;simp only[World.size_alloc,World.size_drew]at q;omega
          clear hat_ gx))
     go_wp2_with fail
     clear z0 z1 q0_0 q0_1 f0 q1_0 q1_1 q1_2 q1_3 f1
     go_roundg (x.edges.length-(k+1))
     case measure=>have:=HK.out;omega
     case rel=>exact⟨k+1,by have:=HK.out;omega,by go_num,HG1.out,by rw[HM.out,HT1.out,HT2.out];simpa using HOWN1.out⟩
   ·have HT1:=Lib.hid (arcUp_no (i:=k) (p:=(e,v)) t1)
    have T1:decide (v<e.cap)=false:=by simpa using t1
    by_cases t2:0<v
    ·have HT2:=Lib.hid (arcDn_yes (i:=k) (p:=(e,v)) t2)
     have T2:decide (0<v)=true:=by simpa using t2
     go_quiet (fail)
     go_wp2_with fail
     have gs:Grow V (V.drewN nq):=(Grow.refl V).drewN _
     obtain⟨U,hU⟩:∃U,U=V.drewN nq:=⟨_,rfl⟩
     rw[←hU]at gs ⊢
     clear hU
     clear z0 z1 q0_0 q0_1 f0 q1_0 q1_1 q1_2 q1_3 f1
     replace B0:=B0.grow gs
     replace B1:=B1.grow gs
     have HOU:=Lib.hid (own_grow HOV.out gs)
     have HGU:=Lib.hid (HGV.out.trans gs)
     replace G:=G.trans gs
     replace ev0:=cellGrow gs ev0
     clear gs
     have z0:=B0.lt
     have z1:=B1.lt
     have q0_0:U.cell? ⟨w.heap.size,0,none⟩=some (.int .i64 x.n):=B0.c 0 _ rfl
     have q0_1:U.cell? ⟨w.heap.size,1,none⟩=some (.slice (some ⟨b_e,off_e,none⟩) x.edges.length c0):=B0.c 1 _ rfl
     have f0:=B0.f
     have q1_0:U.cell? ⟨R2.heap.size,0,none⟩=some (.int .i64 e.frm):=B1.c 0 _ rfl
     have q1_1:U.cell? ⟨R2.heap.size,1,none⟩=some (.int .i64 e.to):=B1.c 1 _ rfl
     have q1_2:U.cell? ⟨R2.heap.size,2,none⟩=some (.int .i64 e.cap):=B1.c 2 _ rfl
     have q1_3:U.cell? ⟨R2.heap.size,3,none⟩=some (.int .i64 e.cost):=B1.c 3 _ rfl
     have f1:=B1.f
     go_region_held3 (fun W=>W.cell? ⟨R2.heap.size,0,none⟩=some (.int .i64 e.frm)∧W.cell? ⟨R2.heap.size,1,none⟩=some (.int .i64 e.to)∧W.cell? ⟨R2.heap.size,2,none⟩=some (.int .i64 e.cap)∧W.cell? ⟨R2.heap.size,3,none⟩=some (.int .i64 e.cost)∧W.cell? ⟨b_v,off_v+k,none⟩=some (.int .i64 v))
      (first
        |exact⟨q1_0,q1_1,q1_2,q1_3,ev0⟩
        |exact⟨cellAlloc (w:=U.drew) q1_0 _,cellAlloc (w:=U.drew) q1_1 _,cellAlloc (w:=U.drew) q1_2 _,cellAlloc (w:=U.drew) q1_3 _,cellAlloc (w:=U.drew) ev0 _⟩
        |exact⟨r1_0,r1_1,r1_2,r1_3,rv1⟩)
      (first
        |(refine step_append_g rfl (.tmp 47) (.tmp 63) 79 rfl V1 (show Grow V1 _ by refine Grow.trans HGU.out (b:=U) ?_;repeat (first|exact Grow.refl _|(refine Grow.alloc ?_ _ _)|(refine Grow.drew ?_))) 82 i0 _ 5 40 Try.underlying79 hi0 hz0 hz1 hz2 rfl (by omega) u5 ks.length (ks.flatMap encArc) rfl (own_grow HOU.out (show Grow U _ by repeat (first|exact Grow.refl _|(refine Grow.alloc ?_ _ _)|(refine Grow.drew ?_)))) ⟨U.heap.size,0,none⟩ 1 1 [.int .i64 (2*(k:Int)+1),.int .i64 e.to,.int .i64 e.frm,.int .i64 v,.int .i64 (-e.cost)] rfl rfl (news_of _ _ _ _ (by simp[hq1,hq2,hq3,hq4])) (one_arc _ _ _ _ _) (by have:=HL.out;simp only[maxLen];(try simp only[List.length_append,List.length_cons,List.length_nil]);omega) (by have:=HL.out;(try simp only[List.length_append,List.length_cons,List.length_nil]);omega) ?_
          intro v1 w1 hown' hg' hgb hat
          have HOWN1:=Lib.hid (own_snocF (f:=encArc) (y:=(⟨2*(k:Int)+1,e.to,e.frm,v,-e.cost⟩:Arc)) hown');have HG1:=Lib.hid hg';have HGB1:=Lib.hid hgb;have hat_:=hat;clear hown' hg' hgb hat
          have gx:∀ {b o:Nat} {u:Value},b=R2.heap.size→U.cell? ⟨b,o,none⟩=some u→w1.cell? ⟨b,o,none⟩=some u:=fun hb h=>cellKept HGB1.out (by rw[hb];exact HNE.out) (cellGrow (show Grow U _ by repeat (first|exact Grow.refl _|(refine Grow.alloc ?_ _ _)|(refine Grow.drew ?_))) h)
          have r1_0:w1.cell? ⟨R2.heap.size,0,none⟩=some (.int .i64 e.frm):=gx rfl q1_0
          have r1_1:w1.cell? ⟨R2.heap.size,1,none⟩=some (.int .i64 e.to):=gx rfl q1_1
          have r1_2:w1.cell? ⟨R2.heap.size,2,none⟩=some (.int .i64 e.cap):=gx rfl q1_2
          have r1_3:w1.cell? ⟨R2.heap.size,3,none⟩=some (.int .i64 e.cost):=gx rfl q1_3
          have rv1:w1.cell? ⟨b_v,off_v+k,none⟩=some (.int .i64 v):=cellGrow (w:=V1) HG1.out (cell_back HGU.out (by have:=G0.out.size;omega) ev0)))
     go_wp2_with fail
     clear z0 z1 q0_0 q0_1 f0 q1_0 q1_1 q1_2 q1_3 f1
     go_roundg (x.edges.length-(k+1))
     case measure=>have:=HK.out;omega
     case rel=>exact⟨k+1,by have:=HK.out;omega,by go_num,HG1.out,by rw[HM.out,HT1.out,HT2.out];simpa using HOWN1.out⟩
    ·have HT2:=Lib.hid (arcDn_no (i:=k) (p:=(e,v)) t2)
     have T2:decide (0<v)=false:=by simpa using t2
     go_quiet (fail)
     go_wp2_with fail
     have gs:Grow V (V.drewN nq):=(Grow.refl V).drewN _
     obtain⟨U,hU⟩:∃U,U=V.drewN nq:=⟨_,rfl⟩
     rw[←hU]at gs ⊢
     clear hU
     clear z0 z1 q0_0 q0_1 f0 q1_0 q1_1 q1_2 q1_3 f1
     replace B0:=B0.grow gs
     replace B1:=B1.grow gs
     have HOU:=Lib.hid (own_grow HOV.out gs)
     have HGU:=Lib.hid (HGV.out.trans gs)
     replace G:=G.trans gs
     replace ev0:=cellGrow gs ev0
     clear gs
     have z0:=B0.lt
     have z1:=B1.lt
     have q0_0:U.cell? ⟨w.heap.size,0,none⟩=some (.int .i64 x.n):=B0.c 0 _ rfl
     have q0_1:U.cell? ⟨w.heap.size,1,none⟩=some (.slice (some ⟨b_e,off_e,none⟩) x.edges.length c0):=B0.c 1 _ rfl
     have f0:=B0.f
     have q1_0:U.cell? ⟨R2.heap.size,0,none⟩=some (.int .i64 e.frm):=B1.c 0 _ rfl
     have q1_1:U.cell? ⟨R2.heap.size,1,none⟩=some (.int .i64 e.to):=B1.c 1 _ rfl
     have q1_2:U.cell? ⟨R2.heap.size,2,none⟩=some (.int .i64 e.cap):=B1.c 2 _ rfl
     have q1_3:U.cell? ⟨R2.heap.size,3,none⟩=some (.int .i64 e.cost):=B1.c 3 _ rfl
     have f1:=B1.f
     go_roundg (x.edges.length-(k+1))
     case measure=>have:=HK.out;omega
     case rel=>exact⟨k+1,by have:=HK.out;omega,by go_num,HGU.out,by rw[HM.out,HT1.out,HT2.out];simpa using HOU.out⟩
  ·have hke:k=x.edges.length:=by omega
   have hown:=HOWN.out
   have hke2:arcsK (x.edges.zip f) k=arcsOf x f:=by rw[hke,←HZL.out];rfl
   rw[hke2]at hown
   have hsl:SlR 5 repArc R2 V1.heap.size R2.heap.size u5 (arcsOf x f):=SlR.of_own length_encArc hown (fun y hy=>⟨rfl,(HFI.out y hy).wf n2⟩)
   have hsl:=hsl.stable repArc_stable (Same.refl _ _ _) (lo':=w.heap.size) (by have:=G0.out.size;omega) (Nat.le_refl _)
   have hsl':=hsl
   obtain⟨av,cv,rfl,_,_,_⟩:=hsl'
   have HSL:=Lib.hid hsl
   clear hke hke2 hown HOWN hsl
   have z0:=B0.lt
   have q0_0:R2.cell? ⟨w.heap.size,0,none⟩=some (.int .i64 x.n):=B0.c 0 _ rfl
   have q0_1:R2.cell? ⟨w.heap.size,1,none⟩=some (.slice a0 x.edges.length c0):=B0.c 1 _ rfl
   have f0:=B0.f
   go_wp2_with fail
   go_ret
   exact⟨av,cv,rfl,G,HSL.out⟩
theorem infoArc_spec:(Try.prog.info? 90).map (fun i=>(i.zero,i.size,i.bytes))=some (some (.agg #[.int .i64 0,.int .i64 0,.int .i64 0,.int .i64 0,.int .i64 0]),5,40):=by kernel_rfl
theorem spec_arcs_c(x:Graph)(a0:Option Addr)(c0:Nat)(f:List Int)(a1:Option Addr)(c1:Nat)(w:World)(h0:SlR 4 repEdge w 0 w.heap.size (.slice a0 x.edges.length c0) x.edges)(h1:SlR 1 repInt w 0 w.heap.size (.slice a1 f.length c1) f)(hok:flowOk x f=true) :
 Calls Try.prog 50 #[.agg #[.int .i64 x.n,.slice a0 x.edges.length c0],.slice a1 f.length c1] w fun e w'=>∃a c,e=.returned (.slice a (arcsOf x f).length c)∧Grow w w'∧SlR 5 repArc w' w.heap.size w'.heap.size (.slice a (arcsOf x f).length c) (arcsOf x f):=by
 obtain⟨i0,hi0,hz0,hz1,hz2⟩:=info_parts infoArc_spec
 have HFI:=Lib.hid (arcs_fine hok)
 have HAL:=Lib.hid (arcsOf_len hok)
 obtain⟨n1,n2,g2,hlen,he,hp,_⟩:=flowOk_facts hok
 have HE:=Lib.hid he;have HPP:=Lib.hid hp;have HLEN:=Lib.hid hlen
 clear he hp hok
 have hf60:f.length≤60:=by omega
 have hzl:(x.edges.zip f).length=x.edges.length:=by simp;omega
 have HZL:=Lib.hid hzl;clear hzl hlen
 have H0:=Lib.hid h0;have H1:=Lib.hid h1
 clear h0 h1
 go_enter Try.func50,Try.ntmps50
 go_wp2_with fail
 obtain⟨V1,hV⟩:∃V,V=(w.alloc (.cells #[.int .i64 x.n,.slice a0 x.edges.length c0] 36)):=⟨_,rfl⟩
 have G':Grow w V1:=by rw[hV];exact((Grow.refl w).alloc _ _)
 have gs:Grow w V1:=by rw[hV];exact((Grow.refl w).alloc _ _)
 have B0:Box V1 (w.heap.size) [.int .i64 x.n,.slice a0 x.edges.length c0]:=by rw[hV];exact Box.newAt (by simp) _ _
 have ys:V1.heap.size=w.heap.size+1:=by rw[hV];simp
 have G:=G'
 clear G'
 rw[←hV]
 clear hV
 clear gs
 have z0:=B0.lt
 have q0_0:V1.cell? ⟨w.heap.size,0,none⟩=some (.int .i64 x.n):=B0.c 0 _ rfl
 have q0_1:V1.cell? ⟨w.heap.size,1,none⟩=some (.slice a0 x.edges.length c0):=B0.c 1 _ rfl
 have f0:=B0.f
 have GW:=Grow.refl V1
 have GV:=G
 have BV0:=Lib.hid B0
 obtain⟨V2,hV⟩:∃V,V=(V1.alloc (.cells #[] 90)):=⟨_,rfl⟩
 have G':Grow w V2:=by rw[hV];exact(G.alloc _ _)
 have gs:Grow V1 V2:=by rw[hV];exact((Grow.refl V1).alloc _ _)
 replace B0:Box V2 (w.heap.size) [.int .i64 x.n,.slice a0 x.edges.length c0]:=by rw[hV];exact(B0.alloc _ _)
 have B1:Box V2 (V1.heap.size) []:=by rw[hV];exact Box.newAt (by simp) _ _
 have ys:V2.heap.size=V1.heap.size+1:=by rw[hV];simp
 replace G:=G'
 clear G'
 have OWN0:V2.ownsRow V1.heap.size 90 5 (.slice (some ⟨w.heap.size+1,0,none⟩) 0 0) 0 []:=by
  have e:V1.heap.size=w.heap.size+1:=by omega
  rw[hV,show (⟨w.heap.size+1,0,none⟩:Addr)=⟨V1.heap.size,0,none⟩ by rw[e]]
  have hm:=World.ownsRow_made (base:=V1.heap.size) (e:=90) (size:=5) V1 #[] 0 (Nat.le_refl _) (by simp[maxLen]) (by simp)
  simpa using hm
 replace GW:=Grow.trans GW gs
 rw[←hV]
 clear hV
 clear gs
 clear z0 q0_0 q0_1 f0
 have z0:=B0.lt
 have z1:=B1.lt
 have q0_0:V2.cell? ⟨w.heap.size,0,none⟩=some (.int .i64 x.n):=B0.c 0 _ rfl
 have q0_1:V2.cell? ⟨w.heap.size,1,none⟩=some (.slice a0 x.edges.length c0):=B0.c 1 _ rfl
 have f0:=B0.f
 have f1:=B1.f
 clear z0 z1 q0_0 q0_1 f0 f1
 have hed:x.edges.length≤60:=g2
 go_wp2_with fail
 go_loopg [5,12] x.edges.length (fun g v i wr=>∃k:Nat,k+g=x.edges.length∧i=.int .i64 k∧Grow V1 wr∧wr.ownsRow V1.heap.size 90 5 v (arcsK (x.edges.zip f) k).length ((arcsK (x.edges.zip f) k).flatMap encArc))
 case atStart=>exact⟨0,by simp,rfl,GW,OWN0⟩
 case round=>
  obtain⟨k,hk,rfl,hg,hown⟩:=hrel
  have HOWN:=Lib.hid hown;clear hown
  obtain⟨R3,rfl⟩:∃V,V=wr:=⟨_,rfl⟩
  have HGW:=Lib.hid hg
  replace B0:=BV0.out.grow hg
  have G0:=Lib.hid GV
  replace G:=G0.out.trans hg
  clear hg
  by_cases hlt:k<x.edges.length
  ·have HK:=Lib.hid hk;clear hk
   have hltf:k<f.length:=by have:=HLEN.out;omega
   have hltz:k<(x.edges.zip f).length:=by have:=HZL.out;omega
   have HM:Hid (arcsK (x.edges.zip f) (k+1)=arcsK (x.edges.zip f) k++(arcUp k (x.edges[k],f[k])++arcDn k (x.edges[k],f[k]))):=by
    show _=_
    rw[arcsK_succ hltz,List.getElem_zip];rfl
   have HL:Hid ((arcsK (x.edges.zip f) k).length≤120):=by
    show _≤_
    have:=arcsK_len (x.edges.zip f) k
    omega
   have hbf:=HPP.out (x.edges[k],f[k]) (by
    have:(x.edges.zip f)[k]=(x.edges[k],f[k]):=List.getElem_zip
    rw[←this];exact List.getElem_mem _)
   have hbe:=edgeOk_iff.1 (HE.out _ (List.getElem_mem hlt))
   simp only at hbf
   have z0:=B0.lt
   have q0_0:R3.cell? ⟨w.heap.size,0,none⟩=some (.int .i64 x.n):=B0.c 0 _ rfl
   have q0_1:R3.cell? ⟨w.heap.size,1,none⟩=some (.slice a0 x.edges.length c0):=B0.c 1 _ rfl
   have f0:=B0.f
   obtain⟨b_e,off_e,ha_e,hb1_e,hb2_e,hel_e⟩:=H0.out.elems k hlt
   obtain⟨ee0,ee1,ee2,ee3,-⟩:=Edge.atCell (hel_e.same repEdge_stable (G.same (Nat.le_refl _)) hb1_e hb2_e) k hlt
   subst ha_e
   clear hel_e
   obtain⟨b_v,off_v,ha_v,hb1_v,hb2_v,hel_v⟩:=H1.out.elems k hltf
   obtain⟨ev0,-⟩:=Int.atCell (hel_v.same repInt_stable (G.same (Nat.le_refl _)) hb1_v hb2_v) k hltf
   subst ha_v
   clear hel_v
   generalize x.edges[k]=e at *
   generalize f[k]=v at *
   generalize hks:arcsK (x.edges.zip f) k=ks at *
   have HKS:=Lib.hid hks;clear hks
   obtain⟨p1,p2,p3,p4,p5,p6,p7,p8,p9⟩:=hbe
   obtain⟨f1_,f2_⟩:=hbf
   have hq1:IntKind.i64.wrap (2*(k:Int))=2*(k:Int):=by rw[IntKind.wrap_i64];omega
   have hq2:IntKind.i64.wrap (2*(k:Int)+1)=2*(k:Int)+1:=by rw[IntKind.wrap_i64];omega
   have hq3:IntKind.i64.wrap (e.cap-v)=e.cap-v:=by rw[IntKind.wrap_i64];omega
   have hq4:IntKind.i64.wrap (-e.cost)=-e.cost:=by rw[IntKind.wrap_i64];omega
   have hk0:(0:Int)≤(k:Int):=by omega
   have hk60:(k:Int)<60:=by omega
   have hkf:(k:Int)<(f.length:Int):=by omega
   go_wp2_with fail
   have HNE:Hid (u5.ownBlock≠some R3.heap.size):=own_ne HOWN.out (Nat.le_refl _)
   obtain⟨V,hV⟩:∃V,V=(R3.alloc (.cells #[.int .i64 e.frm,.int .i64 e.to,.int .i64 e.cap,.int .i64 e.cost] 40)):=⟨_,rfl⟩
   have gs:Grow R3 V:=by rw[hV];exact((Grow.refl R3).alloc _ _)
   clear z0 q0_0 q0_1 f0
   replace B0:=B0.grow gs
   have B1:Box V R3.heap.size [.int .i64 e.frm,.int .i64 e.to,.int .i64 e.cap,.int .i64 e.cost]:=by rw[hV];exact Box.newAt (by simp) _ _
   have HOV:=Lib.hid (own_grow HOWN.out gs)
   have HGV:=Lib.hid (HGW.out.trans gs)
   replace G:=G.trans gs
   replace ev0:=cellGrow gs ev0
   rw[←hV]
   clear hV gs
   have z0:=B0.lt
   have z1:=B1.lt
   have q0_0:V.cell? ⟨w.heap.size,0,none⟩=some (.int .i64 x.n):=B0.c 0 _ rfl
   have q0_1:V.cell? ⟨w.heap.size,1,none⟩=some (.slice (some ⟨b_e,off_e,none⟩) x.edges.length c0):=B0.c 1 _ rfl
   have f0:=B0.f
   have q1_0:V.cell? ⟨R3.heap.size,0,none⟩=some (.int .i64 e.frm):=B1.c 0 _ rfl
   have q1_1:V.cell? ⟨R3.heap.size,1,none⟩=some (.int .i64 e.to):=B1.c 1 _ rfl
   have q1_2:V.cell? ⟨R3.heap.size,2,none⟩=some (.int .i64 e.cap):=B1.c 2 _ rfl
   have q1_3:V.cell? ⟨R3.heap.size,3,none⟩=some (.int .i64 e.cost):=B1.c 3 _ rfl
   have f1:=B1.f
   by_cases t1:v<e.cap
   ·have HT1:=Lib.hid (arcUp_yes (i:=k) (p:=(e,v)) t1)
    have T1:decide (v<e.cap)=true:=by simpa using t1
    by_cases t2:0<v
    ·have HT2:=Lib.hid (arcDn_yes (i:=k) (p:=(e,v)) t2)
     have T2:decide (0<v)=true:=by simpa using t2
     go_quiet (fail)
     go_wp2_with fail
     have gs:Grow V (V.drewN nq):=(Grow.refl V).drewN _
     obtain⟨U,hU⟩:∃U,U=V.drewN nq:=⟨_,rfl⟩
     rw[←hU]at gs ⊢
     clear hU
     clear z0 z1 q0_0 q0_1 f0 q1_0 q1_1 q1_2 q1_3 f1
     replace B0:=B0.grow gs
     replace B1:=B1.grow gs
     have HOU:=Lib.hid (own_grow HOV.out gs)
     have HGU:=Lib.hid (HGV.out.trans gs)
     replace G:=G.trans gs
     replace ev0:=cellGrow gs ev0
     clear gs
     have z0:=B0.lt
     have z1:=B1.lt
     have q0_0:U.cell? ⟨w.heap.size,0,none⟩=some (.int .i64 x.n):=B0.c 0 _ rfl
     have q0_1:U.cell? ⟨w.heap.size,1,none⟩=some (.slice (some ⟨b_e,off_e,none⟩) x.edges.length c0):=B0.c 1 _ rfl
     have f0:=B0.f
     have q1_0:U.cell? ⟨R3.heap.size,0,none⟩=some (.int .i64 e.frm):=B1.c 0 _ rfl
     have q1_1:U.cell? ⟨R3.heap.size,1,none⟩=some (.int .i64 e.to):=B1.c 1 _ rfl
     have q1_2:U.cell? ⟨R3.heap.size,2,none⟩=some (.int .i64 e.cap):=B1.c 2 _ rfl
     have q1_3:U.cell? ⟨R3.heap.size,3,none⟩=some (.int .i64 e.cost):=B1.c 3 _ rfl
     have f1:=B1.f
     go_region_held3 (fun W=>W.cell? ⟨R3.heap.size,0,none⟩=some (.int .i64 e.frm)∧W.cell? ⟨R3.heap.size,1,none⟩=some (.int .i64 e.to)∧W.cell? ⟨R3.heap.size,2,none⟩=some (.int .i64 e.cap)∧W.cell? ⟨R3.heap.size,3,none⟩=some (.int .i64 e.cost)∧W.cell? ⟨b_v,off_v+k,none⟩=some (.int .i64 v))
      (first
        |exact⟨q1_0,q1_1,q1_2,q1_3,ev0⟩
        |exact⟨cellAlloc (w:=U.drew) q1_0 _,cellAlloc (w:=U.drew) q1_1 _,cellAlloc (w:=U.drew) q1_2 _,cellAlloc (w:=U.drew) q1_3 _,cellAlloc (w:=U.drew) ev0 _⟩
        |exact⟨r1_0,r1_1,r1_2,r1_3,rv1⟩)
      (first
        |(refine step_append_g rfl (.tmp 24) (.tmp 41) 87 rfl V1 (show Grow V1 _ by refine Grow.trans HGU.out (b:=U) ?_;repeat (first|exact Grow.refl _|(refine Grow.alloc ?_ _ _)|(refine Grow.drew ?_))) 90 i0 _ 5 40 Try.underlying87 hi0 hz0 hz1 hz2 rfl (by omega) u5 ks.length (ks.flatMap encArc) rfl (own_grow HOU.out (show Grow U _ by repeat (first|exact Grow.refl _|(refine Grow.alloc ?_ _ _)|(refine Grow.drew ?_)))) ⟨U.heap.size,0,none⟩ 1 1 [.int .i64 (2*(k:Int)),.int .i64 e.frm,.int .i64 e.to,.int .i64 (e.cap-v),.int .i64 e.cost] rfl rfl (news_of _ _ _ _ (by simp[hq1,hq2,hq3,hq4])) (one_arc _ _ _ _ _) (by have:=HL.out;simp only[maxLen];(try simp only[List.length_append,List.length_cons,List.length_nil]);omega) (by have:=HL.out;(try simp only[List.length_append,List.length_cons,List.length_nil]);omega) ?_
          intro v1 w1 hown' hg' hgb hat
          have HOWN1:=Lib.hid (own_snocF (f:=encArc) (y:=(⟨2*(k:Int),e.frm,e.to,e.cap-v,e.cost⟩:Arc)) hown');have HG1:=Lib.hid hg';have HGB1:=Lib.hid hgb;have hat_:=hat;clear hown' hg' hgb hat
          have gx:∀ {b o:Nat} {u:Value},b=R3.heap.size→U.cell? ⟨b,o,none⟩=some u→w1.cell? ⟨b,o,none⟩=some u:=fun hb h=>cellKept HGB1.out (by rw[hb];exact HNE.out) (cellGrow (show Grow U _ by repeat (first|exact Grow.refl _|(refine Grow.alloc ?_ _ _)|(refine Grow.drew ?_))) h)
          have r1_0:w1.cell? ⟨R3.heap.size,0,none⟩=some (.int .i64 e.frm):=gx rfl q1_0
          have r1_1:w1.cell? ⟨R3.heap.size,1,none⟩=some (.int .i64 e.to):=gx rfl q1_1
          have r1_2:w1.cell? ⟨R3.heap.size,2,none⟩=some (.int .i64 e.cap):=gx rfl q1_2
          have r1_3:w1.cell? ⟨R3.heap.size,3,none⟩=some (.int .i64 e.cost):=gx rfl q1_3
          have rv1:w1.cell? ⟨b_v,off_v+k,none⟩=some (.int .i64 v):=cellGrow (w:=V1) HG1.out (cell_back HGU.out (by have:=G0.out.size;omega) ev0)
          have zw1:R3.heap.size<w1.heap.size:=lt_of_cell r1_0
          have zv1:b_v<w1.heap.size:=lt_of_cell rv1
          have HNE1:Hid (v1.ownBlock≠some R3.heap.size):=fun q=>by
           rcases hat_ with h|h
           ·rw[h]at q;exact HNE.out q
           ·rw[h]at q;injection q with q;have:R3.heap.size<U.heap.size:=z1;simp only[World.size_alloc,World.size_drew]at q;omega
          clear hat_ gx))
     go_wp2_with fail
     clear z0 z1 q0_0 q0_1 f0 q1_0 q1_1 q1_2 q1_3 f1
     go_region_held3 (fun W=>W.cell? ⟨R3.heap.size,0,none⟩=some (.int .i64 e.frm)∧W.cell? ⟨R3.heap.size,1,none⟩=some (.int .i64 e.to)∧W.cell? ⟨R3.heap.size,2,none⟩=some (.int .i64 e.cap)∧W.cell? ⟨R3.heap.size,3,none⟩=some (.int .i64 e.cost)∧W.cell? ⟨b_v,off_v+k,none⟩=some (.int .i64 v))
      (first
        |exact⟨r1_0,r1_1,r1_2,r1_3,rv1⟩
        |exact⟨cellAlloc (w:=w1.drew) r1_0 _,cellAlloc (w:=w1.drew) r1_1 _,cellAlloc (w:=w1.drew) r1_2 _,cellAlloc (w:=w1.drew) r1_3 _,cellAlloc (w:=w1.drew) rv1 _⟩
        |exact⟨r2_0,r2_1,r2_2,r2_3,rv2⟩)
      (first
        |(refine step_append_g rfl (.tmp 48) (.tmp 64) 87 rfl V1 (show Grow V1 _ by refine Grow.trans HG1.out (b:=w1) ?_;repeat (first|exact Grow.refl _|(refine Grow.alloc ?_ _ _)|(refine Grow.drew ?_))) 90 i0 _ 5 40 Try.underlying87 hi0 hz0 hz1 hz2 rfl (by omega) v1 (ks++[(⟨2*(k:Int),e.frm,e.to,e.cap-v,e.cost⟩:Arc)]).length ((ks++[(⟨2*(k:Int),e.frm,e.to,e.cap-v,e.cost⟩:Arc)]).flatMap encArc) rfl (own_grow HOWN1.out (show Grow w1 _ by repeat (first|exact Grow.refl _|(refine Grow.alloc ?_ _ _)|(refine Grow.drew ?_)))) ⟨w1.heap.size,0,none⟩ 1 1 [.int .i64 (2*(k:Int)+1),.int .i64 e.to,.int .i64 e.frm,.int .i64 v,.int .i64 (-e.cost)] rfl rfl (news_of _ _ _ _ (by simp[hq1,hq2,hq3,hq4])) (one_arc _ _ _ _ _) (by have:=HL.out;simp only[maxLen];(try simp only[List.length_append,List.length_cons,List.length_nil]);omega) (by have:=HL.out;(try simp only[List.length_append,List.length_cons,List.length_nil]);omega) ?_
          intro v2 w2 hown' hg' hgb hat
          have HOWN2:=Lib.hid (own_snocF (f:=encArc) (y:=(⟨2*(k:Int)+1,e.to,e.frm,v,-e.cost⟩:Arc)) hown');have HG2:=Lib.hid hg';have HGB2:=Lib.hid hgb;have hat_:=hat;clear hown' hg' hgb hat
          have gx:∀ {b o:Nat} {u:Value},b=R3.heap.size→w1.cell? ⟨b,o,none⟩=some u→w2.cell? ⟨b,o,none⟩=some u:=fun hb h=>cellKept HGB2.out (by rw[hb];exact HNE1.out) (cellGrow (show Grow w1 _ by repeat (first|exact Grow.refl _|(refine Grow.alloc ?_ _ _)|(refine Grow.drew ?_))) h)
          have r2_0:w2.cell? ⟨R3.heap.size,0,none⟩=some (.int .i64 e.frm):=gx rfl r1_0
          have r2_1:w2.cell? ⟨R3.heap.size,1,none⟩=some (.int .i64 e.to):=gx rfl r1_1
          have r2_2:w2.cell? ⟨R3.heap.size,2,none⟩=some (.int .i64 e.cap):=gx rfl r1_2
          have r2_3:w2.cell? ⟨R3.heap.size,3,none⟩=some (.int .i64 e.cost):=gx rfl r1_3
          have rv2:w2.cell? ⟨b_v,off_v+k,none⟩=some (.int .i64 v):=cellGrow (w:=V1) HG2.out (cell_back HGU.out (by have:=G0.out.size;omega) ev0)))
     go_wp2_with fail
     go_roundg (x.edges.length-(k+1))
     case measure=>have:=HK.out;omega
     case rel=>exact⟨k+1,by have:=HK.out;omega,by go_num,HG2.out,by rw[HM.out,HT1.out,HT2.out];simpa using HOWN2.out⟩
    ·have HT2:=Lib.hid (arcDn_no (i:=k) (p:=(e,v)) t2)
     have T2:decide (0<v)=false:=by simpa using t2
     go_quiet (fail)
     go_wp2_with fail
     have gs:Grow V (V.drewN nq):=(Grow.refl V).drewN _
     obtain⟨U,hU⟩:∃U,U=V.drewN nq:=⟨_,rfl⟩
     rw[←hU]at gs ⊢
     clear hU
     clear z0 z1 q0_0 q0_1 f0 q1_0 q1_1 q1_2 q1_3 f1
     replace B0:=B0.grow gs
     replace B1:=B1.grow gs
     have HOU:=Lib.hid (own_grow HOV.out gs)
     have HGU:=Lib.hid (HGV.out.trans gs)
     replace G:=G.trans gs
     replace ev0:=cellGrow gs ev0
     clear gs
     have z0:=B0.lt
     have z1:=B1.lt
     have q0_0:U.cell? ⟨w.heap.size,0,none⟩=some (.int .i64 x.n):=B0.c 0 _ rfl
     have q0_1:U.cell? ⟨w.heap.size,1,none⟩=some (.slice (some ⟨b_e,off_e,none⟩) x.edges.length c0):=B0.c 1 _ rfl
     have f0:=B0.f
     have q1_0:U.cell? ⟨R3.heap.size,0,none⟩=some (.int .i64 e.frm):=B1.c 0 _ rfl
     have q1_1:U.cell? ⟨R3.heap.size,1,none⟩=some (.int .i64 e.to):=B1.c 1 _ rfl
     have q1_2:U.cell? ⟨R3.heap.size,2,none⟩=some (.int .i64 e.cap):=B1.c 2 _ rfl
     have q1_3:U.cell? ⟨R3.heap.size,3,none⟩=some (.int .i64 e.cost):=B1.c 3 _ rfl
     have f1:=B1.f
     go_region_held3 (fun W=>W.cell? ⟨R3.heap.size,0,none⟩=some (.int .i64 e.frm)∧W.cell? ⟨R3.heap.size,1,none⟩=some (.int .i64 e.to)∧W.cell? ⟨R3.heap.size,2,none⟩=some (.int .i64 e.cap)∧W.cell? ⟨R3.heap.size,3,none⟩=some (.int .i64 e.cost)∧W.cell? ⟨b_v,off_v+k,none⟩=some (.int .i64 v))
      (first
        |exact⟨q1_0,q1_1,q1_2,q1_3,ev0⟩
        |exact⟨cellAlloc (w:=U.drew) q1_0 _,cellAlloc (w:=U.drew) q1_1 _,cellAlloc (w:=U.drew) q1_2 _,cellAlloc (w:=U.drew) q1_3 _,cellAlloc (w:=U.drew) ev0 _⟩
        |exact⟨r1_0,r1_1,r1_2,r1_3,rv1⟩)
      (first
        |(refine step_append_g rfl (.tmp 24) (.tmp 41) 87 rfl V1 (show Grow V1 _ by refine Grow.trans HGU.out (b:=U) ?_;repeat (first|exact Grow.refl _|(refine Grow.alloc ?_ _ _)|(refine Grow.drew ?_))) 90 i0 _ 5 40 Try.underlying87 hi0 hz0 hz1 hz2 rfl (by omega) u5 ks.length (ks.flatMap encArc) rfl (own_grow HOU.out (show Grow U _ by repeat (first|exact Grow.refl _|(refine Grow.alloc ?_ _ _)|(refine Grow.drew ?_)))) ⟨U.heap.size,0,none⟩ 1 1 [.int .i64 (2*(k:Int)),.int .i64 e.frm,.int .i64 e.to,.int .i64 (e.cap-v),.int .i64 e.cost] rfl rfl (news_of _ _ _ _ (by simp[hq1,hq2,hq3,hq4])) (one_arc _ _ _ _ _) (by have:=HL.out;simp only[maxLen];(try simp only[List.length_append,List.length_cons,List.length_nil]);omega) (by have:=HL.out;(try simp only[List.length_append,List.length_cons,List.length_nil]);omega) ?_
          intro v1 w1 hown' hg' hgb hat
          have HOWN1:=Lib.hid (own_snocF (f:=encArc) (y:=(⟨2*(k:Int),e.frm,e.to,e.cap-v,e.cost⟩:Arc)) hown');have HG1:=Lib.hid hg';have HGB1:=Lib.hid hgb;have hat_:=hat;clear hown' hg' hgb hat
          have gx:∀ {b o:Nat} {u:Value},b=R3.heap.size→U.cell? ⟨b,o,none⟩=some u→w1.cell? ⟨b,o,none⟩=some u:=fun hb h=>cellKept HGB1.out (by rw[hb];exact HNE.out) (cellGrow (show Grow U _ by repeat (first|exact Grow.refl _|(refine Grow.alloc ?_ _ _)|(refine Grow.drew ?_))) h)
          have r1_0:w1.cell? ⟨R3.heap.size,0,none⟩=some (.int .i64 e.frm):=gx rfl q1_0
          have r1_1:w1.cell? ⟨R3.heap.size,1,none⟩=some (.int .i64 e.to):=gx rfl q1_1
          have r1_2:w1.cell? ⟨R3.heap.size,2,none⟩=some (.int .i64 e.cap):=gx rfl q1_2
          have r1_3:w1.cell? ⟨R3.heap.size,3,none⟩=some (.int .i64 e.cost):=gx rfl q1_3
          have rv1:w1.cell? ⟨b_v,off_v+k,none⟩=some (.int .i64 v):=cellGrow (w:=V1) HG1.out (cell_back HGU.out (by have:=G0.out.size;omega) ev0)
          have zw1:R3.heap.size<w1.heap.size:=lt_of_cell r1_0
          have zv1:b_v<w1.heap.size:=lt_of_cell rv1
          have HNE1:Hid (v1.ownBlock≠some R3.heap.size):=fun q=>by
           rcases hat_ with h|h
           ·rw[h]at q;exact HNE.out q
           ·rw[h]at q;injection q with q;have:R3.heap.size<U.heap.size:=z1;simp only[World.size_alloc,World.size_drew]at q;omega
          clear hat_ gx))
     go_wp2_with fail
     clear z0 z1 q0_0 q0_1 f0 q1_0 q1_1 q1_2 q1_3 f1
     go_roundg (x.edges.length-(k+1))
     case measure=>have:=HK.out;omega
     case rel=>exact⟨k+1,by have:=HK.out;omega,by go_num,HG1.out,by rw[HM.out,HT1.out,HT2.out];simpa using HOWN1.out⟩
   ·have HT1:=Lib.hid (arcUp_no (i:=k) (p:=(e,v)) t1)
    have T1:decide (v<e.cap)=false:=by simpa using t1
    by_cases t2:0<v
    ·have HT2:=Lib.hid (arcDn_yes (i:=k) (p:=(e,v)) t2)
     have T2:decide (0<v)=true:=by simpa using t2
     go_quiet (fail)
     go_wp2_with fail
     have gs:Grow V (V.drewN nq):=(Grow.refl V).drewN _
     obtain⟨U,hU⟩:∃U,U=V.drewN nq:=⟨_,rfl⟩
     rw[←hU]at gs ⊢
     clear hU
     clear z0 z1 q0_0 q0_1 f0 q1_0 q1_1 q1_2 q1_3 f1
     replace B0:=B0.grow gs
     replace B1:=B1.grow gs
     have HOU:=Lib.hid (own_grow HOV.out gs)
     have HGU:=Lib.hid (HGV.out.trans gs)
     replace G:=G.trans gs
     replace ev0:=cellGrow gs ev0
     clear gs
     have z0:=B0.lt
     have z1:=B1.lt
     have q0_0:U.cell? ⟨w.heap.size,0,none⟩=some (.int .i64 x.n):=B0.c 0 _ rfl
     have q0_1:U.cell? ⟨w.heap.size,1,none⟩=some (.slice (some ⟨b_e,off_e,none⟩) x.edges.length c0):=B0.c 1 _ rfl
     have f0:=B0.f
     have q1_0:U.cell? ⟨R3.heap.size,0,none⟩=some (.int .i64 e.frm):=B1.c 0 _ rfl
     have q1_1:U.cell? ⟨R3.heap.size,1,none⟩=some (.int .i64 e.to):=B1.c 1 _ rfl
     have q1_2:U.cell? ⟨R3.heap.size,2,none⟩=some (.int .i64 e.cap):=B1.c 2 _ rfl
     have q1_3:U.cell? ⟨R3.heap.size,3,none⟩=some (.int .i64 e.cost):=B1.c 3 _ rfl
     have f1:=B1.f
     go_region_held3 (fun W=>W.cell? ⟨R3.heap.size,0,none⟩=some (.int .i64 e.frm)∧W.cell? ⟨R3.heap.size,1,none⟩=some (.int .i64 e.to)∧W.cell? ⟨R3.heap.size,2,none⟩=some (.int .i64 e.cap)∧W.cell? ⟨R3.heap.size,3,none⟩=some (.int .i64 e.cost)∧W.cell? ⟨b_v,off_v+k,none⟩=some (.int .i64 v))
      (first
        |exact⟨q1_0,q1_1,q1_2,q1_3,ev0⟩
        |exact⟨cellAlloc (w:=U.drew) q1_0 _,cellAlloc (w:=U.drew) q1_1 _,cellAlloc (w:=U.drew) q1_2 _,cellAlloc (w:=U.drew) q1_3 _,cellAlloc (w:=U.drew) ev0 _⟩
        |exact⟨r1_0,r1_1,r1_2,r1_3,rv1⟩)
      (first
        |(refine step_append_g rfl (.tmp 48) (.tmp 64) 87 rfl V1 (show Grow V1 _ by refine Grow.trans HGU.out (b:=U) ?_;repeat (first|exact Grow.refl _|(refine Grow.alloc ?_ _ _)|(refine Grow.drew ?_))) 90 i0 _ 5 40 Try.underlying87 hi0 hz0 hz1 hz2 rfl (by omega) u5 ks.length (ks.flatMap encArc) rfl (own_grow HOU.out (show Grow U _ by repeat (first|exact Grow.refl _|(refine Grow.alloc ?_ _ _)|(refine Grow.drew ?_)))) ⟨U.heap.size,0,none⟩ 1 1 [.int .i64 (2*(k:Int)+1),.int .i64 e.to,.int .i64 e.frm,.int .i64 v,.int .i64 (-e.cost)] rfl rfl (news_of _ _ _ _ (by simp[hq1,hq2,hq3,hq4])) (one_arc _ _ _ _ _) (by have:=HL.out;simp only[maxLen];(try simp only[List.length_append,List.length_cons,List.length_nil]);omega) (by have:=HL.out;(try simp only[List.length_append,List.length_cons,List.length_nil]);omega) ?_
          intro v1 w1 hown' hg' hgb hat
          have HOWN1:=Lib.hid (own_snocF (f:=encArc) (y:=(⟨2*(k:Int)+1,e.to,e.frm,v,-e.cost⟩:Arc)) hown');have HG1:=Lib.hid hg';have HGB1:=Lib.hid hgb;have hat_:=hat;clear hown' hg' hgb hat
          have gx:∀ {b o:Nat} {u:Value},b=R3.heap.size→U.cell? ⟨b,o,none⟩=some u→w1.cell? ⟨b,o,none⟩=some u:=fun hb h=>cellKept HGB1.out (by rw[hb];exact HNE.out) (cellGrow (show Grow U _ by repeat (first|exact Grow.refl _|(refine Grow.alloc ?_ _ _)|(refine Grow.drew ?_))) h)
          have r1_0:w1.cell? ⟨R3.heap.size,0,none⟩=some (.int .i64 e.frm):=gx rfl q1_0
          have r1_1:w1.cell? ⟨R3.heap.size,1,none⟩=some (.int .i64 e.to):=gx rfl q1_1
          have r1_2:w1.cell? ⟨R3.heap.size,2,none⟩=some (.int .i64 e.cap):=gx rfl q1_2
          have r1_3:w1.cell? ⟨R3.heap.size,3,none⟩=some (.int .i64 e.cost):=gx rfl q1_3
          have rv1:w1.cell? ⟨b_v,off_v+k,none⟩=some (.int .i64 v):=cellGrow (w:=V1) HG1.out (cell_back HGU.out (by have:=G0.out.size;omega) ev0)))
     go_wp2_with fail
     clear z0 z1 q0_0 q0_1 f0 q1_0 q1_1 q1_2 q1_3 f1
     go_roundg (x.edges.length-(k+1))
     case measure=>have:=HK.out;omega
     case rel=>exact⟨k+1,by have:=HK.out;omega,by go_num,HG1.out,by rw[HM.out,HT1.out,HT2.out];simpa using HOWN1.out⟩
    ·have HT2:=Lib.hid (arcDn_no (i:=k) (p:=(e,v)) t2)
     have T2:decide (0<v)=false:=by simpa using t2
     go_quiet (fail)
     go_wp2_with fail
     have gs:Grow V (V.drewN nq):=(Grow.refl V).drewN _
     obtain⟨U,hU⟩:∃U,U=V.drewN nq:=⟨_,rfl⟩
     rw[←hU]at gs ⊢
     clear hU
     clear z0 z1 q0_0 q0_1 f0 q1_0 q1_1 q1_2 q1_3 f1
     replace B0:=B0.grow gs
     replace B1:=B1.grow gs
     have HOU:=Lib.hid (own_grow HOV.out gs)
     have HGU:=Lib.hid (HGV.out.trans gs)
     replace G:=G.trans gs
     replace ev0:=cellGrow gs ev0
     clear gs
     have z0:=B0.lt
     have z1:=B1.lt
     have q0_0:U.cell? ⟨w.heap.size,0,none⟩=some (.int .i64 x.n):=B0.c 0 _ rfl
     have q0_1:U.cell? ⟨w.heap.size,1,none⟩=some (.slice (some ⟨b_e,off_e,none⟩) x.edges.length c0):=B0.c 1 _ rfl
     have f0:=B0.f
     have q1_0:U.cell? ⟨R3.heap.size,0,none⟩=some (.int .i64 e.frm):=B1.c 0 _ rfl
     have q1_1:U.cell? ⟨R3.heap.size,1,none⟩=some (.int .i64 e.to):=B1.c 1 _ rfl
     have q1_2:U.cell? ⟨R3.heap.size,2,none⟩=some (.int .i64 e.cap):=B1.c 2 _ rfl
     have q1_3:U.cell? ⟨R3.heap.size,3,none⟩=some (.int .i64 e.cost):=B1.c 3 _ rfl
     have f1:=B1.f
     go_roundg (x.edges.length-(k+1))
     case measure=>have:=HK.out;omega
     case rel=>exact⟨k+1,by have:=HK.out;omega,by go_num,HGU.out,by rw[HM.out,HT1.out,HT2.out];simpa using HOU.out⟩
  ·have hke:k=x.edges.length:=by omega
   have hown:=HOWN.out
   have hke2:arcsK (x.edges.zip f) k=arcsOf x f:=by rw[hke,←HZL.out];rfl
   rw[hke2]at hown
   have hsl:SlR 5 repArc R3 V1.heap.size R3.heap.size u5 (arcsOf x f):=SlR.of_own length_encArc hown (fun y hy=>⟨rfl,(HFI.out y hy).wf n2⟩)
   have hsl:=hsl.stable repArc_stable (Same.refl _ _ _) (lo':=w.heap.size) (by have:=G0.out.size;omega) (Nat.le_refl _)
   have hsl':=hsl
   obtain⟨av,cv,rfl,_,_,_⟩:=hsl'
   have HSL:=Lib.hid hsl
   clear hke hke2 hown HOWN hsl
   have z0:=B0.lt
   have q0_0:R3.cell? ⟨w.heap.size,0,none⟩=some (.int .i64 x.n):=B0.c 0 _ rfl
   have q0_1:R3.cell? ⟨w.heap.size,1,none⟩=some (.slice a0 x.edges.length c0):=B0.c 1 _ rfl
   have f0:=B0.f
   go_wp2_with fail
   go_ret
   exact⟨av,cv,rfl,G,HSL.out⟩
end Go.Proofs.Ytnlpbgljaecdmaa
