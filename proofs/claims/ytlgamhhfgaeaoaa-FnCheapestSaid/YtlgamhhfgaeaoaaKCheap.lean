/- Cheapest, of the program and of the reference. -/
import Derived.Test.YtlgamhhfgaeaoaaKRing
namespace Go.Proofs.Ytlgamhhfgaeaoaa
open Go.RowKit
set_option maxHeartbeats 16000000
set_option maxRecDepth 100000
set_option linter.unusedSimpArgs false
set_option linter.unusedVariables false
theorem cheapIt_end{x:Graph}{f:List Int}(m:Nat)(h:ringOk x f=false):cheapIt x m f=(true,f):=by
 cases m<;>(unfold cheapIt;rw[h];rfl)
theorem cheapIt_more{x:Graph}{f:List Int}(h:ringOk x f=true):cheapIt x 0 f=(false,[]):=by unfold cheapIt;rw[if_pos h]
theorem cheapIt_go{x:Graph}{f:List Int}(m:Nat)(h:ringOk x f=true)(h2:pushOk x f (ringL x f)=true):cheapIt x (m+1) f=cheapIt x m (pushL x f (ringL x f)):=by
 rw[cheapIt,if_pos h,if_pos h2]
theorem cheap_yes{x:Graph}{f:List Int}(hg:graphOk x=true)(h:cheapIt x 400 (List.replicate x.edges.length 0)=(true,f)):cheapOk x=true∧cheapL x=f:=by
 have h1:cheapOk x=true:=by unfold cheapOk;rw[hg,h];rfl
 exact⟨h1,by unfold cheapL;rw[if_pos h1,h]⟩
theorem cheap_no{x:Graph}(h:cheapIt x 400 (List.replicate x.edges.length 0)=(false,[])):cheapOk x=false∧cheapL x=[]:=by
 have h1:cheapOk x=false:=by unfold cheapOk;rw[h];simp
 exact⟨h1,by unfold cheapL;rw[h1];rfl⟩
theorem impl_Cheapest_c(x:Graph)(a0:Option Addr)(c0:Nat)(w:World)(h0:SlR 4 repEdge w 0 w.heap.size (.slice a0 x.edges.length c0) x.edges) :
 Calls Try.prog 12 #[.agg #[.int .i64 x.n,.slice a0 x.edges.length c0]] w fun e w'=>∃a c,e=.returned (.tuple #[.slice a (cheapL x).length c,.bool (cheapOk x)])∧Grow w w'∧SlR 1 repInt w' w.heap.size w'.heap.size (.slice a (cheapL x).length c) (cheapL x):=by
 have H0:=Lib.hid h0
 clear h0
 go_enter Try.func12,Try.ntmps12
 go_wp2_with fail
 refine(impl_GraphOk_c x _ _ _ (H0.out.grow' repEdge_stable (Grow.below ((Grow.refl w).alloc _ _)))).mono ?_
 rintro e V1 ⟨rfl,gs⟩
 have ys:=Grow.size gs
 simp only[World.size_setCell,World.size_alloc]at ys
 have B0:Box V1 (w.heap.size) [.int .i64 x.n,.slice a0 x.edges.length c0]:=Box.grow (Box.newAt (by simp) _ _) gs
 have G:Grow w V1:=Grow.trans ((Grow.refl w).alloc _ _) gs
 clear gs
 have z0:=B0.lt
 have q0_0:V1.cell? ⟨w.heap.size,0,none⟩=some (.int .i64 x.n):=B0.c 0 _ rfl
 have q0_1:V1.cell? ⟨w.heap.size,1,none⟩=some (.slice a0 x.edges.length c0):=B0.c 1 _ rfl
 have f0:=B0.f
 cases hok:graphOk x
 ·have HB:Hid (cheapOk x=false):=by
   show _=_
   unfold cheapOk;rw[hok];rfl
  have HL:Hid (cheapL x=[]):=by
   show _=_
   unfold cheapL;rw[HB.out];rfl
  go_wp2_with fail
  go_ret2
  exact⟨none,0,by rw[HL.out,HB.out];rfl,G,by rw[HL.out];exact SlR.nil⟩
 have h60:x.edges.length≤60:=by
  have h:=hok
  unfold graphOk at h
  simp only[Bool.and_eq_true,decide_eq_true_eq]at h
  exact h.1.2
 have HOK:=Lib.hid hok;clear hok
 have hmk:=fun w=>madeInts x.edges.length (by omega) w
 go_wp2_with fail
 have hint:=IntsAt.made V1 x.edges.length 3
 have gs:Grow V1 (V1.alloc (.cells (madeCells #[.int .i64 0] x.edges.length) 3)):=(Grow.refl _).alloc _ _
 have SF:SlR 1 repInt (V1.alloc (.cells (madeCells #[.int .i64 0] x.edges.length) 3)) w.heap.size (V1.alloc (.cells (madeCells #[.int .i64 0] x.edges.length) 3)).heap.size (.slice (some ⟨V1.heap.size,0,none⟩) (List.replicate x.edges.length (0:Int)).length x.edges.length) (List.replicate x.edges.length 0):=by
  have h:=hint.slr (lo:=w.heap.size) (hi:=(V1.alloc (.cells (madeCells #[.int .i64 0] x.edges.length) 3)).heap.size) (rep:=repInt) (by omega) (by simp) (by simp only[List.length_replicate,maxLen];omega) (fun i hi=>⟨rfl,by unfold i64;simp⟩)
  rwa [show (Value.slice (some ⟨V1.heap.size,0,none⟩) (List.replicate x.edges.length (0:Int)).length (List.replicate x.edges.length (0:Int)).length)=.slice (some ⟨V1.heap.size,0,none⟩) (List.replicate x.edges.length (0:Int)).length x.edges.length by simp]at h
 obtain⟨W,hW⟩:∃W,W=V1.alloc (.cells (madeCells #[.int .i64 0] x.edges.length) 3):=⟨_,rfl⟩
 rw[←hW]at gs SF ⊢
 clear hW hint
 clear z0 q0_0 q0_1 f0
 replace G:=G.trans gs
 replace B0:=B0.grow gs
 clear gs
 have hrl:(List.replicate x.edges.length (0:Int)).length=x.edges.length:=List.length_replicate
 go_loopg [4,18] 400 (fun g fv i wr=>∃(k:Nat) (f:List Int) (a:Option Addr) (c:Nat),k+g=400∧i=.int .i64 k∧fv=.slice a f.length c∧SlR 1 repInt wr w.heap.size wr.heap.size (.slice a f.length c) f∧cheapIt x g f=cheapIt x 400 (List.replicate x.edges.length 0)∧Grow w wr∧Box wr (w.heap.size) [.int .i64 x.n,.slice a0 x.edges.length c0])
 case atStart=>exact⟨0,List.replicate x.edges.length 0,some ⟨V1.heap.size,0,none⟩,x.edges.length,by simp,rfl,by rw[hrl],SF,rfl,G,B0⟩
 case round=>
  clear G B0 SF
  obtain⟨k,f,a,c,hk,rfl,rfl,SF,hit,G,B0⟩:=hrel
  obtain⟨R,rfl⟩:∃V,V=wr:=⟨_,rfl⟩
  have HIT:=Lib.hid hit;clear hit
  have HSF:=Lib.hid SF;clear SF
  by_cases hlt:k<400
  ·obtain⟨g1,hg1⟩:∃m,400-k=m+1:=⟨400-k-1,by omega⟩
   have hgk:∀g,k+g=400→g=g1+1:=fun g h=>by omega
   have e1:=hgk _ hk
   have HK:=Lib.hid hk;clear hk
   have HIT2:Hid (cheapIt x (g1+1) f=cheapIt x 400 (List.replicate x.edges.length 0)):=by have h:=HIT.out;rw[e1]at h;exact h
   clear e1 HIT
   have z0:=B0.lt
   have q0_0:R.cell? ⟨w.heap.size,0,none⟩=some (.int .i64 x.n):=B0.c 0 _ rfl
   have q0_1:R.cell? ⟨w.heap.size,1,none⟩=some (.slice a0 x.edges.length c0):=B0.c 1 _ rfl
   have f0:=B0.f
   go_wp2_with fail
   have hsz:=G.size
   refine(impl_Ring_c x _ _ f _ _ _ (H0.out.grow' repEdge_stable (Grow.below G)) (HSF.out.stable repInt_stable (Same.refl _ _ _) (Nat.zero_le _) (Nat.le_refl _))).mono ?_
   rintro e V2 ⟨aR,cR,rfl,gs,SR⟩
   have gsR:=Lib.hid gs
   clear z0 q0_0 q0_1 f0
   have ys:=Grow.size gs
   replace B0:Box V2 (w.heap.size) [.int .i64 x.n,.slice a0 x.edges.length c0]:=Box.grow B0 gs
   replace G:Grow w V2:=Grow.trans G gs
   clear gs
   --
   have z0:=B0.lt
   have q0_0:V2.cell? ⟨w.heap.size,0,none⟩=some (.int .i64 x.n):=B0.c 0 _ rfl
   have q0_1:V2.cell? ⟨w.heap.size,1,none⟩=some (.slice a0 x.edges.length c0):=B0.c 1 _ rfl
   have f0:=B0.f
   replace HSF:Hid (SlR 1 repInt V2 w.heap.size V2.heap.size (.slice a f.length c) f):=HSF.out.stable repInt_stable (gsR.out.same (Nat.le_refl _)) (Nat.le_refl _) gsR.out.size
   cases hro:ringOk x f
   ·have hcy:=cheap_yes HOK.out (HIT2.out.symm.trans (cheapIt_end _ hro))
    obtain⟨hB,hL⟩:=hcy
    have HB:=Lib.hid hB;have HL:=Lib.hid hL;clear hB hL
    go_wp2_with fail
    go_ret2
    exact⟨a,c,by rw[HL.out,HB.out];rfl,G,by rw[HL.out];exact HSF.out⟩
   have HRO:=Lib.hid hro;have HPR:=Lib.hid (push_ring hro);clear hro
   have HSR:=Lib.hid SR;clear SR
   clear z0 q0_0 q0_1 f0
   have z0:=B0.lt
   have q0_0:V2.cell? ⟨w.heap.size,0,none⟩=some (.int .i64 x.n):=B0.c 0 _ rfl
   have q0_1:V2.cell? ⟨w.heap.size,1,none⟩=some (.slice a0 x.edges.length c0):=B0.c 1 _ rfl
   have f0:=B0.f
   go_wp2_with fail
   refine(impl_Push_c x _ _ f _ _ (ringL x f) _ _ _ (H0.out.grow' repEdge_stable (Grow.below G)) (HSF.out.stable repInt_stable (Same.refl _ _ _) (Nat.zero_le _) (Nat.le_refl _)) (HSR.out.all repInt_stable (Nat.le_refl _)) (by have:=ringL_len x f;omega)).mono ?_
   rintro e V3 ⟨aP,cP,rfl,gs,SP⟩
   clear z0 q0_0 q0_1 f0
   have ys:=Grow.size gs
   replace B0:Box V3 (w.heap.size) [.int .i64 x.n,.slice a0 x.edges.length c0]:=Box.grow B0 gs
   replace G:Grow w V3:=Grow.trans G gs
   clear gs
   --
   have z0:=B0.lt
   have q0_0:V3.cell? ⟨w.heap.size,0,none⟩=some (.int .i64 x.n):=B0.c 0 _ rfl
   have q0_1:V3.cell? ⟨w.heap.size,1,none⟩=some (.slice a0 x.edges.length c0):=B0.c 1 _ rfl
   have f0:=B0.f
   rw[HPR.out]
   have hsz2:=hsz
   have HSP:=Lib.hid SP;clear SP
   go_wp2_with fail
   go_roundg g1
   case measure=>have:=hgk _ HK.out;omega
   case rel=>exact⟨k+1,pushL x f (ringL x f),aP,cP,by omega,by go_num,rfl,HSP.out.stable repInt_stable (Same.refl _ _ _) (by omega) (Nat.le_refl _),by rw[←HIT2.out];exact(cheapIt_go _ HRO.out HPR.out).symm,G,B0⟩
  ·have hgk:∀g,k+g=400→g=0:=fun g h=>by omega
   have e1:=hgk _ hk
   have HIT2:Hid (cheapIt x 0 f=cheapIt x 400 (List.replicate x.edges.length 0)):=by have h:=HIT.out;rw[e1]at h;exact h
   clear e1 HIT hk
   have z0:=B0.lt
   have q0_0:R.cell? ⟨w.heap.size,0,none⟩=some (.int .i64 x.n):=B0.c 0 _ rfl
   have q0_1:R.cell? ⟨w.heap.size,1,none⟩=some (.slice a0 x.edges.length c0):=B0.c 1 _ rfl
   have f0:=B0.f
   go_wp2_with fail
   have hsz:=G.size
   refine(impl_Ring_c x _ _ f _ _ _ (H0.out.grow' repEdge_stable (Grow.below G)) (HSF.out.stable repInt_stable (Same.refl _ _ _) (Nat.zero_le _) (Nat.le_refl _))).mono ?_
   rintro e V4 ⟨aR,cR,rfl,gs,SR⟩
   have gsR:=Lib.hid gs
   clear z0 q0_0 q0_1 f0
   have ys:=Grow.size gs
   replace B0:Box V4 (w.heap.size) [.int .i64 x.n,.slice a0 x.edges.length c0]:=Box.grow B0 gs
   replace G:Grow w V4:=Grow.trans G gs
   clear gs
   --
   have z0:=B0.lt
   have q0_0:V4.cell? ⟨w.heap.size,0,none⟩=some (.int .i64 x.n):=B0.c 0 _ rfl
   have q0_1:V4.cell? ⟨w.heap.size,1,none⟩=some (.slice a0 x.edges.length c0):=B0.c 1 _ rfl
   have f0:=B0.f
   replace HSF:Hid (SlR 1 repInt V4 w.heap.size V4.heap.size (.slice a f.length c) f):=HSF.out.stable repInt_stable (gsR.out.same (Nat.le_refl _)) (Nat.le_refl _) gsR.out.size
   cases hro:ringOk x f
   ·have hcy:=cheap_yes HOK.out (HIT2.out.symm.trans (cheapIt_end _ hro))
    obtain⟨hB,hL⟩:=hcy
    have HB:=Lib.hid hB;have HL:=Lib.hid hL;clear hB hL
    go_wp2_with fail
    go_ret2
    exact⟨a,c,by rw[HL.out,HB.out];rfl,G,by rw[HL.out];exact HSF.out⟩
   ·have hcy:=cheap_no (HIT2.out.symm.trans (cheapIt_more hro))
    obtain⟨hB,hL⟩:=hcy
    have HB:=Lib.hid hB;have HL:=Lib.hid hL;clear hB hL
    go_wp2_with fail
    go_ret2
    exact⟨none,0,by rw[HL.out,HB.out];rfl,G,by rw[HL.out];exact SlR.nil⟩
theorem spec_Cheapest_c(x:Graph)(a0:Option Addr)(c0:Nat)(w:World)(h0:SlR 4 repEdge w 0 w.heap.size (.slice a0 x.edges.length c0) x.edges) :
 Calls Try.prog 13 #[.agg #[.int .i64 x.n,.slice a0 x.edges.length c0]] w fun e w'=>∃a c,e=.returned (.tuple #[.slice a (cheapL x).length c,.bool (cheapOk x)])∧Grow w w'∧SlR 1 repInt w' w.heap.size w'.heap.size (.slice a (cheapL x).length c) (cheapL x):=by
 have H0:=Lib.hid h0
 clear h0
 go_enter Try.func13,Try.ntmps13
 go_wp2_with fail
 refine(spec_GraphOk_c x _ _ _ (H0.out.grow' repEdge_stable (Grow.below ((Grow.refl w).alloc _ _)))).mono ?_
 rintro e V1 ⟨rfl,gs⟩
 have ys:=Grow.size gs
 simp only[World.size_setCell,World.size_alloc]at ys
 have B0:Box V1 (w.heap.size) [.int .i64 x.n,.slice a0 x.edges.length c0]:=Box.grow (Box.newAt (by simp) _ _) gs
 have G:Grow w V1:=Grow.trans ((Grow.refl w).alloc _ _) gs
 clear gs
 have z0:=B0.lt
 have q0_0:V1.cell? ⟨w.heap.size,0,none⟩=some (.int .i64 x.n):=B0.c 0 _ rfl
 have q0_1:V1.cell? ⟨w.heap.size,1,none⟩=some (.slice a0 x.edges.length c0):=B0.c 1 _ rfl
 have f0:=B0.f
 cases hok:graphOk x
 ·have HB:Hid (cheapOk x=false):=by
   show _=_
   unfold cheapOk;rw[hok];rfl
  have HL:Hid (cheapL x=[]):=by
   show _=_
   unfold cheapL;rw[HB.out];rfl
  go_wp2_with fail
  go_ret2
  exact⟨none,0,by rw[HL.out,HB.out];rfl,G,by rw[HL.out];exact SlR.nil⟩
 have h60:x.edges.length≤60:=by
  have h:=hok
  unfold graphOk at h
  simp only[Bool.and_eq_true,decide_eq_true_eq]at h
  exact h.1.2
 have HOK:=Lib.hid hok;clear hok
 have hmk:=fun w=>madeInts x.edges.length (by omega) w
 go_wp2_with fail
 have hint:=IntsAt.made V1 x.edges.length 3
 have gs:Grow V1 (V1.alloc (.cells (madeCells #[.int .i64 0] x.edges.length) 3)):=(Grow.refl _).alloc _ _
 have SF:SlR 1 repInt (V1.alloc (.cells (madeCells #[.int .i64 0] x.edges.length) 3)) w.heap.size (V1.alloc (.cells (madeCells #[.int .i64 0] x.edges.length) 3)).heap.size (.slice (some ⟨V1.heap.size,0,none⟩) (List.replicate x.edges.length (0:Int)).length x.edges.length) (List.replicate x.edges.length 0):=by
  have h:=hint.slr (lo:=w.heap.size) (hi:=(V1.alloc (.cells (madeCells #[.int .i64 0] x.edges.length) 3)).heap.size) (rep:=repInt) (by omega) (by simp) (by simp only[List.length_replicate,maxLen];omega) (fun i hi=>⟨rfl,by unfold i64;simp⟩)
  rwa [show (Value.slice (some ⟨V1.heap.size,0,none⟩) (List.replicate x.edges.length (0:Int)).length (List.replicate x.edges.length (0:Int)).length)=.slice (some ⟨V1.heap.size,0,none⟩) (List.replicate x.edges.length (0:Int)).length x.edges.length by simp]at h
 obtain⟨W,hW⟩:∃W,W=V1.alloc (.cells (madeCells #[.int .i64 0] x.edges.length) 3):=⟨_,rfl⟩
 rw[←hW]at gs SF ⊢
 clear hW hint
 clear z0 q0_0 q0_1 f0
 replace G:=G.trans gs
 replace B0:=B0.grow gs
 clear gs
 have hrl:(List.replicate x.edges.length (0:Int)).length=x.edges.length:=List.length_replicate
 go_loopg [4,5] 400 (fun g fv i wr=>∃(k:Nat) (f:List Int) (a:Option Addr) (c:Nat),k+g=400∧i=.int .i64 k∧fv=.slice a f.length c∧SlR 1 repInt wr w.heap.size wr.heap.size (.slice a f.length c) f∧cheapIt x g f=cheapIt x 400 (List.replicate x.edges.length 0)∧Grow w wr∧Box wr (w.heap.size) [.int .i64 x.n,.slice a0 x.edges.length c0])
 case atStart=>exact⟨0,List.replicate x.edges.length 0,some ⟨V1.heap.size,0,none⟩,x.edges.length,by simp,rfl,by rw[hrl],SF,rfl,G,B0⟩
 case round=>
  clear G B0 SF
  obtain⟨k,f,a,c,hk,rfl,rfl,SF,hit,G,B0⟩:=hrel
  obtain⟨R,rfl⟩:∃V,V=wr:=⟨_,rfl⟩
  have HIT:=Lib.hid hit;clear hit
  have HSF:=Lib.hid SF;clear SF
  by_cases hlt:k<400
  ·obtain⟨g1,hg1⟩:∃m,400-k=m+1:=⟨400-k-1,by omega⟩
   have hgk:∀g,k+g=400→g=g1+1:=fun g h=>by omega
   have e1:=hgk _ hk
   have HK:=Lib.hid hk;clear hk
   have HIT2:Hid (cheapIt x (g1+1) f=cheapIt x 400 (List.replicate x.edges.length 0)):=by have h:=HIT.out;rw[e1]at h;exact h
   clear e1 HIT
   have z0:=B0.lt
   have q0_0:R.cell? ⟨w.heap.size,0,none⟩=some (.int .i64 x.n):=B0.c 0 _ rfl
   have q0_1:R.cell? ⟨w.heap.size,1,none⟩=some (.slice a0 x.edges.length c0):=B0.c 1 _ rfl
   have f0:=B0.f
   go_wp2_with fail
   have hsz:=G.size
   refine(spec_Ring_c x _ _ f _ _ _ (H0.out.grow' repEdge_stable (Grow.below G)) (HSF.out.stable repInt_stable (Same.refl _ _ _) (Nat.zero_le _) (Nat.le_refl _))).mono ?_
   rintro e V2 ⟨aR,cR,rfl,gs,SR⟩
   have gsR:=Lib.hid gs
   clear z0 q0_0 q0_1 f0
   have ys:=Grow.size gs
   replace B0:Box V2 (w.heap.size) [.int .i64 x.n,.slice a0 x.edges.length c0]:=Box.grow B0 gs
   replace G:Grow w V2:=Grow.trans G gs
   clear gs
   --
   have z0:=B0.lt
   have q0_0:V2.cell? ⟨w.heap.size,0,none⟩=some (.int .i64 x.n):=B0.c 0 _ rfl
   have q0_1:V2.cell? ⟨w.heap.size,1,none⟩=some (.slice a0 x.edges.length c0):=B0.c 1 _ rfl
   have f0:=B0.f
   replace HSF:Hid (SlR 1 repInt V2 w.heap.size V2.heap.size (.slice a f.length c) f):=HSF.out.stable repInt_stable (gsR.out.same (Nat.le_refl _)) (Nat.le_refl _) gsR.out.size
   cases hro:ringOk x f
   ·have hcy:=cheap_yes HOK.out (HIT2.out.symm.trans (cheapIt_end _ hro))
    obtain⟨hB,hL⟩:=hcy
    have HB:=Lib.hid hB;have HL:=Lib.hid hL;clear hB hL
    go_wp2_with fail
    go_ret2
    exact⟨a,c,by rw[HL.out,HB.out];rfl,G,by rw[HL.out];exact HSF.out⟩
   have HRO:=Lib.hid hro;have HPR:=Lib.hid (push_ring hro);clear hro
   have HSR:=Lib.hid SR;clear SR
   clear z0 q0_0 q0_1 f0
   have z0:=B0.lt
   have q0_0:V2.cell? ⟨w.heap.size,0,none⟩=some (.int .i64 x.n):=B0.c 0 _ rfl
   have q0_1:V2.cell? ⟨w.heap.size,1,none⟩=some (.slice a0 x.edges.length c0):=B0.c 1 _ rfl
   have f0:=B0.f
   go_wp2_with fail
   refine(spec_Push_c x _ _ f _ _ (ringL x f) _ _ _ (H0.out.grow' repEdge_stable (Grow.below G)) (HSF.out.stable repInt_stable (Same.refl _ _ _) (Nat.zero_le _) (Nat.le_refl _)) (HSR.out.all repInt_stable (Nat.le_refl _)) (by have:=ringL_len x f;omega)).mono ?_
   rintro e V3 ⟨aP,cP,rfl,gs,SP⟩
   clear z0 q0_0 q0_1 f0
   have ys:=Grow.size gs
   replace B0:Box V3 (w.heap.size) [.int .i64 x.n,.slice a0 x.edges.length c0]:=Box.grow B0 gs
   replace G:Grow w V3:=Grow.trans G gs
   clear gs
   --
   have z0:=B0.lt
   have q0_0:V3.cell? ⟨w.heap.size,0,none⟩=some (.int .i64 x.n):=B0.c 0 _ rfl
   have q0_1:V3.cell? ⟨w.heap.size,1,none⟩=some (.slice a0 x.edges.length c0):=B0.c 1 _ rfl
   have f0:=B0.f
   rw[HPR.out]
   have hsz2:=hsz
   have HSP:=Lib.hid SP;clear SP
   go_wp2_with fail
   go_roundg g1
   case measure=>have:=hgk _ HK.out;omega
   case rel=>exact⟨k+1,pushL x f (ringL x f),aP,cP,by omega,by go_num,rfl,HSP.out.stable repInt_stable (Same.refl _ _ _) (by omega) (Nat.le_refl _),by rw[←HIT2.out];exact(cheapIt_go _ HRO.out HPR.out).symm,G,B0⟩
  ·have hgk:∀g,k+g=400→g=0:=fun g h=>by omega
   have e1:=hgk _ hk
   have HIT2:Hid (cheapIt x 0 f=cheapIt x 400 (List.replicate x.edges.length 0)):=by have h:=HIT.out;rw[e1]at h;exact h
   clear e1 HIT hk
   have z0:=B0.lt
   have q0_0:R.cell? ⟨w.heap.size,0,none⟩=some (.int .i64 x.n):=B0.c 0 _ rfl
   have q0_1:R.cell? ⟨w.heap.size,1,none⟩=some (.slice a0 x.edges.length c0):=B0.c 1 _ rfl
   have f0:=B0.f
   go_wp2_with fail
   have hsz:=G.size
   refine(spec_Ring_c x _ _ f _ _ _ (H0.out.grow' repEdge_stable (Grow.below G)) (HSF.out.stable repInt_stable (Same.refl _ _ _) (Nat.zero_le _) (Nat.le_refl _))).mono ?_
   rintro e V4 ⟨aR,cR,rfl,gs,SR⟩
   have gsR:=Lib.hid gs
   clear z0 q0_0 q0_1 f0
   have ys:=Grow.size gs
   replace B0:Box V4 (w.heap.size) [.int .i64 x.n,.slice a0 x.edges.length c0]:=Box.grow B0 gs
   replace G:Grow w V4:=Grow.trans G gs
   clear gs
   --
   have z0:=B0.lt
   have q0_0:V4.cell? ⟨w.heap.size,0,none⟩=some (.int .i64 x.n):=B0.c 0 _ rfl
   have q0_1:V4.cell? ⟨w.heap.size,1,none⟩=some (.slice a0 x.edges.length c0):=B0.c 1 _ rfl
   have f0:=B0.f
   replace HSF:Hid (SlR 1 repInt V4 w.heap.size V4.heap.size (.slice a f.length c) f):=HSF.out.stable repInt_stable (gsR.out.same (Nat.le_refl _)) (Nat.le_refl _) gsR.out.size
   cases hro:ringOk x f
   ·have hcy:=cheap_yes HOK.out (HIT2.out.symm.trans (cheapIt_end _ hro))
    obtain⟨hB,hL⟩:=hcy
    have HB:=Lib.hid hB;have HL:=Lib.hid hL;clear hB hL
    go_wp2_with fail
    go_ret2
    exact⟨a,c,by rw[HL.out,HB.out];rfl,G,by rw[HL.out];exact HSF.out⟩
   ·have hcy:=cheap_no (HIT2.out.symm.trans (cheapIt_more hro))
    obtain⟨hB,hL⟩:=hcy
    have HB:=Lib.hid hB;have HL:=Lib.hid hL;clear hB hL
    go_wp2_with fail
    go_ret2
    exact⟨none,0,by rw[HL.out,HB.out];rfl,G,by rw[HL.out];exact SlR.nil⟩
end Go.Proofs.Ytlgamhhfgaeaoaa
