/- Ring, of the program and of the reference. -/
import Derived.Test.YtlgamhhfgaeaoaaKPush
namespace Go.Proofs.Ytlgamhhfgaeaoaa
open Go.RowKit
set_option maxHeartbeats 16000000
set_option maxRecDepth 100000
set_option linter.unusedSimpArgs false
set_option linter.unusedVariables false
theorem one_newI(w:World)(c1:Array Value)(T1 T:TypeId)(y:Int):∀j u,[Value.int .i64 y][j]? = some u→((w.alloc (.cells c1 T1)).alloc (.cells #[.int .i64 y] T)).cell? ((⟨w.heap.size+1,0,none⟩:Addr).add j)=some u:=fun j u hj=>by
 have:=news_of (w.alloc (.cells c1 T1)) #[.int .i64 y] T [.int .i64 y] rfl j u hj
 rwa [World.size_alloc]at this
theorem IntsAt.other{w:World}{g:Nat}{s:List Int}(h:IntsAt w g s){p:Addr}(hp:p.block≠g)(u:Value):IntsAt (w.setCell p u) g s:=fun j hj=>by
 rw[World.cell?_setCell_other w p ⟨g,j,none⟩ u (by intro e;subst e;exact hp rfl)];exact h j hj
theorem IntsAt.grow{w w':World}{g:Nat}{s:List Int}(h:IntsAt w g s)(hg:Grow w w'):IntsAt w' g s:=fun j hj=>cellGrow hg (h j hj)
theorem IntsAt.made2(w:World)(n:Nat)(T:TypeId):IntsAt ((w.alloc (.cells (madeCells #[.int .i64 0] n) T)).alloc (.cells (madeCells #[.int .i64 0] n) T)) w.heap.size (List.replicate n 0)∧IntsAt ((w.alloc (.cells (madeCells #[.int .i64 0] n) T)).alloc (.cells (madeCells #[.int .i64 0] n) T)) (w.heap.size+1) (List.replicate n 0):=by
 refine⟨(IntsAt.made w n T).grow ((Grow.refl _).alloc _ _),?_⟩
 have:=IntsAt.made (w.alloc (.cells (madeCells #[.int .i64 0] n) T)) n T
 rwa [World.size_alloc]at this
theorem passes_nil{n:Nat}:∀j,(passes n [] j).node=-1
 |0=>rfl
 |j+1=>rfl
theorem scan_facts{n:Nat}{l:List Arc}(hl:∀a∈l,arcFine n a)(h120:l.length≤120)(hn:n≤24){k j:Nat}(hk:k≤n)(hj:j<l.length) :
 (scan l ⟨(passes n l k).dist,(passes n l k).last,-1⟩ j).dist.length=n∧(scan l ⟨(passes n l k).dist,(passes n l k).last,-1⟩ j).last.length=n∧bdd 10000000000 (scan l ⟨(passes n l k).dist,(passes n l k).last,-1⟩ j).dist:=by
 have hf:=scan_fine hl (pass_start (passes_fine hl (by omega) k)) j (by omega)
 have hb:=scan_bdd hl (s:=⟨(passes n l k).dist,(passes n l k).last,-1⟩) (b:=120000000*k) (by omega) (passes_bdd hl h120 k) j (by omega)
 refine⟨hf.1,hf.2.1,fun i hi=>?_⟩
 have:=hb i hi
 omega
theorem relax_at_yes{s:RS}{k:Nat}{a:Arc}{fm tm:Nat}(h1:a.frm=fm)(h2:a.to=tm)(hf:fm<s.dist.length)(ht:tm<s.dist.length)(h:s.dist[fm]+a.cost<s.dist[tm]):relax s k a=⟨s.dist.set tm (s.dist[fm]+a.cost),s.last.set tm (k:Int),a.to⟩:=by
 have e1:s.dist.getD a.frm.toNat 0=s.dist[fm]:=by rw[h1,Int.toNat_natCast,List.getD_eq_getElem?_getD,List.getElem?_eq_getElem hf];rfl
 have e2:s.dist.getD a.to.toNat 0=s.dist[tm]:=by rw[h2,Int.toNat_natCast,List.getD_eq_getElem?_getD,List.getElem?_eq_getElem ht];rfl
 rw[relax_yes (by rw[e1,e2];exact h),e1,h2,Int.toNat_natCast]
theorem relax_at_no{s:RS}{k:Nat}{a:Arc}{fm tm:Nat}(h1:a.frm=fm)(h2:a.to=tm)(hf:fm<s.dist.length)(ht:tm<s.dist.length)(h:¬s.dist[fm]+a.cost<s.dist[tm]):relax s k a=s:=by
 have e1:s.dist.getD a.frm.toNat 0=s.dist[fm]:=by rw[h1,Int.toNat_natCast,List.getD_eq_getElem?_getD,List.getElem?_eq_getElem hf];rfl
 have e2:s.dist.getD a.to.toNat 0=s.dist[tm]:=by rw[h2,Int.toNat_natCast,List.getD_eq_getElem?_getD,List.getElem?_eq_getElem ht];rfl
 exact relax_no (by rw[e1,e2];exact h)
theorem par_at{n:Nat}{l:List Arc}{s:RS}(hs:s.fine n l.length){m:Nat}(hm:m<n):∃q:Nat,∃(h:m<s.last.length) (h2:q<l.length),s.last[m]=(q:Int)∧arcAt l s.last (m:Int)=l[q]∧par l s.last (m:Int)=l[q].frm:=by
 have hv:m<s.last.length:=by rw[hs.2.1];exact hm
 have hb:=hs.2.2.2.2 m hv
 have e:s.last.getD (m:Int).toNat 0=((s.last[m]).toNat:Int):=by rw[Int.toNat_natCast,List.getD_eq_getElem?_getD,List.getElem?_eq_getElem hv];show s.last[m]=_;omega
 have hq:(s.last[m]).toNat<l.length:=by omega
 have h3:=arcAt_of e hq
 exact⟨(s.last[m]).toNat,hv,hq,by omega,h3,by unfold par;rw[h3]⟩
theorem ringFrom_step{l:List Arc}{last:List Int}{v u:Int}{m:Nat}:ringFrom l last v (m+1) u=(arcAt l last u).id::(if par l last u=v then []else ringFrom l last v m (par l last u)):=rfl
theorem ringFrom_len{l:List Arc}{last:List Int}{v:Int}:∀(m:Nat) (u:Int),(ringFrom l last v m u).length≤m
 |0,_=>by simp[ringFrom]
 |m+1,u=>by
  have:=ringFrom_len (l:=l) (last:=last) (v:=v) m (par l last u)
  rw[ringFrom_step]
  split<;>simp<;>omega
theorem ringL_len(x:Graph)(f:List Int):(ringL x f).length≤24:=by
 unfold ringL
 split
 ·rename_i h
  unfold ringOk at h
  simp only[Bool.and_eq_true]at h
  obtain⟨_,n2,_⟩:=flowOk_facts h.1
  unfold ringIt
  dsimp only
  split
  ·simp
  ·exact Nat.le_trans (ringFrom_len _ _) (by omega)
 ·simp
theorem ringIt_no{n:Nat}{l:List Arc}(h:(passes n l n).node<0):ringIt n l=([],false):=if_pos h
theorem ringIt_yes{n:Nat}{l:List Arc}(h:¬(passes n l n).node<0):ringIt n l=(ringFrom l (passes n l n).last (iter (par l (passes n l n).last) n (passes n l n).node) n (iter (par l (passes n l n).last) n (passes n l n).node),true):=if_neg h
theorem impl_Ring_c(x:Graph)(a0:Option Addr)(c0:Nat)(f:List Int)(a1:Option Addr)(c1:Nat)(w:World)(h0:SlR 4 repEdge w 0 w.heap.size (.slice a0 x.edges.length c0) x.edges)(h1:SlR 1 repInt w 0 w.heap.size (.slice a1 f.length c1) f) :
 Calls Try.prog 6 #[.agg #[.int .i64 x.n,.slice a0 x.edges.length c0],.slice a1 f.length c1] w fun e w'=>∃a c,e=.returned (.tuple #[.slice a (ringL x f).length c,.bool (ringOk x f)])∧Grow w w'∧SlR 1 repInt w' w.heap.size w'.heap.size (.slice a (ringL x f).length c) (ringL x f):=by
 obtain⟨i0,hi0,hz0,hz1,hz2⟩:=info_parts infoInt'
 cases hok:flowOk x f
 ·have H0:=Lib.hid h0;have H1:=Lib.hid h1
  clear h0 h1
  have HB:Hid (ringOk x f=false):=by
   show _=_
   unfold ringOk;rw[hok];rfl
  have HL:Hid (ringL x f=[]):=by
   show _=_
   unfold ringL;rw[HB.out];rfl
  go_enter Try.func6,Try.ntmps6
  go_wp2_with fail
  refine(impl_FlowOk_c x _ _ f _ _ _ (H0.out.grow' repEdge_stable (Grow.below ((Grow.refl w).alloc _ _))) (H1.out.grow' repInt_stable (Grow.below ((Grow.refl w).alloc _ _)))).mono ?_
  rintro e V1 ⟨rfl,gs⟩
  have ys:=Grow.size gs
  simp only[World.size_setCell,World.size_alloc]at ys
  have B0:Box V1 (w.heap.size) [.int .i64 x.n,.slice a0 x.edges.length c0]:=Box.grow (Box.newAt (by simp) _ _) gs
  have G:Grow w V1:=Grow.trans ((Grow.refl w).alloc _ _) gs
  clear gs
  have z0:=B0.lt
  have q0_0:V1.cell? ⟨w.heap.size,0,none⟩=some (.int .i64 x.n):=B0.c 0 _ rfl
  have q0_1:V1.cell? ⟨w.heap.size,1,none⟩=some (.slice a0 x.edges.length c0):=B0.c 1 _ rfl
  have f0:=B0.f
  rw[hok]
  go_wp2_with fail
  go_ret2
  exact⟨none,0,by rw[HL.out,HB.out];rfl,G,by rw[HL.out];exact SlR.nil⟩
 obtain⟨n1,n2,g2,hlen,-,-,-⟩:=flowOk_facts hok
 obtain⟨N,hN⟩:∃N:Nat,x.n=(N:Int):=⟨x.n.toNat,by omega⟩
 obtain⟨n,es⟩:=x
 simp only at hN n1 n2 g2 h0 hlen
 subst hN
 have hf60:f.length≤60:=by omega
 clear hlen
 have HOK:=Lib.hid hok;clear hok
 have H0:=Lib.hid h0;have H1:=Lib.hid h1
 clear h0 h1
 have hmk:=fun w=>madeInts N (by omega) w
 have HRB:Hid (ringOk ⟨(N:Int),es⟩ f=(ringIt N (arcsOf ⟨(N:Int),es⟩ f)).2):=by
  show _=_
  unfold ringOk;rw[HOK.out];rfl
 have HRL:Hid ((ringIt N (arcsOf ⟨(N:Int),es⟩ f)).2=true→ringL ⟨(N:Int),es⟩ f=(ringIt N (arcsOf ⟨(N:Int),es⟩ f)).1):=fun h=>if_pos (HRB.out.trans h)
 have HRN:Hid ((ringIt N (arcsOf ⟨(N:Int),es⟩ f)).2=false→ringL ⟨(N:Int),es⟩ f=[]):=fun h=>if_neg (by rw[HRB.out,h];simp)
 go_enter Try.func6,Try.ntmps6
 go_wp2_with fail
 refine(impl_FlowOk_c ⟨(N:Int),es⟩ _ _ f _ _ _ (H0.out.grow' repEdge_stable (Grow.below ((Grow.refl w).alloc _ _))) (H1.out.grow' repInt_stable (Grow.below ((Grow.refl w).alloc _ _)))).mono ?_
 rintro e V1 ⟨rfl,gs⟩
 have ys:=Grow.size gs
 simp only[World.size_setCell,World.size_alloc]at ys
 have B0:Box V1 (w.heap.size) [.int .i64 (N:Int),.slice a0 es.length c0]:=Box.grow (Box.newAt (by simp) _ _) gs
 have G:Grow w V1:=Grow.trans ((Grow.refl w).alloc _ _) gs
 clear gs
 have z0:=B0.lt
 have q0_0:V1.cell? ⟨w.heap.size,0,none⟩=some (.int .i64 (N:Int)):=B0.c 0 _ rfl
 have q0_1:V1.cell? ⟨w.heap.size,1,none⟩=some (.slice a0 es.length c0):=B0.c 1 _ rfl
 have f0:=B0.f
 rw[HOK.out]
 go_wp2_with fail
 refine(impl_arcs_c ⟨(N:Int),es⟩ _ _ f _ _ _ (H0.out.grow' repEdge_stable (Grow.below G)) (H1.out.grow' repInt_stable (Grow.below G)) HOK.out).mono ?_
 rintro e V2 ⟨aA,cA,rfl,gs,SA⟩
 clear z0 q0_0 q0_1 f0
 have ys:=Grow.size gs
 replace B0:Box V2 (w.heap.size) [.int .i64 (N:Int),.slice a0 es.length c0]:=Box.grow B0 gs
 replace G:Grow w V2:=Grow.trans G gs
 clear gs
 --
 have z0:=B0.lt
 have q0_0:V2.cell? ⟨w.heap.size,0,none⟩=some (.int .i64 (N:Int)):=B0.c 0 _ rfl
 have q0_1:V2.cell? ⟨w.heap.size,1,none⟩=some (.slice a0 es.length c0):=B0.c 1 _ rfl
 have f0:=B0.f
 have hal:=arcsOf_len HOK.out
 have HFI:=Lib.hid (arcs_fine HOK.out)
 generalize hl:arcsOf ⟨(N:Int),es⟩ f=l at *
 clear hl
 have hgs:w.heap.size<V2.heap.size:=B0.lt
 have HSA:Hid (SlR 5 repArc V2 (V1.heap.size) V2.heap.size (.slice aA l.length cA) l):=SA
 clear SA
 have HV:=Lib.hid G;have BV:=Lib.hid B0
 go_wp2_with fail
 go_region_held3 (fun W=>W.cell? ⟨w.heap.size,0,none⟩=some (.int .i64 (N:Int)))
  (first|exact q0_0|exact cellAlloc q0_0 _|exact cellAlloc (cellAlloc q0_0 _) _)
  (first|fail)
 ·have hmade:=IntsAt.made2 V2 N 3
  obtain⟨FS,FT⟩:=hmade
  have gW:Grow V2 (((V2.alloc (.cells (madeCells #[.int .i64 0] N) 3)).alloc (.cells (madeCells #[.int .i64 0] N) 3))).drew:=by repeat (first|exact Grow.refl _|(refine Grow.alloc ?_ _ _)|(refine Grow.drew ?_))
  have hsW:(((V2.alloc (.cells (madeCells #[.int .i64 0] N) 3)).alloc (.cells (madeCells #[.int .i64 0] N) 3))).drew.heap.size=V2.heap.size+2:=by simp
  have FS:IntsAt (((V2.alloc (.cells (madeCells #[.int .i64 0] N) 3)).alloc (.cells (madeCells #[.int .i64 0] N) 3))).drew V2.heap.size (List.replicate N 0):=FS
  have FT:IntsAt (((V2.alloc (.cells (madeCells #[.int .i64 0] N) 3)).alloc (.cells (madeCells #[.int .i64 0] N) 3))).drew (V2.heap.size+1) (List.replicate N 0):=FT
  obtain⟨W,hW⟩:∃W,W=(((V2.alloc (.cells (madeCells #[.int .i64 0] N) 3)).alloc (.cells (madeCells #[.int .i64 0] N) 3))).drew:=⟨_,rfl⟩
  rw[←hW]at gW FS FT hsW ⊢
  clear hW
  clear z0 q0_0 q0_1 f0
  replace G:=G.trans gW
  replace B0:=B0.grow gW
  have SA:SlR 5 repArc W (V1.heap.size) V2.heap.size (.slice aA l.length cA) l:=HSA.out.same repArc_stable (gW.same (Nat.le_refl _))
  clear gW
  obtain⟨lB,hlB⟩:∃b,b=V2.heap.size+1:=⟨_,rfl⟩
  rw[←hlB]at FT ⊢
  obtain⟨dB,hdB⟩:∃b,b=V2.heap.size:=⟨_,rfl⟩
  rw[←hdB]at FS
  have FD:IntsAt W dB (List.replicate N 0):=FS
  have FL:IntsAt W lB (List.replicate N 0):=FT
  clear FS FT
  have hv0:V2.heap.size=dB:=hdB.symm
  (try simp only[hv0])
  clear hv0
  have hne:dB≠lB:=by omega
  have hd1:V2.heap.size≤dB:=by omega
  have hd2:dB<W.heap.size:=by omega
  have hl1:V2.heap.size≤lB:=by omega
  have hl2:lB<W.heap.size:=by omega
  clear hdB hlB hsW
  have hd0:w.heap.size<dB:=by omega
  have hl0:w.heap.size<lB:=by omega
  have z0:=B0.lt
  have q0_0:W.cell? ⟨w.heap.size,0,none⟩=some (.int .i64 (N:Int)):=B0.c 0 _ rfl
  have q0_1:W.cell? ⟨w.heap.size,1,none⟩=some (.slice a0 es.length c0):=B0.c 1 _ rfl
  have f0:=B0.f
  go_wp2_with fail
  clear z0 q0_0 q0_1 f0
  go_loopg [9,30] N (fun g nd i wr=>∃k:Nat,k+g=N∧i=.int .i64 k∧nd=.int .i64 (passes N l k).node∧IntsAt wr dB (passes N l k).dist∧IntsAt wr lB (passes N l k).last∧SlR 5 repArc wr (V1.heap.size) V2.heap.size (.slice aA l.length cA) l∧dB<wr.heap.size∧lB<wr.heap.size∧Grow w wr∧Box wr (w.heap.size) [.int .i64 (N:Int),.slice a0 es.length c0])
  case atStart=>exact⟨0,by simp,rfl,rfl,FD,FL,SA,hd2,hl2,G,B0⟩
  case round=>
   clear G B0
   obtain⟨k,hk,rfl,rfl,FD,FL,SA,hdw,hlw,G,B0⟩:=hrel
   obtain⟨R3,rfl⟩:∃V,V=wr:=⟨_,rfl⟩
   by_cases hlt:k<N
   ·have HK:=Lib.hid hk;clear hk
    have hkn:(k:Int)<(N:Int):=by omega
    have z0:=B0.lt
    have q0_0:R3.cell? ⟨w.heap.size,0,none⟩=some (.int .i64 (N:Int)):=B0.c 0 _ rfl
    have q0_1:R3.cell? ⟨w.heap.size,1,none⟩=some (.slice a0 es.length c0):=B0.c 1 _ rfl
    have f0:=B0.f
    go_wp2_with fail
    have KD:=Lib.hid FD;have KL:=Lib.hid FL;have KS:=Lib.hid SA;clear FD FL SA
    clear z0 q0_0 q0_1 f0
    go_loopg [9,34] l.length (fun g nd i wi=>∃j:Nat,j+g=l.length∧i=.int .i64 j∧nd=.int .i64 (scan l ⟨(passes N l k).dist,(passes N l k).last,-1⟩ j).node∧IntsAt wi dB (scan l ⟨(passes N l k).dist,(passes N l k).last,-1⟩ j).dist∧IntsAt wi lB (scan l ⟨(passes N l k).dist,(passes N l k).last,-1⟩ j).last∧SlR 5 repArc wi (V1.heap.size) V2.heap.size (.slice aA l.length cA) l∧dB<wi.heap.size∧lB<wi.heap.size∧Grow w wi∧Box wi (w.heap.size) [.int .i64 (N:Int),.slice a0 es.length c0])
    case atStart=>exact⟨0,by simp,rfl,rfl,KD.out,KL.out,KS.out,hdw,hlw,G,B0⟩
    case round=>
     clear G B0
     obtain⟨j,hj,rfl,rfl,FD,FL,SA,hdw,hlw,G,B0⟩:=hrel
     obtain⟨R4,rfl⟩:∃V,V=wr:=⟨_,rfl⟩
     by_cases hjt:j<l.length
     ·have HJ:=Lib.hid hj;clear hj
      have HSC:Hid (scan l ⟨(passes N l k).dist,(passes N l k).last,-1⟩ (j+1)=relax (scan l ⟨(passes N l k).dist,(passes N l k).last,-1⟩ j) j l[j]):=scan_succ hjt
      obtain⟨hsd,hsl,hbd⟩:=scan_facts HFI.out hal (by omega) (by omega:k≤N) hjt
      generalize (scan l ⟨(passes N l k).dist,(passes N l k).last,-1⟩ j)=s at *
      obtain⟨b_a,off_a,ha_a,hb1_a,hb2_a,hel_a⟩:=SA.elems j hjt
      obtain⟨ea0,ea1,ea2,ea3,ea4,-⟩:=Arc.atCell hel_a j hjt
      clear hel_a
      have KA:=Lib.hid SA;clear SA
      subst ha_a
      obtain⟨p1,p2,p3,p4,p5,p6,p7,p8,p9,p10,p11⟩:=HFI.out _ (List.getElem_mem hjt)
      generalize l[j]=a at *
      obtain⟨fm,hfm⟩:=Int.eq_ofNat_of_zero_le p3
      obtain⟨tm,htm⟩:=Int.eq_ofNat_of_zero_le p5
      have hja:(j:Int)<(l.length:Int):=by omega
      have hj120:(j:Int)≤120:=by omega
      have hfl:fm<s.dist.length:=by omega
      have htl:tm<s.dist.length:=by omega
      have htl2:tm<s.last.length:=by omega
      have x0:=FD fm hfl
      have x1:=FD tm htl
      have x2:=FL tm htl2
      have HYES:Hid (s.dist[fm]+a.cost<s.dist[tm]→relax s j a=⟨s.dist.set tm (s.dist[fm]+a.cost),s.last.set tm (j:Int),a.to⟩):=fun h=>relax_at_yes hfm htm hfl htl h
      have HNOT:Hid (¬s.dist[fm]+a.cost<s.dist[tm]→relax s j a=s):=fun h=>relax_at_no hfm htm hfl htl h
      have hb0:=hbd fm hfl
      have hb1:=hbd tm htl
      obtain⟨hb01,hb02⟩:=hb0
      obtain⟨hb11,hb12⟩:=hb1
      clear hbd
      generalize s.dist[fm]=yf at *
      generalize s.dist[tm]=yt at *
      generalize s.last[tm]=ol at *
      have KD2:=Lib.hid FD;have KL2:=Lib.hid FL;clear FD FL
      obtain⟨aid,afr,ato,arm,aco⟩:=a
      simp only at hfm htm ea0 ea1 ea2 ea3 ea4 p1 p2 p3 p4 p5 p6 p7 p8 p9 p10 p11
      subst hfm htm
      have hfn:(fm:Int)<(N:Int):=by omega
      have htn:(tm:Int)<(N:Int):=by omega
      have hfn2:fm<N:=by omega
      have htn2:tm<N:=by omega
      have KSD:=Lib.hid hsd;have KSL:=Lib.hid hsl;clear hsd hsl
      have z0:=B0.lt
      have q0_0:R4.cell? ⟨w.heap.size,0,none⟩=some (.int .i64 (N:Int)):=B0.c 0 _ rfl
      have q0_1:R4.cell? ⟨w.heap.size,1,none⟩=some (.slice a0 es.length c0):=B0.c 1 _ rfl
      have f0:=B0.f
      by_cases t:yf+aco<yt
      ·have T:decide (yf+aco<yt)=true:=by simp;omega
       have HT:=Lib.hid (HYES.out t)
       go_wp2_with fail
       have gU:Grow R4 (R4.alloc (.cells #[.int .i64 aid,.int .i64 (fm:Int),.int .i64 (tm:Int),.int .i64 arm,.int .i64 aco] 44)):=(Grow.refl _).alloc _ _
       have BU:Box (R4.alloc (.cells #[.int .i64 aid,.int .i64 (fm:Int),.int .i64 (tm:Int),.int .i64 arm,.int .i64 aco] 44)) R4.heap.size [.int .i64 aid,.int .i64 (fm:Int),.int .i64 (tm:Int),.int .i64 arm,.int .i64 aco]:=Box.new R4 _ _
       obtain⟨U,hU⟩:∃U,U=R4.alloc (.cells #[.int .i64 aid,.int .i64 (fm:Int),.int .i64 (tm:Int),.int .i64 arm,.int .i64 aco] 44):=⟨_,rfl⟩
       rw[←hU]at gU BU ⊢
       clear hU
       clear z0 q0_0 q0_1 f0
       replace G:=G.trans gU
       replace B0:=B0.grow gU
       replace x0:=cellGrow gU x0
       replace x1:=cellGrow gU x1
       replace x2:=cellGrow gU x2
       clear ea0 ea1 ea2 ea3 ea4
       have hzU:=gU.size
       have zb:=BU.lt
       have eb0:U.cell? ⟨R4.heap.size,0,none⟩=some (.int .i64 aid):=BU.c 0 _ rfl
       have eb1:U.cell? ⟨R4.heap.size,1,none⟩=some (.int .i64 (fm:Int)):=BU.c 1 _ rfl
       have eb2:U.cell? ⟨R4.heap.size,2,none⟩=some (.int .i64 (tm:Int)):=BU.c 2 _ rfl
       have eb3:U.cell? ⟨R4.heap.size,3,none⟩=some (.int .i64 arm):=BU.c 3 _ rfl
       have eb4:U.cell? ⟨R4.heap.size,4,none⟩=some (.int .i64 aco):=BU.c 4 _ rfl
       have z0:=B0.lt
       have q0_0:U.cell? ⟨w.heap.size,0,none⟩=some (.int .i64 (N:Int)):=B0.c 0 _ rfl
       have q0_1:U.cell? ⟨w.heap.size,1,none⟩=some (.slice a0 es.length c0):=B0.c 1 _ rfl
       have f0:=B0.f
       go_quiet (fail)
       go_wp2_with fail
       have gD:Grow U (U.drewN nq):=(Grow.refl U).drewN _
       obtain⟨D,hD⟩:∃D,D=U.drewN nq:=⟨_,rfl⟩
       rw[←hD]at gD ⊢
       clear hD
       clear z0 q0_0 q0_1 f0
       have KU:=Lib.hid (gU.trans gD)
       replace G:=G.trans gD
       replace B0:=B0.grow gD
       replace BU:=BU.grow gD
       replace x0:=cellGrow gD x0
       replace x1:=cellGrow gD x1
       replace x2:=cellGrow gD x2
       clear eb0 eb1 eb2 eb3 eb4 zb hzU gU gD
       have zb:=BU.lt
       have hzd:dB<D.heap.size:=lt_of_cell x0
       have hzl:lB<D.heap.size:=lt_of_cell x2
       have eb0:D.cell? ⟨R4.heap.size,0,none⟩=some (.int .i64 aid):=BU.c 0 _ rfl
       have eb1:D.cell? ⟨R4.heap.size,1,none⟩=some (.int .i64 (fm:Int)):=BU.c 1 _ rfl
       have eb2:D.cell? ⟨R4.heap.size,2,none⟩=some (.int .i64 (tm:Int)):=BU.c 2 _ rfl
       have eb3:D.cell? ⟨R4.heap.size,3,none⟩=some (.int .i64 arm):=BU.c 3 _ rfl
       have eb4:D.cell? ⟨R4.heap.size,4,none⟩=some (.int .i64 aco):=BU.c 4 _ rfl
       have z0:=B0.lt
       have q0_0:D.cell? ⟨w.heap.size,0,none⟩=some (.int .i64 (N:Int)):=B0.c 0 _ rfl
       have q0_1:D.cell? ⟨w.heap.size,1,none⟩=some (.slice a0 es.length c0):=B0.c 1 _ rfl
       have f0:=B0.f
       have hdr:dB<R4.heap.size:=hdw
       have hlr:lB<R4.heap.size:=hlw
       have fzd:∀o,D.frozen? ⟨dB,o,none⟩=false:=fun o=>G.nf dB o (by omega) (by omega)
       have fzl:∀o,D.frozen? ⟨lB,o,none⟩=false:=fun o=>G.nf lB o (by omega) (by omega)
       go_still_tail 12,(by kernel_rfl)
       have gE:Grow D D.drew:=(Grow.refl D).drew
       change wpList _ _ _ _ _ D.drew
       have m1:(D.drew.setCell ⟨dB,tm,none⟩ (.int .i64 (yf+aco))).cell? ⟨R4.heap.size,2,none⟩=some (.int .i64 (tm:Int)):=cellSet (p:=⟨dB,tm,none⟩) (cellGrow gE eb2) (by show dB≠_;omega)
       have m2:(D.drew.setCell ⟨dB,tm,none⟩ (.int .i64 (yf+aco))).cell? ⟨lB,tm,none⟩=some (.int .i64 ol):=cellSet (p:=⟨dB,tm,none⟩) (cellGrow gE x2) (by show dB≠_;omega)
       have m3:∀o,(D.drew.setCell ⟨dB,tm,none⟩ (.int .i64 (yf+aco))).frozen? ⟨lB,o,none⟩=false:=fun o=>by rw[World.frozen?_setCell];exact fzl o
       have m4:((D.drew.setCell ⟨dB,tm,none⟩ (.int .i64 (yf+aco))).setCell ⟨lB,tm,none⟩ (.int .i64 (j:Int))).cell? ⟨R4.heap.size,2,none⟩=some (.int .i64 (tm:Int)):=cellSet (p:=⟨lB,tm,none⟩) m1 (by show lB≠_;omega)
       go_wp2_with fail
       go_roundg (l.length-(j+1))
       case measure=>have:=HJ.out;omega
       case rel=>
        have gf:Grow R4 D.drew:=KU.out.drew
        refine⟨j+1,by have:=HJ.out;omega,by go_num,by rw[HSC.out,HT.out],?_,?_,?_,?_,?_,(G.drew.setCell (by show w.heap.size≤dB;omega) _).setCell (by show w.heap.size≤lB;omega) _,(B0.drew.other (by show dB≠_;omega) _).other (by show lB≠_;omega) _⟩
        ·rw[HSC.out,HT.out];exact((KD2.out.grow gf).set (by have:=KSD.out;omega) _).other (by show lB≠dB;omega) _
        ·rw[HSC.out,HT.out];exact((KL2.out.grow gf).other (by show dB≠lB;omega) _).set (by have:=KSL.out;omega) _
        ·exact KA.out.same repArc_stable (((gf.same (by omega)).setCell (p:=⟨dB,tm,none⟩) (.inr hd1) _).setCell (p:=⟨lB,tm,none⟩) (.inr hl1) _)
        ·show _<((D.setCell _ _).setCell _ _).heap.size;rw[World.size_setCell,World.size_setCell];exact hzd
        ·show _<((D.setCell _ _).setCell _ _).heap.size;rw[World.size_setCell,World.size_setCell];exact hzl
      ·have T:decide (yf+aco<yt)=false:=by simp;omega
       have HT:=Lib.hid (HNOT.out t)
       go_wp2_with fail
       have gU:Grow R4 (R4.alloc (.cells #[.int .i64 aid,.int .i64 (fm:Int),.int .i64 (tm:Int),.int .i64 arm,.int .i64 aco] 44)):=(Grow.refl _).alloc _ _
       have BU:Box (R4.alloc (.cells #[.int .i64 aid,.int .i64 (fm:Int),.int .i64 (tm:Int),.int .i64 arm,.int .i64 aco] 44)) R4.heap.size [.int .i64 aid,.int .i64 (fm:Int),.int .i64 (tm:Int),.int .i64 arm,.int .i64 aco]:=Box.new R4 _ _
       obtain⟨U,hU⟩:∃U,U=R4.alloc (.cells #[.int .i64 aid,.int .i64 (fm:Int),.int .i64 (tm:Int),.int .i64 arm,.int .i64 aco] 44):=⟨_,rfl⟩
       rw[←hU]at gU BU ⊢
       clear hU
       clear z0 q0_0 q0_1 f0
       replace G:=G.trans gU
       replace B0:=B0.grow gU
       replace x0:=cellGrow gU x0
       replace x1:=cellGrow gU x1
       replace x2:=cellGrow gU x2
       clear ea0 ea1 ea2 ea3 ea4
       have hzU:=gU.size
       have zb:=BU.lt
       have eb0:U.cell? ⟨R4.heap.size,0,none⟩=some (.int .i64 aid):=BU.c 0 _ rfl
       have eb1:U.cell? ⟨R4.heap.size,1,none⟩=some (.int .i64 (fm:Int)):=BU.c 1 _ rfl
       have eb2:U.cell? ⟨R4.heap.size,2,none⟩=some (.int .i64 (tm:Int)):=BU.c 2 _ rfl
       have eb3:U.cell? ⟨R4.heap.size,3,none⟩=some (.int .i64 arm):=BU.c 3 _ rfl
       have eb4:U.cell? ⟨R4.heap.size,4,none⟩=some (.int .i64 aco):=BU.c 4 _ rfl
       have z0:=B0.lt
       have q0_0:U.cell? ⟨w.heap.size,0,none⟩=some (.int .i64 (N:Int)):=B0.c 0 _ rfl
       have q0_1:U.cell? ⟨w.heap.size,1,none⟩=some (.slice a0 es.length c0):=B0.c 1 _ rfl
       have f0:=B0.f
       go_quiet (fail)
       go_wp2_with fail
       have gD:Grow U (U.drewN nq):=(Grow.refl U).drewN _
       obtain⟨D,hD⟩:∃D,D=U.drewN nq:=⟨_,rfl⟩
       rw[←hD]at gD ⊢
       clear hD
       clear z0 q0_0 q0_1 f0
       have KU:=Lib.hid (gU.trans gD)
       replace G:=G.trans gD
       replace B0:=B0.grow gD
       replace BU:=BU.grow gD
       replace x0:=cellGrow gD x0
       replace x1:=cellGrow gD x1
       replace x2:=cellGrow gD x2
       clear eb0 eb1 eb2 eb3 eb4 zb hzU gU gD
       have zb:=BU.lt
       have hzd:dB<D.heap.size:=lt_of_cell x0
       have hzl:lB<D.heap.size:=lt_of_cell x2
       have eb0:D.cell? ⟨R4.heap.size,0,none⟩=some (.int .i64 aid):=BU.c 0 _ rfl
       have eb1:D.cell? ⟨R4.heap.size,1,none⟩=some (.int .i64 (fm:Int)):=BU.c 1 _ rfl
       have eb2:D.cell? ⟨R4.heap.size,2,none⟩=some (.int .i64 (tm:Int)):=BU.c 2 _ rfl
       have eb3:D.cell? ⟨R4.heap.size,3,none⟩=some (.int .i64 arm):=BU.c 3 _ rfl
       have eb4:D.cell? ⟨R4.heap.size,4,none⟩=some (.int .i64 aco):=BU.c 4 _ rfl
       have z0:=B0.lt
       have q0_0:D.cell? ⟨w.heap.size,0,none⟩=some (.int .i64 (N:Int)):=B0.c 0 _ rfl
       have q0_1:D.cell? ⟨w.heap.size,1,none⟩=some (.slice a0 es.length c0):=B0.c 1 _ rfl
       have f0:=B0.f
       go_roundg (l.length-(j+1))
       case measure=>have:=HJ.out;omega
       case rel=>exact⟨j+1,by have:=HJ.out;omega,by go_num,by rw[HSC.out,HT.out],by rw[HSC.out,HT.out];exact KD2.out.grow KU.out,by rw[HSC.out,HT.out];exact KL2.out.grow KU.out,KA.out.same repArc_stable (KU.out.same (by omega)),hzd,hzl,G,B0⟩
     ·obtain rfl:j=l.length:=by omega
      clear hj hjt
      have KD2:=Lib.hid FD;have KL2:=Lib.hid FL;have KS2:=Lib.hid SA;clear FD FL SA
      have z0:=B0.lt
      have q0_0:R4.cell? ⟨w.heap.size,0,none⟩=some (.int .i64 (N:Int)):=B0.c 0 _ rfl
      have q0_1:R4.cell? ⟨w.heap.size,1,none⟩=some (.slice a0 es.length c0):=B0.c 1 _ rfl
      have f0:=B0.f
      go_wp2_with fail
      go_roundg (N-(k+1))
      case measure=>have:=HK.out;omega
      case rel=>exact⟨k+1,by have:=HK.out;omega,by go_num,rfl,KD2.out,KL2.out,KS2.out,hdw,hlw,G,B0⟩
   ·obtain rfl:N=k:=by omega
    clear hk hlt
    clear FD
    have z0:=B0.lt
    have q0_0:R3.cell? ⟨w.heap.size,0,none⟩=some (.int .i64 (N:Int)):=B0.c 0 _ rfl
    have q0_1:R3.cell? ⟨w.heap.size,1,none⟩=some (.slice a0 es.length c0):=B0.c 1 _ rfl
    have f0:=B0.f
    by_cases hnd:(passes N l N).node<0
    ·have hri:=ringIt_no hnd
     have HB:Hid (ringOk ⟨(N:Int),es⟩ f=false):=by
      show _=_
      rw[HRB.out,hri]
     have HL:Hid (ringL ⟨(N:Int),es⟩ f=[]):=HRN.out (by rw[hri])
     generalize (passes N l N).node=nd at *
     have hq:decide (nd<0)=true:=by simp;omega
     go_wp2_with fail
     go_ret2
     exact⟨none,0,by rw[HL.out,HB.out];rfl,G,by rw[HL.out];exact SlR.nil⟩
    have hri:=ringIt_yes hnd
    have HB:Hid (ringOk ⟨(N:Int),es⟩ f=true):=by
     show _=_
     rw[HRB.out,hri]
    have HL:Hid (ringL ⟨(N:Int),es⟩ f=ringFrom l (passes N l N).last (iter (par l (passes N l N).last) N (passes N l N).node) N (iter (par l (passes N l N).last) N (passes N l N).node)):=by
     show _=_
     rw[HRL.out (by rw[hri]),hri]
    clear hri
    have hl1:1≤l.length:=by
     rcases Nat.eq_zero_or_pos l.length with q|q
     ·exfalso
      have e:l=[]:=List.eq_nil_of_length_eq_zero q
      rw[e,passes_nil]at hnd
      omega
     ·omega
    have hfin:=passes_fine HFI.out hl1 N
    generalize passes N l N=s at *
    have hst:=par_stays HFI.out hfin
    have hnk:s.node<(N:Int):=hfin.2.2.1
    have hn0:0≤s.node:=by omega
    have HST:=Lib.hid hst;clear hst
    have HFIN:=Lib.hid hfin;clear hfin
    generalize s.node=nd at *
    have hq:decide (nd<0)=false:=by simp;omega
    clear hnd
    go_wp2_with fail
    clear z0 q0_0 q0_1 f0
    go_loopg [9,78] N (fun g nv i wr=>∃m:Nat,m+g=N∧i=.int .i64 m∧nv=.int .i64 (iter (par l s.last) m nd)∧IntsAt wr lB s.last∧SlR 5 repArc wr (V1.heap.size) V2.heap.size (.slice aA l.length cA) l∧Grow w wr∧Box wr (w.heap.size) [.int .i64 (N:Int),.slice a0 es.length c0])
    case atStart=>exact⟨0,by simp,rfl,rfl,FL,SA,G,B0⟩
    case round=>
     clear G B0
     obtain⟨m,hm,rfl,rfl,FL,SA,G,B0⟩:=hrel
     obtain⟨R5,rfl⟩:∃V,V=wr:=⟨_,rfl⟩
     by_cases hlt:m<N
     ·have HK:=Lib.hid hm;clear hm
      have hb:=HST.out.iter hn0 hnk m
      obtain⟨hb1,hb2⟩:=hb
      have HIT:Hid (iter (par l s.last) (m+1) nd=par l s.last (iter (par l s.last) m nd)):=rfl
      generalize iter (par l s.last) m nd=u at *
      obtain⟨un,rfl⟩:=Int.eq_ofNat_of_zero_le hb1
      obtain⟨q,hq1,hq2,hq3,hq4,hq5⟩:=par_at HFIN.out (show un<N by omega)
      have x0:=FL un hq1
      rw[hq3]at x0
      obtain⟨b_a,off_a,ha_a,hb1_a,hb2_a,hel_a⟩:=SA.elems q hq2
      obtain⟨ea0,ea1,ea2,ea3,ea4,-⟩:=Arc.atCell hel_a q hq2
      clear hel_a
      have KA:=Lib.hid SA;clear SA
      have KL2:=Lib.hid FL;clear FL
      subst ha_a
      have HQ5:=Lib.hid hq5;clear hq5 hq3 hq4
      generalize l[q]=a at *
      have hmk2:(m:Int)<(N:Int):=by omega
      have hqi:(q:Int)<(l.length:Int):=by omega
      have hq120:q<120:=by omega
      have z0:=B0.lt
      have q0_0:R5.cell? ⟨w.heap.size,0,none⟩=some (.int .i64 (N:Int)):=B0.c 0 _ rfl
      have q0_1:R5.cell? ⟨w.heap.size,1,none⟩=some (.slice a0 es.length c0):=B0.c 1 _ rfl
      have f0:=B0.f
      have hzl:lB<R5.heap.size:=lt_of_cell x0
      go_wp2_with fail
      go_roundg (N-(m+1))
      case measure=>have:=HK.out;omega
      case rel=>exact⟨m+1,by have:=HK.out;omega,by go_num,by rw[HIT.out,HQ5.out],KL2.out,KA.out,G,B0⟩
     ·obtain rfl:N=m:=by omega
      clear hm hlt
      have hb:=HST.out.iter hn0 hnk N
      obtain⟨hb1,hb2⟩:=hb
      have hcb:=comes_back HST.out hn0 hnk
      generalize iter (par l s.last) N nd=v at *
      have z0:=B0.lt
      have q0_0:R5.cell? ⟨w.heap.size,0,none⟩=some (.int .i64 (N:Int)):=B0.c 0 _ rfl
      have q0_1:R5.cell? ⟨w.heap.size,1,none⟩=some (.slice a0 es.length c0):=B0.c 1 _ rfl
      have f0:=B0.f
      go_wp2_with fail
      have HFL:=Lib.hid FL;have KS2:=Lib.hid SA;have HG0:=Lib.hid G;have HB0:=Lib.hid B0
      clear FL SA G B0 z0 q0_0 q0_1 f0
      have HCB:=Lib.hid hcb;clear hcb
      go_loopg [12,13] N (fun g vo u wr=>∃(out:List Int) (un:Int) (gg:Nat),gg=g∧u=.int .i64 un∧Grow R5 wr∧wr.ownsRow R5.heap.size 3 1 vo out.length (out.map (Value.int .i64))∧out++ringFrom l s.last v gg un=ringFrom l s.last v N v∧(∃d,1≤d∧d≤gg∧iter (par l s.last) d un=v)∧0≤un∧un<N∧out.length+gg=N∧(∀y∈out,i64 y))
      case atStart=>exact⟨[],v,N,rfl,rfl,Grow.refl _,World.ownsRow_nil _ _ _ _,rfl,HCB.out,hb1,hb2,by simp,by simp⟩
      case round=>
       obtain⟨out,un,gg,hgg,rfl,hg,hown,heq,⟨d,hd3,hd4,hd5⟩,hu1,hu2,hlen,hi64⟩:=hrel
       obtain⟨R9,rfl⟩:∃V,V=wr:=⟨_,rfl⟩
       obtain⟨un,rfl⟩:=Int.eq_ofNat_of_zero_le hu1
       obtain⟨q,hq1,hq2,hq3,hq4,hq5⟩:=par_at HFIN.out (show un<N by omega)
       have x0:=cellGrow hg (HFL.out un hq1)
       rw[hq3]at x0
       obtain⟨b_a,off_a,ha_a,hb1_a,hb2_a,hel_a⟩:=KS2.out.elems q hq2
       obtain⟨ea0,ea1,ea2,ea3,ea4,hwa⟩:=Arc.atCell hel_a q hq2
       clear hel_a
       subst ha_a
       replace ea0:=cellGrow hg ea0
       replace ea1:=cellGrow hg ea1
       replace ea2:=cellGrow hg ea2
       replace ea3:=cellGrow hg ea3
       replace ea4:=cellGrow hg ea4
       obtain⟨hwa,-⟩:=hwa
       have hst1:=HST.out (un:Int) hu1 hu2
       rcases gg with _|gg
       ·omega
       rw[ringFrom_step,hq4]at heq
       rw[hq5]at heq hst1
       have hpd:d=1→l[q].frm=v:=fun h=>by rw[←hq5,←hd5,h];rfl
       have hpd2:iter (par l s.last) (d-1) l[q].frm=v:=by
        rw[←hq5,←iter_succ',show d-1+1=d by omega];exact hd5
       have HQ5:=Lib.hid hq5;clear hq5 hq3 hq4
       obtain⟨p1,p2,p3,p4,p5,p6,p7,p8,p9,p10,p11⟩:=HFI.out _ (List.getElem_mem hq2)
       generalize l[q]=a at *
       have HEQ:=Lib.hid heq;have HOWN:=Lib.hid hown;have HGW:=Lib.hid hg;have HP2:=Lib.hid hpd2;have HPD:=Lib.hid hpd;have HI:=Lib.hid hi64;clear heq hown hpd2 hpd hi64 hg hd5
       have hqi:(q:Int)<(l.length:Int):=by omega
       have hq120:q<120:=by omega
       have hum:(un:Int)<(N:Int):=by omega
       have HGG:=Lib.hid hgg;clear hgg
       have hol:out.length≤24:=by omega
       have HLEN:=Lib.hid hlen;clear hlen
       by_cases tv:a.frm=v
       ·have T:(a.frm==v)=true:=by simpa using tv
        have HTV:=Lib.hid tv;clear tv
        go_wp2_with (at_builtin
                     go_loud (refine wpList_append_g rfl (.tmp 97) (.tmp 100) 26 rfl R5 (show Grow R5 _ by refine Grow.trans HGW.out (b:=R9) ?_;repeat (first|exact Grow.refl _|(refine Grow.alloc ?_ _ _))) 3 i0 _ 1 8 Try.underlying26 hi0 hz0 hz1 hz2 rfl (by omega) u12 out.length (out.map (Value.int .i64)) rfl (own_grow HOWN.out (show Grow R9 _ by repeat (first|exact Grow.refl _|(refine Grow.alloc ?_ _ _)))) ⟨R9.heap.size+1,0,none⟩ 1 1 [.int .i64 a.id] (by first|rfl|simp) rfl (one_newI _ _ _ _ _) (fun u hu=>by rw[List.mem_singleton.1 hu];rfl) (by simp only[maxLen];omega) (by omega) ?_)
                     intro v1 w1 hown' hg' hgb hat
                     have HOWN1:=Lib.hid hown';have HG1:=Lib.hid hg';have HGB1:=Lib.hid hgb
                     have r1:∀j u,[Value.int .i64 a.id,.int .i64 a.frm,.int .i64 a.to,.int .i64 a.room,.int .i64 a.cost][j]? = some u→w1.cell? ⟨R9.heap.size,j,none⟩=some u:=fun j u h=>cellKept HGB1.out (own_ne HOWN.out (Nat.le_refl _)) (cellAlloc (cell_new j (by simpa using h)) _)
                     have r1_0:=r1 0 _ rfl;have r1_1:=r1 1 _ rfl;have zz:R9.heap.size<w1.heap.size:=lt_of_cell r1_0
                     clear r1 hown' hg' hgb hat)
        have hown2:w1.ownsRow R5.heap.size 3 1 v1 (out++[a.id]).length ((out++[a.id]).map (Value.int .i64)):=by have:=HOWN1.out;rwa [List.map_append,List.length_append]
        have htot:out++[a.id]=ringL ⟨(N:Int),es⟩ f:=by
         have:=HEQ.out
         rw[if_pos HTV.out]at this
         rw[this];exact HL.out.symm
        have SO:=ints_own hown2 (fun y hy=>by
         rcases List.mem_append.1 hy with h|h
         ·exact HI.out y h
         ·rw[List.mem_singleton.1 h];exact hwa)
        rw[htot]at SO
        clear hown2
        have SO:=SO.stable repInt_stable (Same.refl _ _ _) (lo':=w.heap.size) (by have:=HG0.out.size;omega) (Nat.le_refl _)
        have SO':=SO
        obtain⟨aO,cO,rfl,_,_,_⟩:=SO'
        have HSO:=Lib.hid SO;clear SO
        go_ret2
        exact⟨aO,cO,by rw[HB.out];rfl,HG0.out.trans HG1.out,HSO.out⟩
       ·have T:(a.frm==v)=false:=by simpa using tv
        have HTV:=Lib.hid tv;clear tv
        go_wp2_with (at_builtin
                     go_loud (refine wpList_append_g rfl (.tmp 97) (.tmp 100) 26 rfl R5 (show Grow R5 _ by refine Grow.trans HGW.out (b:=R9) ?_;repeat (first|exact Grow.refl _|(refine Grow.alloc ?_ _ _))) 3 i0 _ 1 8 Try.underlying26 hi0 hz0 hz1 hz2 rfl (by omega) u12 out.length (out.map (Value.int .i64)) rfl (own_grow HOWN.out (show Grow R9 _ by repeat (first|exact Grow.refl _|(refine Grow.alloc ?_ _ _)))) ⟨R9.heap.size+1,0,none⟩ 1 1 [.int .i64 a.id] (by first|rfl|simp) rfl (one_newI _ _ _ _ _) (fun u hu=>by rw[List.mem_singleton.1 hu];rfl) (by simp only[maxLen];omega) (by omega) ?_)
                     intro v1 w1 hown' hg' hgb hat
                     have HOWN1:=Lib.hid hown';have HG1:=Lib.hid hg';have HGB1:=Lib.hid hgb
                     have r1:∀j u,[Value.int .i64 a.id,.int .i64 a.frm,.int .i64 a.to,.int .i64 a.room,.int .i64 a.cost][j]? = some u→w1.cell? ⟨R9.heap.size,j,none⟩=some u:=fun j u h=>cellKept HGB1.out (own_ne HOWN.out (Nat.le_refl _)) (cellAlloc (cell_new j (by simpa using h)) _)
                     have r1_0:=r1 0 _ rfl;have r1_1:=r1 1 _ rfl;have zz:R9.heap.size<w1.heap.size:=lt_of_cell r1_0
                     clear r1 hown' hg' hgb hat)
        have hown2:w1.ownsRow R5.heap.size 3 1 v1 (out++[a.id]).length ((out++[a.id]).map (Value.int .i64)):=by have:=HOWN1.out;rwa [List.map_append,List.length_append]
        have HOWN2:=Lib.hid hown2;clear hown2
        go_roundg gg
        case measure=>have:=HGG.out;omega
        case rel=>exact⟨out++[a.id],a.frm,gg,rfl,rfl,HG1.out,HOWN2.out,by have:=HEQ.out;rw[if_neg HTV.out]at this;rw[←this];simp,⟨d-1,by rcases Nat.lt_or_ge 1 d with h|h;(· omega);exact absurd (HPD.out (by omega)) HTV.out,by omega,HP2.out⟩,hst1.1,hst1.2,by have:=HLEN.out;simp;omega,fun y hy=>by
         rcases List.mem_append.1 hy with h|h
         ·exact HI.out y h
         ·rw[List.mem_singleton.1 h];exact hwa⟩
 ·have hmade:=IntsAt.made2 V2 N 3
  obtain⟨FS,FT⟩:=hmade
  have gW:Grow V2 (((V2.alloc (.cells (madeCells #[.int .i64 0] N) 3)).alloc (.cells (madeCells #[.int .i64 0] N) 3))).drew:=by repeat (first|exact Grow.refl _|(refine Grow.alloc ?_ _ _)|(refine Grow.drew ?_))
  have hsW:(((V2.alloc (.cells (madeCells #[.int .i64 0] N) 3)).alloc (.cells (madeCells #[.int .i64 0] N) 3))).drew.heap.size=V2.heap.size+2:=by simp
  have FS:IntsAt (((V2.alloc (.cells (madeCells #[.int .i64 0] N) 3)).alloc (.cells (madeCells #[.int .i64 0] N) 3))).drew V2.heap.size (List.replicate N 0):=FS
  have FT:IntsAt (((V2.alloc (.cells (madeCells #[.int .i64 0] N) 3)).alloc (.cells (madeCells #[.int .i64 0] N) 3))).drew (V2.heap.size+1) (List.replicate N 0):=FT
  obtain⟨W,hW⟩:∃W,W=(((V2.alloc (.cells (madeCells #[.int .i64 0] N) 3)).alloc (.cells (madeCells #[.int .i64 0] N) 3))).drew:=⟨_,rfl⟩
  rw[←hW]at gW FS FT hsW ⊢
  clear hW
  clear z0 q0_0 q0_1 f0
  replace G:=G.trans gW
  replace B0:=B0.grow gW
  have SA:SlR 5 repArc W (V1.heap.size) V2.heap.size (.slice aA l.length cA) l:=HSA.out.same repArc_stable (gW.same (Nat.le_refl _))
  clear gW
  obtain⟨dB,hdB⟩:∃b,b=V2.heap.size+1:=⟨_,rfl⟩
  rw[←hdB]at FT ⊢
  obtain⟨lB,hlB⟩:∃b,b=V2.heap.size:=⟨_,rfl⟩
  rw[←hlB]at FS
  have FD:IntsAt W dB (List.replicate N 0):=FT
  have FL:IntsAt W lB (List.replicate N 0):=FS
  clear FS FT
  have hv0:V2.heap.size=lB:=hlB.symm
  (try simp only[hv0])
  clear hv0
  have hne:dB≠lB:=by omega
  have hd1:V2.heap.size≤dB:=by omega
  have hd2:dB<W.heap.size:=by omega
  have hl1:V2.heap.size≤lB:=by omega
  have hl2:lB<W.heap.size:=by omega
  clear hdB hlB hsW
  have hd0:w.heap.size<dB:=by omega
  have hl0:w.heap.size<lB:=by omega
  have z0:=B0.lt
  have q0_0:W.cell? ⟨w.heap.size,0,none⟩=some (.int .i64 (N:Int)):=B0.c 0 _ rfl
  have q0_1:W.cell? ⟨w.heap.size,1,none⟩=some (.slice a0 es.length c0):=B0.c 1 _ rfl
  have f0:=B0.f
  go_wp2_with fail
  clear z0 q0_0 q0_1 f0
  go_loopg [9,30] N (fun g nd i wr=>∃k:Nat,k+g=N∧i=.int .i64 k∧nd=.int .i64 (passes N l k).node∧IntsAt wr dB (passes N l k).dist∧IntsAt wr lB (passes N l k).last∧SlR 5 repArc wr (V1.heap.size) V2.heap.size (.slice aA l.length cA) l∧dB<wr.heap.size∧lB<wr.heap.size∧Grow w wr∧Box wr (w.heap.size) [.int .i64 (N:Int),.slice a0 es.length c0])
  case atStart=>exact⟨0,by simp,rfl,rfl,FD,FL,SA,hd2,hl2,G,B0⟩
  case round=>
   clear G B0
   obtain⟨k,hk,rfl,rfl,FD,FL,SA,hdw,hlw,G,B0⟩:=hrel
   obtain⟨R6,rfl⟩:∃V,V=wr:=⟨_,rfl⟩
   by_cases hlt:k<N
   ·have HK:=Lib.hid hk;clear hk
    have hkn:(k:Int)<(N:Int):=by omega
    have z0:=B0.lt
    have q0_0:R6.cell? ⟨w.heap.size,0,none⟩=some (.int .i64 (N:Int)):=B0.c 0 _ rfl
    have q0_1:R6.cell? ⟨w.heap.size,1,none⟩=some (.slice a0 es.length c0):=B0.c 1 _ rfl
    have f0:=B0.f
    go_wp2_with fail
    have KD:=Lib.hid FD;have KL:=Lib.hid FL;have KS:=Lib.hid SA;clear FD FL SA
    clear z0 q0_0 q0_1 f0
    go_loopg [9,34] l.length (fun g nd i wi=>∃j:Nat,j+g=l.length∧i=.int .i64 j∧nd=.int .i64 (scan l ⟨(passes N l k).dist,(passes N l k).last,-1⟩ j).node∧IntsAt wi dB (scan l ⟨(passes N l k).dist,(passes N l k).last,-1⟩ j).dist∧IntsAt wi lB (scan l ⟨(passes N l k).dist,(passes N l k).last,-1⟩ j).last∧SlR 5 repArc wi (V1.heap.size) V2.heap.size (.slice aA l.length cA) l∧dB<wi.heap.size∧lB<wi.heap.size∧Grow w wi∧Box wi (w.heap.size) [.int .i64 (N:Int),.slice a0 es.length c0])
    case atStart=>exact⟨0,by simp,rfl,rfl,KD.out,KL.out,KS.out,hdw,hlw,G,B0⟩
    case round=>
     clear G B0
     obtain⟨j,hj,rfl,rfl,FD,FL,SA,hdw,hlw,G,B0⟩:=hrel
     obtain⟨R7,rfl⟩:∃V,V=wr:=⟨_,rfl⟩
     by_cases hjt:j<l.length
     ·have HJ:=Lib.hid hj;clear hj
      have HSC:Hid (scan l ⟨(passes N l k).dist,(passes N l k).last,-1⟩ (j+1)=relax (scan l ⟨(passes N l k).dist,(passes N l k).last,-1⟩ j) j l[j]):=scan_succ hjt
      obtain⟨hsd,hsl,hbd⟩:=scan_facts HFI.out hal (by omega) (by omega:k≤N) hjt
      generalize (scan l ⟨(passes N l k).dist,(passes N l k).last,-1⟩ j)=s at *
      obtain⟨b_a,off_a,ha_a,hb1_a,hb2_a,hel_a⟩:=SA.elems j hjt
      obtain⟨ea0,ea1,ea2,ea3,ea4,-⟩:=Arc.atCell hel_a j hjt
      clear hel_a
      have KA:=Lib.hid SA;clear SA
      subst ha_a
      obtain⟨p1,p2,p3,p4,p5,p6,p7,p8,p9,p10,p11⟩:=HFI.out _ (List.getElem_mem hjt)
      generalize l[j]=a at *
      obtain⟨fm,hfm⟩:=Int.eq_ofNat_of_zero_le p3
      obtain⟨tm,htm⟩:=Int.eq_ofNat_of_zero_le p5
      have hja:(j:Int)<(l.length:Int):=by omega
      have hj120:(j:Int)≤120:=by omega
      have hfl:fm<s.dist.length:=by omega
      have htl:tm<s.dist.length:=by omega
      have htl2:tm<s.last.length:=by omega
      have x0:=FD fm hfl
      have x1:=FD tm htl
      have x2:=FL tm htl2
      have HYES:Hid (s.dist[fm]+a.cost<s.dist[tm]→relax s j a=⟨s.dist.set tm (s.dist[fm]+a.cost),s.last.set tm (j:Int),a.to⟩):=fun h=>relax_at_yes hfm htm hfl htl h
      have HNOT:Hid (¬s.dist[fm]+a.cost<s.dist[tm]→relax s j a=s):=fun h=>relax_at_no hfm htm hfl htl h
      have hb0:=hbd fm hfl
      have hb1:=hbd tm htl
      obtain⟨hb01,hb02⟩:=hb0
      obtain⟨hb11,hb12⟩:=hb1
      clear hbd
      generalize s.dist[fm]=yf at *
      generalize s.dist[tm]=yt at *
      generalize s.last[tm]=ol at *
      have KD2:=Lib.hid FD;have KL2:=Lib.hid FL;clear FD FL
      obtain⟨aid,afr,ato,arm,aco⟩:=a
      simp only at hfm htm ea0 ea1 ea2 ea3 ea4 p1 p2 p3 p4 p5 p6 p7 p8 p9 p10 p11
      subst hfm htm
      have hfn:(fm:Int)<(N:Int):=by omega
      have htn:(tm:Int)<(N:Int):=by omega
      have hfn2:fm<N:=by omega
      have htn2:tm<N:=by omega
      have KSD:=Lib.hid hsd;have KSL:=Lib.hid hsl;clear hsd hsl
      have z0:=B0.lt
      have q0_0:R7.cell? ⟨w.heap.size,0,none⟩=some (.int .i64 (N:Int)):=B0.c 0 _ rfl
      have q0_1:R7.cell? ⟨w.heap.size,1,none⟩=some (.slice a0 es.length c0):=B0.c 1 _ rfl
      have f0:=B0.f
      by_cases t:yf+aco<yt
      ·have T:decide (yf+aco<yt)=true:=by simp;omega
       have HT:=Lib.hid (HYES.out t)
       go_wp2_with fail
       have gU:Grow R7 (R7.alloc (.cells #[.int .i64 aid,.int .i64 (fm:Int),.int .i64 (tm:Int),.int .i64 arm,.int .i64 aco] 44)):=(Grow.refl _).alloc _ _
       have BU:Box (R7.alloc (.cells #[.int .i64 aid,.int .i64 (fm:Int),.int .i64 (tm:Int),.int .i64 arm,.int .i64 aco] 44)) R7.heap.size [.int .i64 aid,.int .i64 (fm:Int),.int .i64 (tm:Int),.int .i64 arm,.int .i64 aco]:=Box.new R7 _ _
       obtain⟨U,hU⟩:∃U,U=R7.alloc (.cells #[.int .i64 aid,.int .i64 (fm:Int),.int .i64 (tm:Int),.int .i64 arm,.int .i64 aco] 44):=⟨_,rfl⟩
       rw[←hU]at gU BU ⊢
       clear hU
       clear z0 q0_0 q0_1 f0
       replace G:=G.trans gU
       replace B0:=B0.grow gU
       replace x0:=cellGrow gU x0
       replace x1:=cellGrow gU x1
       replace x2:=cellGrow gU x2
       clear ea0 ea1 ea2 ea3 ea4
       have hzU:=gU.size
       have zb:=BU.lt
       have eb0:U.cell? ⟨R7.heap.size,0,none⟩=some (.int .i64 aid):=BU.c 0 _ rfl
       have eb1:U.cell? ⟨R7.heap.size,1,none⟩=some (.int .i64 (fm:Int)):=BU.c 1 _ rfl
       have eb2:U.cell? ⟨R7.heap.size,2,none⟩=some (.int .i64 (tm:Int)):=BU.c 2 _ rfl
       have eb3:U.cell? ⟨R7.heap.size,3,none⟩=some (.int .i64 arm):=BU.c 3 _ rfl
       have eb4:U.cell? ⟨R7.heap.size,4,none⟩=some (.int .i64 aco):=BU.c 4 _ rfl
       have z0:=B0.lt
       have q0_0:U.cell? ⟨w.heap.size,0,none⟩=some (.int .i64 (N:Int)):=B0.c 0 _ rfl
       have q0_1:U.cell? ⟨w.heap.size,1,none⟩=some (.slice a0 es.length c0):=B0.c 1 _ rfl
       have f0:=B0.f
       go_quiet (fail)
       go_wp2_with fail
       have gD:Grow U (U.drewN nq):=(Grow.refl U).drewN _
       obtain⟨D,hD⟩:∃D,D=U.drewN nq:=⟨_,rfl⟩
       rw[←hD]at gD ⊢
       clear hD
       clear z0 q0_0 q0_1 f0
       have KU:=Lib.hid (gU.trans gD)
       replace G:=G.trans gD
       replace B0:=B0.grow gD
       replace BU:=BU.grow gD
       replace x0:=cellGrow gD x0
       replace x1:=cellGrow gD x1
       replace x2:=cellGrow gD x2
       clear eb0 eb1 eb2 eb3 eb4 zb hzU gU gD
       have zb:=BU.lt
       have hzd:dB<D.heap.size:=lt_of_cell x0
       have hzl:lB<D.heap.size:=lt_of_cell x2
       have eb0:D.cell? ⟨R7.heap.size,0,none⟩=some (.int .i64 aid):=BU.c 0 _ rfl
       have eb1:D.cell? ⟨R7.heap.size,1,none⟩=some (.int .i64 (fm:Int)):=BU.c 1 _ rfl
       have eb2:D.cell? ⟨R7.heap.size,2,none⟩=some (.int .i64 (tm:Int)):=BU.c 2 _ rfl
       have eb3:D.cell? ⟨R7.heap.size,3,none⟩=some (.int .i64 arm):=BU.c 3 _ rfl
       have eb4:D.cell? ⟨R7.heap.size,4,none⟩=some (.int .i64 aco):=BU.c 4 _ rfl
       have z0:=B0.lt
       have q0_0:D.cell? ⟨w.heap.size,0,none⟩=some (.int .i64 (N:Int)):=B0.c 0 _ rfl
       have q0_1:D.cell? ⟨w.heap.size,1,none⟩=some (.slice a0 es.length c0):=B0.c 1 _ rfl
       have f0:=B0.f
       have hdr:dB<R7.heap.size:=hdw
       have hlr:lB<R7.heap.size:=hlw
       have fzd:∀o,D.frozen? ⟨dB,o,none⟩=false:=fun o=>G.nf dB o (by omega) (by omega)
       have fzl:∀o,D.frozen? ⟨lB,o,none⟩=false:=fun o=>G.nf lB o (by omega) (by omega)
       go_still_tail 12,(by kernel_rfl)
       have gE:Grow D D.drew:=(Grow.refl D).drew
       change wpList _ _ _ _ _ D.drew
       have m1:(D.drew.setCell ⟨dB,tm,none⟩ (.int .i64 (yf+aco))).cell? ⟨R7.heap.size,2,none⟩=some (.int .i64 (tm:Int)):=cellSet (p:=⟨dB,tm,none⟩) (cellGrow gE eb2) (by show dB≠_;omega)
       have m2:(D.drew.setCell ⟨dB,tm,none⟩ (.int .i64 (yf+aco))).cell? ⟨lB,tm,none⟩=some (.int .i64 ol):=cellSet (p:=⟨dB,tm,none⟩) (cellGrow gE x2) (by show dB≠_;omega)
       have m3:∀o,(D.drew.setCell ⟨dB,tm,none⟩ (.int .i64 (yf+aco))).frozen? ⟨lB,o,none⟩=false:=fun o=>by rw[World.frozen?_setCell];exact fzl o
       have m4:((D.drew.setCell ⟨dB,tm,none⟩ (.int .i64 (yf+aco))).setCell ⟨lB,tm,none⟩ (.int .i64 (j:Int))).cell? ⟨R7.heap.size,2,none⟩=some (.int .i64 (tm:Int)):=cellSet (p:=⟨lB,tm,none⟩) m1 (by show lB≠_;omega)
       go_wp2_with fail
       go_roundg (l.length-(j+1))
       case measure=>have:=HJ.out;omega
       case rel=>
        have gf:Grow R7 D.drew:=KU.out.drew
        refine⟨j+1,by have:=HJ.out;omega,by go_num,by rw[HSC.out,HT.out],?_,?_,?_,?_,?_,(G.drew.setCell (by show w.heap.size≤dB;omega) _).setCell (by show w.heap.size≤lB;omega) _,(B0.drew.other (by show dB≠_;omega) _).other (by show lB≠_;omega) _⟩
        ·rw[HSC.out,HT.out];exact((KD2.out.grow gf).set (by have:=KSD.out;omega) _).other (by show lB≠dB;omega) _
        ·rw[HSC.out,HT.out];exact((KL2.out.grow gf).other (by show dB≠lB;omega) _).set (by have:=KSL.out;omega) _
        ·exact KA.out.same repArc_stable (((gf.same (by omega)).setCell (p:=⟨dB,tm,none⟩) (.inr hd1) _).setCell (p:=⟨lB,tm,none⟩) (.inr hl1) _)
        ·show _<((D.setCell _ _).setCell _ _).heap.size;rw[World.size_setCell,World.size_setCell];exact hzd
        ·show _<((D.setCell _ _).setCell _ _).heap.size;rw[World.size_setCell,World.size_setCell];exact hzl
      ·have T:decide (yf+aco<yt)=false:=by simp;omega
       have HT:=Lib.hid (HNOT.out t)
       go_wp2_with fail
       have gU:Grow R7 (R7.alloc (.cells #[.int .i64 aid,.int .i64 (fm:Int),.int .i64 (tm:Int),.int .i64 arm,.int .i64 aco] 44)):=(Grow.refl _).alloc _ _
       have BU:Box (R7.alloc (.cells #[.int .i64 aid,.int .i64 (fm:Int),.int .i64 (tm:Int),.int .i64 arm,.int .i64 aco] 44)) R7.heap.size [.int .i64 aid,.int .i64 (fm:Int),.int .i64 (tm:Int),.int .i64 arm,.int .i64 aco]:=Box.new R7 _ _
       obtain⟨U,hU⟩:∃U,U=R7.alloc (.cells #[.int .i64 aid,.int .i64 (fm:Int),.int .i64 (tm:Int),.int .i64 arm,.int .i64 aco] 44):=⟨_,rfl⟩
       rw[←hU]at gU BU ⊢
       clear hU
       clear z0 q0_0 q0_1 f0
       replace G:=G.trans gU
       replace B0:=B0.grow gU
       replace x0:=cellGrow gU x0
       replace x1:=cellGrow gU x1
       replace x2:=cellGrow gU x2
       clear ea0 ea1 ea2 ea3 ea4
       have hzU:=gU.size
       have zb:=BU.lt
       have eb0:U.cell? ⟨R7.heap.size,0,none⟩=some (.int .i64 aid):=BU.c 0 _ rfl
       have eb1:U.cell? ⟨R7.heap.size,1,none⟩=some (.int .i64 (fm:Int)):=BU.c 1 _ rfl
       have eb2:U.cell? ⟨R7.heap.size,2,none⟩=some (.int .i64 (tm:Int)):=BU.c 2 _ rfl
       have eb3:U.cell? ⟨R7.heap.size,3,none⟩=some (.int .i64 arm):=BU.c 3 _ rfl
       have eb4:U.cell? ⟨R7.heap.size,4,none⟩=some (.int .i64 aco):=BU.c 4 _ rfl
       have z0:=B0.lt
       have q0_0:U.cell? ⟨w.heap.size,0,none⟩=some (.int .i64 (N:Int)):=B0.c 0 _ rfl
       have q0_1:U.cell? ⟨w.heap.size,1,none⟩=some (.slice a0 es.length c0):=B0.c 1 _ rfl
       have f0:=B0.f
       go_quiet (fail)
       go_wp2_with fail
       have gD:Grow U (U.drewN nq):=(Grow.refl U).drewN _
       obtain⟨D,hD⟩:∃D,D=U.drewN nq:=⟨_,rfl⟩
       rw[←hD]at gD ⊢
       clear hD
       clear z0 q0_0 q0_1 f0
       have KU:=Lib.hid (gU.trans gD)
       replace G:=G.trans gD
       replace B0:=B0.grow gD
       replace BU:=BU.grow gD
       replace x0:=cellGrow gD x0
       replace x1:=cellGrow gD x1
       replace x2:=cellGrow gD x2
       clear eb0 eb1 eb2 eb3 eb4 zb hzU gU gD
       have zb:=BU.lt
       have hzd:dB<D.heap.size:=lt_of_cell x0
       have hzl:lB<D.heap.size:=lt_of_cell x2
       have eb0:D.cell? ⟨R7.heap.size,0,none⟩=some (.int .i64 aid):=BU.c 0 _ rfl
       have eb1:D.cell? ⟨R7.heap.size,1,none⟩=some (.int .i64 (fm:Int)):=BU.c 1 _ rfl
       have eb2:D.cell? ⟨R7.heap.size,2,none⟩=some (.int .i64 (tm:Int)):=BU.c 2 _ rfl
       have eb3:D.cell? ⟨R7.heap.size,3,none⟩=some (.int .i64 arm):=BU.c 3 _ rfl
       have eb4:D.cell? ⟨R7.heap.size,4,none⟩=some (.int .i64 aco):=BU.c 4 _ rfl
       have z0:=B0.lt
       have q0_0:D.cell? ⟨w.heap.size,0,none⟩=some (.int .i64 (N:Int)):=B0.c 0 _ rfl
       have q0_1:D.cell? ⟨w.heap.size,1,none⟩=some (.slice a0 es.length c0):=B0.c 1 _ rfl
       have f0:=B0.f
       go_roundg (l.length-(j+1))
       case measure=>have:=HJ.out;omega
       case rel=>exact⟨j+1,by have:=HJ.out;omega,by go_num,by rw[HSC.out,HT.out],by rw[HSC.out,HT.out];exact KD2.out.grow KU.out,by rw[HSC.out,HT.out];exact KL2.out.grow KU.out,KA.out.same repArc_stable (KU.out.same (by omega)),hzd,hzl,G,B0⟩
     ·obtain rfl:j=l.length:=by omega
      clear hj hjt
      have KD2:=Lib.hid FD;have KL2:=Lib.hid FL;have KS2:=Lib.hid SA;clear FD FL SA
      have z0:=B0.lt
      have q0_0:R7.cell? ⟨w.heap.size,0,none⟩=some (.int .i64 (N:Int)):=B0.c 0 _ rfl
      have q0_1:R7.cell? ⟨w.heap.size,1,none⟩=some (.slice a0 es.length c0):=B0.c 1 _ rfl
      have f0:=B0.f
      go_wp2_with fail
      go_roundg (N-(k+1))
      case measure=>have:=HK.out;omega
      case rel=>exact⟨k+1,by have:=HK.out;omega,by go_num,rfl,KD2.out,KL2.out,KS2.out,hdw,hlw,G,B0⟩
   ·obtain rfl:N=k:=by omega
    clear hk hlt
    clear FD
    have z0:=B0.lt
    have q0_0:R6.cell? ⟨w.heap.size,0,none⟩=some (.int .i64 (N:Int)):=B0.c 0 _ rfl
    have q0_1:R6.cell? ⟨w.heap.size,1,none⟩=some (.slice a0 es.length c0):=B0.c 1 _ rfl
    have f0:=B0.f
    by_cases hnd:(passes N l N).node<0
    ·have hri:=ringIt_no hnd
     have HB:Hid (ringOk ⟨(N:Int),es⟩ f=false):=by
      show _=_
      rw[HRB.out,hri]
     have HL:Hid (ringL ⟨(N:Int),es⟩ f=[]):=HRN.out (by rw[hri])
     generalize (passes N l N).node=nd at *
     have hq:decide (nd<0)=true:=by simp;omega
     go_wp2_with fail
     go_ret2
     exact⟨none,0,by rw[HL.out,HB.out];rfl,G,by rw[HL.out];exact SlR.nil⟩
    have hri:=ringIt_yes hnd
    have HB:Hid (ringOk ⟨(N:Int),es⟩ f=true):=by
     show _=_
     rw[HRB.out,hri]
    have HL:Hid (ringL ⟨(N:Int),es⟩ f=ringFrom l (passes N l N).last (iter (par l (passes N l N).last) N (passes N l N).node) N (iter (par l (passes N l N).last) N (passes N l N).node)):=by
     show _=_
     rw[HRL.out (by rw[hri]),hri]
    clear hri
    have hl1:1≤l.length:=by
     rcases Nat.eq_zero_or_pos l.length with q|q
     ·exfalso
      have e:l=[]:=List.eq_nil_of_length_eq_zero q
      rw[e,passes_nil]at hnd
      omega
     ·omega
    have hfin:=passes_fine HFI.out hl1 N
    generalize passes N l N=s at *
    have hst:=par_stays HFI.out hfin
    have hnk:s.node<(N:Int):=hfin.2.2.1
    have hn0:0≤s.node:=by omega
    have HST:=Lib.hid hst;clear hst
    have HFIN:=Lib.hid hfin;clear hfin
    generalize s.node=nd at *
    have hq:decide (nd<0)=false:=by simp;omega
    clear hnd
    go_wp2_with fail
    clear z0 q0_0 q0_1 f0
    go_loopg [9,78] N (fun g nv i wr=>∃m:Nat,m+g=N∧i=.int .i64 m∧nv=.int .i64 (iter (par l s.last) m nd)∧IntsAt wr lB s.last∧SlR 5 repArc wr (V1.heap.size) V2.heap.size (.slice aA l.length cA) l∧Grow w wr∧Box wr (w.heap.size) [.int .i64 (N:Int),.slice a0 es.length c0])
    case atStart=>exact⟨0,by simp,rfl,rfl,FL,SA,G,B0⟩
    case round=>
     clear G B0
     obtain⟨m,hm,rfl,rfl,FL,SA,G,B0⟩:=hrel
     obtain⟨R8,rfl⟩:∃V,V=wr:=⟨_,rfl⟩
     by_cases hlt:m<N
     ·have HK:=Lib.hid hm;clear hm
      have hb:=HST.out.iter hn0 hnk m
      obtain⟨hb1,hb2⟩:=hb
      have HIT:Hid (iter (par l s.last) (m+1) nd=par l s.last (iter (par l s.last) m nd)):=rfl
      generalize iter (par l s.last) m nd=u at *
      obtain⟨un,rfl⟩:=Int.eq_ofNat_of_zero_le hb1
      obtain⟨q,hq1,hq2,hq3,hq4,hq5⟩:=par_at HFIN.out (show un<N by omega)
      have x0:=FL un hq1
      rw[hq3]at x0
      obtain⟨b_a,off_a,ha_a,hb1_a,hb2_a,hel_a⟩:=SA.elems q hq2
      obtain⟨ea0,ea1,ea2,ea3,ea4,-⟩:=Arc.atCell hel_a q hq2
      clear hel_a
      have KA:=Lib.hid SA;clear SA
      have KL2:=Lib.hid FL;clear FL
      subst ha_a
      have HQ5:=Lib.hid hq5;clear hq5 hq3 hq4
      generalize l[q]=a at *
      have hmk2:(m:Int)<(N:Int):=by omega
      have hqi:(q:Int)<(l.length:Int):=by omega
      have hq120:q<120:=by omega
      have z0:=B0.lt
      have q0_0:R8.cell? ⟨w.heap.size,0,none⟩=some (.int .i64 (N:Int)):=B0.c 0 _ rfl
      have q0_1:R8.cell? ⟨w.heap.size,1,none⟩=some (.slice a0 es.length c0):=B0.c 1 _ rfl
      have f0:=B0.f
      have hzl:lB<R8.heap.size:=lt_of_cell x0
      go_wp2_with fail
      go_roundg (N-(m+1))
      case measure=>have:=HK.out;omega
      case rel=>exact⟨m+1,by have:=HK.out;omega,by go_num,by rw[HIT.out,HQ5.out],KL2.out,KA.out,G,B0⟩
     ·obtain rfl:N=m:=by omega
      clear hm hlt
      have hb:=HST.out.iter hn0 hnk N
      obtain⟨hb1,hb2⟩:=hb
      have hcb:=comes_back HST.out hn0 hnk
      generalize iter (par l s.last) N nd=v at *
      have z0:=B0.lt
      have q0_0:R8.cell? ⟨w.heap.size,0,none⟩=some (.int .i64 (N:Int)):=B0.c 0 _ rfl
      have q0_1:R8.cell? ⟨w.heap.size,1,none⟩=some (.slice a0 es.length c0):=B0.c 1 _ rfl
      have f0:=B0.f
      go_wp2_with fail
      have HFL:=Lib.hid FL;have KS2:=Lib.hid SA;have HG0:=Lib.hid G;have HB0:=Lib.hid B0
      clear FL SA G B0 z0 q0_0 q0_1 f0
      have HCB:=Lib.hid hcb;clear hcb
      go_loopg [12,13] N (fun g vo u wr=>∃(out:List Int) (un:Int) (gg:Nat),gg=g∧u=.int .i64 un∧Grow R8 wr∧wr.ownsRow R8.heap.size 3 1 vo out.length (out.map (Value.int .i64))∧out++ringFrom l s.last v gg un=ringFrom l s.last v N v∧(∃d,1≤d∧d≤gg∧iter (par l s.last) d un=v)∧0≤un∧un<N∧out.length+gg=N∧(∀y∈out,i64 y))
      case atStart=>exact⟨[],v,N,rfl,rfl,Grow.refl _,World.ownsRow_nil _ _ _ _,rfl,HCB.out,hb1,hb2,by simp,by simp⟩
      case round=>
       obtain⟨out,un,gg,hgg,rfl,hg,hown,heq,⟨d,hd3,hd4,hd5⟩,hu1,hu2,hlen,hi64⟩:=hrel
       obtain⟨R9,rfl⟩:∃V,V=wr:=⟨_,rfl⟩
       obtain⟨un,rfl⟩:=Int.eq_ofNat_of_zero_le hu1
       obtain⟨q,hq1,hq2,hq3,hq4,hq5⟩:=par_at HFIN.out (show un<N by omega)
       have x0:=cellGrow hg (HFL.out un hq1)
       rw[hq3]at x0
       obtain⟨b_a,off_a,ha_a,hb1_a,hb2_a,hel_a⟩:=KS2.out.elems q hq2
       obtain⟨ea0,ea1,ea2,ea3,ea4,hwa⟩:=Arc.atCell hel_a q hq2
       clear hel_a
       subst ha_a
       replace ea0:=cellGrow hg ea0
       replace ea1:=cellGrow hg ea1
       replace ea2:=cellGrow hg ea2
       replace ea3:=cellGrow hg ea3
       replace ea4:=cellGrow hg ea4
       obtain⟨hwa,-⟩:=hwa
       have hst1:=HST.out (un:Int) hu1 hu2
       rcases gg with _|gg
       ·omega
       rw[ringFrom_step,hq4]at heq
       rw[hq5]at heq hst1
       have hpd:d=1→l[q].frm=v:=fun h=>by rw[←hq5,←hd5,h];rfl
       have hpd2:iter (par l s.last) (d-1) l[q].frm=v:=by
        rw[←hq5,←iter_succ',show d-1+1=d by omega];exact hd5
       have HQ5:=Lib.hid hq5;clear hq5 hq3 hq4
       obtain⟨p1,p2,p3,p4,p5,p6,p7,p8,p9,p10,p11⟩:=HFI.out _ (List.getElem_mem hq2)
       generalize l[q]=a at *
       have HEQ:=Lib.hid heq;have HOWN:=Lib.hid hown;have HGW:=Lib.hid hg;have HP2:=Lib.hid hpd2;have HPD:=Lib.hid hpd;have HI:=Lib.hid hi64;clear heq hown hpd2 hpd hi64 hg hd5
       have hqi:(q:Int)<(l.length:Int):=by omega
       have hq120:q<120:=by omega
       have hum:(un:Int)<(N:Int):=by omega
       have HGG:=Lib.hid hgg;clear hgg
       have hol:out.length≤24:=by omega
       have HLEN:=Lib.hid hlen;clear hlen
       by_cases tv:a.frm=v
       ·have T:(a.frm==v)=true:=by simpa using tv
        have HTV:=Lib.hid tv;clear tv
        go_wp2_with (at_builtin
                     go_loud (refine wpList_append_g rfl (.tmp 97) (.tmp 100) 26 rfl R8 (show Grow R8 _ by refine Grow.trans HGW.out (b:=R9) ?_;repeat (first|exact Grow.refl _|(refine Grow.alloc ?_ _ _))) 3 i0 _ 1 8 Try.underlying26 hi0 hz0 hz1 hz2 rfl (by omega) u12 out.length (out.map (Value.int .i64)) rfl (own_grow HOWN.out (show Grow R9 _ by repeat (first|exact Grow.refl _|(refine Grow.alloc ?_ _ _)))) ⟨R9.heap.size+1,0,none⟩ 1 1 [.int .i64 a.id] (by first|rfl|simp) rfl (one_newI _ _ _ _ _) (fun u hu=>by rw[List.mem_singleton.1 hu];rfl) (by simp only[maxLen];omega) (by omega) ?_)
                     intro v1 w1 hown' hg' hgb hat
                     have HOWN1:=Lib.hid hown';have HG1:=Lib.hid hg';have HGB1:=Lib.hid hgb
                     have r1:∀j u,[Value.int .i64 a.id,.int .i64 a.frm,.int .i64 a.to,.int .i64 a.room,.int .i64 a.cost][j]? = some u→w1.cell? ⟨R9.heap.size,j,none⟩=some u:=fun j u h=>cellKept HGB1.out (own_ne HOWN.out (Nat.le_refl _)) (cellAlloc (cell_new j (by simpa using h)) _)
                     have r1_0:=r1 0 _ rfl;have r1_1:=r1 1 _ rfl;have zz:R9.heap.size<w1.heap.size:=lt_of_cell r1_0
                     clear r1 hown' hg' hgb hat)
        have hown2:w1.ownsRow R8.heap.size 3 1 v1 (out++[a.id]).length ((out++[a.id]).map (Value.int .i64)):=by have:=HOWN1.out;rwa [List.map_append,List.length_append]
        have htot:out++[a.id]=ringL ⟨(N:Int),es⟩ f:=by
         have:=HEQ.out
         rw[if_pos HTV.out]at this
         rw[this];exact HL.out.symm
        have SO:=ints_own hown2 (fun y hy=>by
         rcases List.mem_append.1 hy with h|h
         ·exact HI.out y h
         ·rw[List.mem_singleton.1 h];exact hwa)
        rw[htot]at SO
        clear hown2
        have SO:=SO.stable repInt_stable (Same.refl _ _ _) (lo':=w.heap.size) (by have:=HG0.out.size;omega) (Nat.le_refl _)
        have SO':=SO
        obtain⟨aO,cO,rfl,_,_,_⟩:=SO'
        have HSO:=Lib.hid SO;clear SO
        go_ret2
        exact⟨aO,cO,by rw[HB.out];rfl,HG0.out.trans HG1.out,HSO.out⟩
       ·have T:(a.frm==v)=false:=by simpa using tv
        have HTV:=Lib.hid tv;clear tv
        go_wp2_with (at_builtin
                     go_loud (refine wpList_append_g rfl (.tmp 97) (.tmp 100) 26 rfl R8 (show Grow R8 _ by refine Grow.trans HGW.out (b:=R9) ?_;repeat (first|exact Grow.refl _|(refine Grow.alloc ?_ _ _))) 3 i0 _ 1 8 Try.underlying26 hi0 hz0 hz1 hz2 rfl (by omega) u12 out.length (out.map (Value.int .i64)) rfl (own_grow HOWN.out (show Grow R9 _ by repeat (first|exact Grow.refl _|(refine Grow.alloc ?_ _ _)))) ⟨R9.heap.size+1,0,none⟩ 1 1 [.int .i64 a.id] (by first|rfl|simp) rfl (one_newI _ _ _ _ _) (fun u hu=>by rw[List.mem_singleton.1 hu];rfl) (by simp only[maxLen];omega) (by omega) ?_)
                     intro v1 w1 hown' hg' hgb hat
                     have HOWN1:=Lib.hid hown';have HG1:=Lib.hid hg';have HGB1:=Lib.hid hgb
                     have r1:∀j u,[Value.int .i64 a.id,.int .i64 a.frm,.int .i64 a.to,.int .i64 a.room,.int .i64 a.cost][j]? = some u→w1.cell? ⟨R9.heap.size,j,none⟩=some u:=fun j u h=>cellKept HGB1.out (own_ne HOWN.out (Nat.le_refl _)) (cellAlloc (cell_new j (by simpa using h)) _)
                     have r1_0:=r1 0 _ rfl;have r1_1:=r1 1 _ rfl;have zz:R9.heap.size<w1.heap.size:=lt_of_cell r1_0
                     clear r1 hown' hg' hgb hat)
        have hown2:w1.ownsRow R8.heap.size 3 1 v1 (out++[a.id]).length ((out++[a.id]).map (Value.int .i64)):=by have:=HOWN1.out;rwa [List.map_append,List.length_append]
        have HOWN2:=Lib.hid hown2;clear hown2
        go_roundg gg
        case measure=>have:=HGG.out;omega
        case rel=>exact⟨out++[a.id],a.frm,gg,rfl,rfl,HG1.out,HOWN2.out,by have:=HEQ.out;rw[if_neg HTV.out]at this;rw[←this];simp,⟨d-1,by rcases Nat.lt_or_ge 1 d with h|h;(· omega);exact absurd (HPD.out (by omega)) HTV.out,by omega,HP2.out⟩,hst1.1,hst1.2,by have:=HLEN.out;simp;omega,fun y hy=>by
         rcases List.mem_append.1 hy with h|h
         ·exact HI.out y h
         ·rw[List.mem_singleton.1 h];exact hwa⟩
theorem spec_Ring_c(x:Graph)(a0:Option Addr)(c0:Nat)(f:List Int)(a1:Option Addr)(c1:Nat)(w:World)(h0:SlR 4 repEdge w 0 w.heap.size (.slice a0 x.edges.length c0) x.edges)(h1:SlR 1 repInt w 0 w.heap.size (.slice a1 f.length c1) f) :
 Calls Try.prog 7 #[.agg #[.int .i64 x.n,.slice a0 x.edges.length c0],.slice a1 f.length c1] w fun e w'=>∃a c,e=.returned (.tuple #[.slice a (ringL x f).length c,.bool (ringOk x f)])∧Grow w w'∧SlR 1 repInt w' w.heap.size w'.heap.size (.slice a (ringL x f).length c) (ringL x f):=by
 obtain⟨i0,hi0,hz0,hz1,hz2⟩:=info_parts infoInt'
 cases hok:flowOk x f
 ·have H0:=Lib.hid h0;have H1:=Lib.hid h1
  clear h0 h1
  have HB:Hid (ringOk x f=false):=by
   show _=_
   unfold ringOk;rw[hok];rfl
  have HL:Hid (ringL x f=[]):=by
   show _=_
   unfold ringL;rw[HB.out];rfl
  go_enter Try.func7,Try.ntmps7
  go_wp2_with fail
  refine(spec_FlowOk_c x _ _ f _ _ _ (H0.out.grow' repEdge_stable (Grow.below ((Grow.refl w).alloc _ _))) (H1.out.grow' repInt_stable (Grow.below ((Grow.refl w).alloc _ _)))).mono ?_
  rintro e V1 ⟨rfl,gs⟩
  have ys:=Grow.size gs
  simp only[World.size_setCell,World.size_alloc]at ys
  have B0:Box V1 (w.heap.size) [.int .i64 x.n,.slice a0 x.edges.length c0]:=Box.grow (Box.newAt (by simp) _ _) gs
  have G:Grow w V1:=Grow.trans ((Grow.refl w).alloc _ _) gs
  clear gs
  have z0:=B0.lt
  have q0_0:V1.cell? ⟨w.heap.size,0,none⟩=some (.int .i64 x.n):=B0.c 0 _ rfl
  have q0_1:V1.cell? ⟨w.heap.size,1,none⟩=some (.slice a0 x.edges.length c0):=B0.c 1 _ rfl
  have f0:=B0.f
  rw[hok]
  go_wp2_with fail
  go_ret2
  exact⟨none,0,by rw[HL.out,HB.out];rfl,G,by rw[HL.out];exact SlR.nil⟩
 obtain⟨n1,n2,g2,hlen,-,-,-⟩:=flowOk_facts hok
 obtain⟨N,hN⟩:∃N:Nat,x.n=(N:Int):=⟨x.n.toNat,by omega⟩
 obtain⟨n,es⟩:=x
 simp only at hN n1 n2 g2 h0 hlen
 subst hN
 have hf60:f.length≤60:=by omega
 clear hlen
 have HOK:=Lib.hid hok;clear hok
 have H0:=Lib.hid h0;have H1:=Lib.hid h1
 clear h0 h1
 have hmk:=fun w=>madeInts N (by omega) w
 have HRB:Hid (ringOk ⟨(N:Int),es⟩ f=(ringIt N (arcsOf ⟨(N:Int),es⟩ f)).2):=by
  show _=_
  unfold ringOk;rw[HOK.out];rfl
 have HRL:Hid ((ringIt N (arcsOf ⟨(N:Int),es⟩ f)).2=true→ringL ⟨(N:Int),es⟩ f=(ringIt N (arcsOf ⟨(N:Int),es⟩ f)).1):=fun h=>if_pos (HRB.out.trans h)
 have HRN:Hid ((ringIt N (arcsOf ⟨(N:Int),es⟩ f)).2=false→ringL ⟨(N:Int),es⟩ f=[]):=fun h=>if_neg (by rw[HRB.out,h];simp)
 go_enter Try.func7,Try.ntmps7
 go_wp2_with fail
 refine(spec_FlowOk_c ⟨(N:Int),es⟩ _ _ f _ _ _ (H0.out.grow' repEdge_stable (Grow.below ((Grow.refl w).alloc _ _))) (H1.out.grow' repInt_stable (Grow.below ((Grow.refl w).alloc _ _)))).mono ?_
 rintro e V1 ⟨rfl,gs⟩
 have ys:=Grow.size gs
 simp only[World.size_setCell,World.size_alloc]at ys
 have B0:Box V1 (w.heap.size) [.int .i64 (N:Int),.slice a0 es.length c0]:=Box.grow (Box.newAt (by simp) _ _) gs
 have G:Grow w V1:=Grow.trans ((Grow.refl w).alloc _ _) gs
 clear gs
 have z0:=B0.lt
 have q0_0:V1.cell? ⟨w.heap.size,0,none⟩=some (.int .i64 (N:Int)):=B0.c 0 _ rfl
 have q0_1:V1.cell? ⟨w.heap.size,1,none⟩=some (.slice a0 es.length c0):=B0.c 1 _ rfl
 have f0:=B0.f
 rw[HOK.out]
 go_wp2_with fail
 refine(spec_arcs_c ⟨(N:Int),es⟩ _ _ f _ _ _ (H0.out.grow' repEdge_stable (Grow.below G)) (H1.out.grow' repInt_stable (Grow.below G)) HOK.out).mono ?_
 rintro e V2 ⟨aA,cA,rfl,gs,SA⟩
 clear z0 q0_0 q0_1 f0
 have ys:=Grow.size gs
 replace B0:Box V2 (w.heap.size) [.int .i64 (N:Int),.slice a0 es.length c0]:=Box.grow B0 gs
 replace G:Grow w V2:=Grow.trans G gs
 clear gs
 --
 have z0:=B0.lt
 have q0_0:V2.cell? ⟨w.heap.size,0,none⟩=some (.int .i64 (N:Int)):=B0.c 0 _ rfl
 have q0_1:V2.cell? ⟨w.heap.size,1,none⟩=some (.slice a0 es.length c0):=B0.c 1 _ rfl
 have f0:=B0.f
 have hal:=arcsOf_len HOK.out
 have HFI:=Lib.hid (arcs_fine HOK.out)
 generalize hl:arcsOf ⟨(N:Int),es⟩ f=l at *
 clear hl
 have hgs:w.heap.size<V2.heap.size:=B0.lt
 have HSA:Hid (SlR 5 repArc V2 (V1.heap.size) V2.heap.size (.slice aA l.length cA) l):=SA
 clear SA
 have HV:=Lib.hid G;have BV:=Lib.hid B0
 go_wp2_with fail
 have hmade:=IntsAt.made2 V2 N 3
 obtain⟨FS,FT⟩:=hmade
 have gW:Grow V2 ((V2.alloc (.cells (madeCells #[.int .i64 0] N) 3)).alloc (.cells (madeCells #[.int .i64 0] N) 3)):=by repeat (first|exact Grow.refl _|(refine Grow.alloc ?_ _ _)|(refine Grow.drew ?_))
 have hsW:((V2.alloc (.cells (madeCells #[.int .i64 0] N) 3)).alloc (.cells (madeCells #[.int .i64 0] N) 3)).heap.size=V2.heap.size+2:=by simp
 have FS:IntsAt ((V2.alloc (.cells (madeCells #[.int .i64 0] N) 3)).alloc (.cells (madeCells #[.int .i64 0] N) 3)) V2.heap.size (List.replicate N 0):=FS
 have FT:IntsAt ((V2.alloc (.cells (madeCells #[.int .i64 0] N) 3)).alloc (.cells (madeCells #[.int .i64 0] N) 3)) (V2.heap.size+1) (List.replicate N 0):=FT
 obtain⟨W,hW⟩:∃W,W=((V2.alloc (.cells (madeCells #[.int .i64 0] N) 3)).alloc (.cells (madeCells #[.int .i64 0] N) 3)):=⟨_,rfl⟩
 rw[←hW]at gW FS FT hsW ⊢
 clear hW
 clear z0 q0_0 q0_1 f0
 replace G:=G.trans gW
 replace B0:=B0.grow gW
 have SA:SlR 5 repArc W (V1.heap.size) V2.heap.size (.slice aA l.length cA) l:=HSA.out.same repArc_stable (gW.same (Nat.le_refl _))
 clear gW
 obtain⟨lB,hlB⟩:∃b,b=V2.heap.size+1:=⟨_,rfl⟩
 rw[←hlB]at FT ⊢
 obtain⟨dB,hdB⟩:∃b,b=V2.heap.size:=⟨_,rfl⟩
 rw[←hdB]at FS
 have FD:IntsAt W dB (List.replicate N 0):=FS
 have FL:IntsAt W lB (List.replicate N 0):=FT
 clear FS FT
 have hv0:V2.heap.size=dB:=hdB.symm
 (try simp only[hv0])
 clear hv0
 have hne:dB≠lB:=by omega
 have hd1:V2.heap.size≤dB:=by omega
 have hd2:dB<W.heap.size:=by omega
 have hl1:V2.heap.size≤lB:=by omega
 have hl2:lB<W.heap.size:=by omega
 clear hdB hlB hsW
 have hd0:w.heap.size<dB:=by omega
 have hl0:w.heap.size<lB:=by omega
 have z0:=B0.lt
 have q0_0:W.cell? ⟨w.heap.size,0,none⟩=some (.int .i64 (N:Int)):=B0.c 0 _ rfl
 have q0_1:W.cell? ⟨w.heap.size,1,none⟩=some (.slice a0 es.length c0):=B0.c 1 _ rfl
 have f0:=B0.f
 go_wp2_with fail
 clear z0 q0_0 q0_1 f0
 go_loopg [9,10] N (fun g nd i wr=>∃k:Nat,k+g=N∧i=.int .i64 k∧nd=.int .i64 (passes N l k).node∧IntsAt wr dB (passes N l k).dist∧IntsAt wr lB (passes N l k).last∧SlR 5 repArc wr (V1.heap.size) V2.heap.size (.slice aA l.length cA) l∧dB<wr.heap.size∧lB<wr.heap.size∧Grow w wr∧Box wr (w.heap.size) [.int .i64 (N:Int),.slice a0 es.length c0])
 case atStart=>exact⟨0,by simp,rfl,rfl,FD,FL,SA,hd2,hl2,G,B0⟩
 case round=>
  clear G B0
  obtain⟨k,hk,rfl,rfl,FD,FL,SA,hdw,hlw,G,B0⟩:=hrel
  obtain⟨R3,rfl⟩:∃V,V=wr:=⟨_,rfl⟩
  by_cases hlt:k<N
  ·have HK:=Lib.hid hk;clear hk
   have hkn:(k:Int)<(N:Int):=by omega
   have z0:=B0.lt
   have q0_0:R3.cell? ⟨w.heap.size,0,none⟩=some (.int .i64 (N:Int)):=B0.c 0 _ rfl
   have q0_1:R3.cell? ⟨w.heap.size,1,none⟩=some (.slice a0 es.length c0):=B0.c 1 _ rfl
   have f0:=B0.f
   go_wp2_with fail
   have KD:=Lib.hid FD;have KL:=Lib.hid FL;have KS:=Lib.hid SA;clear FD FL SA
   clear z0 q0_0 q0_1 f0
   go_loopg [9,37] l.length (fun g nd i wi=>∃j:Nat,j+g=l.length∧i=.int .i64 j∧nd=.int .i64 (scan l ⟨(passes N l k).dist,(passes N l k).last,-1⟩ j).node∧IntsAt wi dB (scan l ⟨(passes N l k).dist,(passes N l k).last,-1⟩ j).dist∧IntsAt wi lB (scan l ⟨(passes N l k).dist,(passes N l k).last,-1⟩ j).last∧SlR 5 repArc wi (V1.heap.size) V2.heap.size (.slice aA l.length cA) l∧dB<wi.heap.size∧lB<wi.heap.size∧Grow w wi∧Box wi (w.heap.size) [.int .i64 (N:Int),.slice a0 es.length c0])
   case atStart=>exact⟨0,by simp,rfl,rfl,KD.out,KL.out,KS.out,hdw,hlw,G,B0⟩
   case round=>
    clear G B0
    obtain⟨j,hj,rfl,rfl,FD,FL,SA,hdw,hlw,G,B0⟩:=hrel
    obtain⟨R4,rfl⟩:∃V,V=wr:=⟨_,rfl⟩
    by_cases hjt:j<l.length
    ·have HJ:=Lib.hid hj;clear hj
     have HSC:Hid (scan l ⟨(passes N l k).dist,(passes N l k).last,-1⟩ (j+1)=relax (scan l ⟨(passes N l k).dist,(passes N l k).last,-1⟩ j) j l[j]):=scan_succ hjt
     obtain⟨hsd,hsl,hbd⟩:=scan_facts HFI.out hal (by omega) (by omega:k≤N) hjt
     generalize (scan l ⟨(passes N l k).dist,(passes N l k).last,-1⟩ j)=s at *
     obtain⟨b_a,off_a,ha_a,hb1_a,hb2_a,hel_a⟩:=SA.elems j hjt
     obtain⟨ea0,ea1,ea2,ea3,ea4,-⟩:=Arc.atCell hel_a j hjt
     clear hel_a
     have KA:=Lib.hid SA;clear SA
     subst ha_a
     obtain⟨p1,p2,p3,p4,p5,p6,p7,p8,p9,p10,p11⟩:=HFI.out _ (List.getElem_mem hjt)
     generalize l[j]=a at *
     obtain⟨fm,hfm⟩:=Int.eq_ofNat_of_zero_le p3
     obtain⟨tm,htm⟩:=Int.eq_ofNat_of_zero_le p5
     have hja:(j:Int)<(l.length:Int):=by omega
     have hj120:(j:Int)≤120:=by omega
     have hfl:fm<s.dist.length:=by omega
     have htl:tm<s.dist.length:=by omega
     have htl2:tm<s.last.length:=by omega
     have x0:=FD fm hfl
     have x1:=FD tm htl
     have x2:=FL tm htl2
     have HYES:Hid (s.dist[fm]+a.cost<s.dist[tm]→relax s j a=⟨s.dist.set tm (s.dist[fm]+a.cost),s.last.set tm (j:Int),a.to⟩):=fun h=>relax_at_yes hfm htm hfl htl h
     have HNOT:Hid (¬s.dist[fm]+a.cost<s.dist[tm]→relax s j a=s):=fun h=>relax_at_no hfm htm hfl htl h
     have hb0:=hbd fm hfl
     have hb1:=hbd tm htl
     obtain⟨hb01,hb02⟩:=hb0
     obtain⟨hb11,hb12⟩:=hb1
     clear hbd
     generalize s.dist[fm]=yf at *
     generalize s.dist[tm]=yt at *
     generalize s.last[tm]=ol at *
     have KD2:=Lib.hid FD;have KL2:=Lib.hid FL;clear FD FL
     obtain⟨aid,afr,ato,arm,aco⟩:=a
     simp only at hfm htm ea0 ea1 ea2 ea3 ea4 p1 p2 p3 p4 p5 p6 p7 p8 p9 p10 p11
     subst hfm htm
     have hfn:(fm:Int)<(N:Int):=by omega
     have htn:(tm:Int)<(N:Int):=by omega
     have hfn2:fm<N:=by omega
     have htn2:tm<N:=by omega
     have KSD:=Lib.hid hsd;have KSL:=Lib.hid hsl;clear hsd hsl
     have z0:=B0.lt
     have q0_0:R4.cell? ⟨w.heap.size,0,none⟩=some (.int .i64 (N:Int)):=B0.c 0 _ rfl
     have q0_1:R4.cell? ⟨w.heap.size,1,none⟩=some (.slice a0 es.length c0):=B0.c 1 _ rfl
     have f0:=B0.f
     by_cases t:yf+aco<yt
     ·have T:decide (yf+aco<yt)=true:=by simp;omega
      have HT:=Lib.hid (HYES.out t)
      go_wp2_with fail
      have gU:Grow R4 (R4.alloc (.cells #[.int .i64 aid,.int .i64 (fm:Int),.int .i64 (tm:Int),.int .i64 arm,.int .i64 aco] 48)):=(Grow.refl _).alloc _ _
      have BU:Box (R4.alloc (.cells #[.int .i64 aid,.int .i64 (fm:Int),.int .i64 (tm:Int),.int .i64 arm,.int .i64 aco] 48)) R4.heap.size [.int .i64 aid,.int .i64 (fm:Int),.int .i64 (tm:Int),.int .i64 arm,.int .i64 aco]:=Box.new R4 _ _
      obtain⟨U,hU⟩:∃U,U=R4.alloc (.cells #[.int .i64 aid,.int .i64 (fm:Int),.int .i64 (tm:Int),.int .i64 arm,.int .i64 aco] 48):=⟨_,rfl⟩
      rw[←hU]at gU BU ⊢
      clear hU
      clear z0 q0_0 q0_1 f0
      replace G:=G.trans gU
      replace B0:=B0.grow gU
      replace x0:=cellGrow gU x0
      replace x1:=cellGrow gU x1
      replace x2:=cellGrow gU x2
      clear ea0 ea1 ea2 ea3 ea4
      have hzU:=gU.size
      have zb:=BU.lt
      have eb0:U.cell? ⟨R4.heap.size,0,none⟩=some (.int .i64 aid):=BU.c 0 _ rfl
      have eb1:U.cell? ⟨R4.heap.size,1,none⟩=some (.int .i64 (fm:Int)):=BU.c 1 _ rfl
      have eb2:U.cell? ⟨R4.heap.size,2,none⟩=some (.int .i64 (tm:Int)):=BU.c 2 _ rfl
      have eb3:U.cell? ⟨R4.heap.size,3,none⟩=some (.int .i64 arm):=BU.c 3 _ rfl
      have eb4:U.cell? ⟨R4.heap.size,4,none⟩=some (.int .i64 aco):=BU.c 4 _ rfl
      have z0:=B0.lt
      have q0_0:U.cell? ⟨w.heap.size,0,none⟩=some (.int .i64 (N:Int)):=B0.c 0 _ rfl
      have q0_1:U.cell? ⟨w.heap.size,1,none⟩=some (.slice a0 es.length c0):=B0.c 1 _ rfl
      have f0:=B0.f
      go_quiet (fail)
      go_wp2_with fail
      have gD:Grow U (U.drewN nq):=(Grow.refl U).drewN _
      obtain⟨D,hD⟩:∃D,D=U.drewN nq:=⟨_,rfl⟩
      rw[←hD]at gD ⊢
      clear hD
      clear z0 q0_0 q0_1 f0
      have KU:=Lib.hid (gU.trans gD)
      replace G:=G.trans gD
      replace B0:=B0.grow gD
      replace BU:=BU.grow gD
      replace x0:=cellGrow gD x0
      replace x1:=cellGrow gD x1
      replace x2:=cellGrow gD x2
      clear eb0 eb1 eb2 eb3 eb4 zb hzU gU gD
      have zb:=BU.lt
      have hzd:dB<D.heap.size:=lt_of_cell x0
      have hzl:lB<D.heap.size:=lt_of_cell x2
      have eb0:D.cell? ⟨R4.heap.size,0,none⟩=some (.int .i64 aid):=BU.c 0 _ rfl
      have eb1:D.cell? ⟨R4.heap.size,1,none⟩=some (.int .i64 (fm:Int)):=BU.c 1 _ rfl
      have eb2:D.cell? ⟨R4.heap.size,2,none⟩=some (.int .i64 (tm:Int)):=BU.c 2 _ rfl
      have eb3:D.cell? ⟨R4.heap.size,3,none⟩=some (.int .i64 arm):=BU.c 3 _ rfl
      have eb4:D.cell? ⟨R4.heap.size,4,none⟩=some (.int .i64 aco):=BU.c 4 _ rfl
      have z0:=B0.lt
      have q0_0:D.cell? ⟨w.heap.size,0,none⟩=some (.int .i64 (N:Int)):=B0.c 0 _ rfl
      have q0_1:D.cell? ⟨w.heap.size,1,none⟩=some (.slice a0 es.length c0):=B0.c 1 _ rfl
      have f0:=B0.f
      have hdr:dB<R4.heap.size:=hdw
      have hlr:lB<R4.heap.size:=hlw
      have fzd:∀o,D.frozen? ⟨dB,o,none⟩=false:=fun o=>G.nf dB o (by omega) (by omega)
      have fzl:∀o,D.frozen? ⟨lB,o,none⟩=false:=fun o=>G.nf lB o (by omega) (by omega)
      go_still_tail 12,(by kernel_rfl)
      have gE:Grow D D.drew:=(Grow.refl D).drew
      change wpList _ _ _ _ _ D.drew
      have m1:(D.drew.setCell ⟨dB,tm,none⟩ (.int .i64 (yf+aco))).cell? ⟨R4.heap.size,2,none⟩=some (.int .i64 (tm:Int)):=cellSet (p:=⟨dB,tm,none⟩) (cellGrow gE eb2) (by show dB≠_;omega)
      have m2:(D.drew.setCell ⟨dB,tm,none⟩ (.int .i64 (yf+aco))).cell? ⟨lB,tm,none⟩=some (.int .i64 ol):=cellSet (p:=⟨dB,tm,none⟩) (cellGrow gE x2) (by show dB≠_;omega)
      have m3:∀o,(D.drew.setCell ⟨dB,tm,none⟩ (.int .i64 (yf+aco))).frozen? ⟨lB,o,none⟩=false:=fun o=>by rw[World.frozen?_setCell];exact fzl o
      have m4:((D.drew.setCell ⟨dB,tm,none⟩ (.int .i64 (yf+aco))).setCell ⟨lB,tm,none⟩ (.int .i64 (j:Int))).cell? ⟨R4.heap.size,2,none⟩=some (.int .i64 (tm:Int)):=cellSet (p:=⟨lB,tm,none⟩) m1 (by show lB≠_;omega)
      go_wp2_with fail
      go_roundg (l.length-(j+1))
      case measure=>have:=HJ.out;omega
      case rel=>
       have gf:Grow R4 D.drew:=KU.out.drew
       refine⟨j+1,by have:=HJ.out;omega,by go_num,by rw[HSC.out,HT.out],?_,?_,?_,?_,?_,(G.drew.setCell (by show w.heap.size≤dB;omega) _).setCell (by show w.heap.size≤lB;omega) _,(B0.drew.other (by show dB≠_;omega) _).other (by show lB≠_;omega) _⟩
       ·rw[HSC.out,HT.out];exact((KD2.out.grow gf).set (by have:=KSD.out;omega) _).other (by show lB≠dB;omega) _
       ·rw[HSC.out,HT.out];exact((KL2.out.grow gf).other (by show dB≠lB;omega) _).set (by have:=KSL.out;omega) _
       ·exact KA.out.same repArc_stable (((gf.same (by omega)).setCell (p:=⟨dB,tm,none⟩) (.inr hd1) _).setCell (p:=⟨lB,tm,none⟩) (.inr hl1) _)
       ·show _<((D.setCell _ _).setCell _ _).heap.size;rw[World.size_setCell,World.size_setCell];exact hzd
       ·show _<((D.setCell _ _).setCell _ _).heap.size;rw[World.size_setCell,World.size_setCell];exact hzl
     ·have T:decide (yf+aco<yt)=false:=by simp;omega
      have HT:=Lib.hid (HNOT.out t)
      go_wp2_with fail
      have gU:Grow R4 (R4.alloc (.cells #[.int .i64 aid,.int .i64 (fm:Int),.int .i64 (tm:Int),.int .i64 arm,.int .i64 aco] 48)):=(Grow.refl _).alloc _ _
      have BU:Box (R4.alloc (.cells #[.int .i64 aid,.int .i64 (fm:Int),.int .i64 (tm:Int),.int .i64 arm,.int .i64 aco] 48)) R4.heap.size [.int .i64 aid,.int .i64 (fm:Int),.int .i64 (tm:Int),.int .i64 arm,.int .i64 aco]:=Box.new R4 _ _
      obtain⟨U,hU⟩:∃U,U=R4.alloc (.cells #[.int .i64 aid,.int .i64 (fm:Int),.int .i64 (tm:Int),.int .i64 arm,.int .i64 aco] 48):=⟨_,rfl⟩
      rw[←hU]at gU BU ⊢
      clear hU
      clear z0 q0_0 q0_1 f0
      replace G:=G.trans gU
      replace B0:=B0.grow gU
      replace x0:=cellGrow gU x0
      replace x1:=cellGrow gU x1
      replace x2:=cellGrow gU x2
      clear ea0 ea1 ea2 ea3 ea4
      have hzU:=gU.size
      have zb:=BU.lt
      have eb0:U.cell? ⟨R4.heap.size,0,none⟩=some (.int .i64 aid):=BU.c 0 _ rfl
      have eb1:U.cell? ⟨R4.heap.size,1,none⟩=some (.int .i64 (fm:Int)):=BU.c 1 _ rfl
      have eb2:U.cell? ⟨R4.heap.size,2,none⟩=some (.int .i64 (tm:Int)):=BU.c 2 _ rfl
      have eb3:U.cell? ⟨R4.heap.size,3,none⟩=some (.int .i64 arm):=BU.c 3 _ rfl
      have eb4:U.cell? ⟨R4.heap.size,4,none⟩=some (.int .i64 aco):=BU.c 4 _ rfl
      have z0:=B0.lt
      have q0_0:U.cell? ⟨w.heap.size,0,none⟩=some (.int .i64 (N:Int)):=B0.c 0 _ rfl
      have q0_1:U.cell? ⟨w.heap.size,1,none⟩=some (.slice a0 es.length c0):=B0.c 1 _ rfl
      have f0:=B0.f
      go_quiet (fail)
      go_wp2_with fail
      have gD:Grow U (U.drewN nq):=(Grow.refl U).drewN _
      obtain⟨D,hD⟩:∃D,D=U.drewN nq:=⟨_,rfl⟩
      rw[←hD]at gD ⊢
      clear hD
      clear z0 q0_0 q0_1 f0
      have KU:=Lib.hid (gU.trans gD)
      replace G:=G.trans gD
      replace B0:=B0.grow gD
      replace BU:=BU.grow gD
      replace x0:=cellGrow gD x0
      replace x1:=cellGrow gD x1
      replace x2:=cellGrow gD x2
      clear eb0 eb1 eb2 eb3 eb4 zb hzU gU gD
      have zb:=BU.lt
      have hzd:dB<D.heap.size:=lt_of_cell x0
      have hzl:lB<D.heap.size:=lt_of_cell x2
      have eb0:D.cell? ⟨R4.heap.size,0,none⟩=some (.int .i64 aid):=BU.c 0 _ rfl
      have eb1:D.cell? ⟨R4.heap.size,1,none⟩=some (.int .i64 (fm:Int)):=BU.c 1 _ rfl
      have eb2:D.cell? ⟨R4.heap.size,2,none⟩=some (.int .i64 (tm:Int)):=BU.c 2 _ rfl
      have eb3:D.cell? ⟨R4.heap.size,3,none⟩=some (.int .i64 arm):=BU.c 3 _ rfl
      have eb4:D.cell? ⟨R4.heap.size,4,none⟩=some (.int .i64 aco):=BU.c 4 _ rfl
      have z0:=B0.lt
      have q0_0:D.cell? ⟨w.heap.size,0,none⟩=some (.int .i64 (N:Int)):=B0.c 0 _ rfl
      have q0_1:D.cell? ⟨w.heap.size,1,none⟩=some (.slice a0 es.length c0):=B0.c 1 _ rfl
      have f0:=B0.f
      go_roundg (l.length-(j+1))
      case measure=>have:=HJ.out;omega
      case rel=>exact⟨j+1,by have:=HJ.out;omega,by go_num,by rw[HSC.out,HT.out],by rw[HSC.out,HT.out];exact KD2.out.grow KU.out,by rw[HSC.out,HT.out];exact KL2.out.grow KU.out,KA.out.same repArc_stable (KU.out.same (by omega)),hzd,hzl,G,B0⟩
    ·obtain rfl:j=l.length:=by omega
     clear hj hjt
     have KD2:=Lib.hid FD;have KL2:=Lib.hid FL;have KS2:=Lib.hid SA;clear FD FL SA
     have z0:=B0.lt
     have q0_0:R4.cell? ⟨w.heap.size,0,none⟩=some (.int .i64 (N:Int)):=B0.c 0 _ rfl
     have q0_1:R4.cell? ⟨w.heap.size,1,none⟩=some (.slice a0 es.length c0):=B0.c 1 _ rfl
     have f0:=B0.f
     go_wp2_with fail
     go_roundg (N-(k+1))
     case measure=>have:=HK.out;omega
     case rel=>exact⟨k+1,by have:=HK.out;omega,by go_num,rfl,KD2.out,KL2.out,KS2.out,hdw,hlw,G,B0⟩
  ·obtain rfl:N=k:=by omega
   clear hk hlt
   clear FD
   have z0:=B0.lt
   have q0_0:R3.cell? ⟨w.heap.size,0,none⟩=some (.int .i64 (N:Int)):=B0.c 0 _ rfl
   have q0_1:R3.cell? ⟨w.heap.size,1,none⟩=some (.slice a0 es.length c0):=B0.c 1 _ rfl
   have f0:=B0.f
   by_cases hnd:(passes N l N).node<0
   ·have hri:=ringIt_no hnd
    have HB:Hid (ringOk ⟨(N:Int),es⟩ f=false):=by
     show _=_
     rw[HRB.out,hri]
    have HL:Hid (ringL ⟨(N:Int),es⟩ f=[]):=HRN.out (by rw[hri])
    generalize (passes N l N).node=nd at *
    have hq:decide (nd<0)=true:=by simp;omega
    go_wp2_with fail
    go_ret2
    exact⟨none,0,by rw[HL.out,HB.out];rfl,G,by rw[HL.out];exact SlR.nil⟩
   have hri:=ringIt_yes hnd
   have HB:Hid (ringOk ⟨(N:Int),es⟩ f=true):=by
    show _=_
    rw[HRB.out,hri]
   have HL:Hid (ringL ⟨(N:Int),es⟩ f=ringFrom l (passes N l N).last (iter (par l (passes N l N).last) N (passes N l N).node) N (iter (par l (passes N l N).last) N (passes N l N).node)):=by
    show _=_
    rw[HRL.out (by rw[hri]),hri]
   clear hri
   have hl1:1≤l.length:=by
    rcases Nat.eq_zero_or_pos l.length with q|q
    ·exfalso
     have e:l=[]:=List.eq_nil_of_length_eq_zero q
     rw[e,passes_nil]at hnd
     omega
    ·omega
   have hfin:=passes_fine HFI.out hl1 N
   generalize passes N l N=s at *
   have hst:=par_stays HFI.out hfin
   have hnk:s.node<(N:Int):=hfin.2.2.1
   have hn0:0≤s.node:=by omega
   have HST:=Lib.hid hst;clear hst
   have HFIN:=Lib.hid hfin;clear hfin
   generalize s.node=nd at *
   have hq:decide (nd<0)=false:=by simp;omega
   clear hnd
   go_wp2_with fail
   clear z0 q0_0 q0_1 f0
   go_loopg [9,13] N (fun g nv i wr=>∃m:Nat,m+g=N∧i=.int .i64 m∧nv=.int .i64 (iter (par l s.last) m nd)∧IntsAt wr lB s.last∧SlR 5 repArc wr (V1.heap.size) V2.heap.size (.slice aA l.length cA) l∧Grow w wr∧Box wr (w.heap.size) [.int .i64 (N:Int),.slice a0 es.length c0])
   case atStart=>exact⟨0,by simp,rfl,rfl,FL,SA,G,B0⟩
   case round=>
    clear G B0
    obtain⟨m,hm,rfl,rfl,FL,SA,G,B0⟩:=hrel
    obtain⟨R5,rfl⟩:∃V,V=wr:=⟨_,rfl⟩
    by_cases hlt:m<N
    ·have HK:=Lib.hid hm;clear hm
     have hb:=HST.out.iter hn0 hnk m
     obtain⟨hb1,hb2⟩:=hb
     have HIT:Hid (iter (par l s.last) (m+1) nd=par l s.last (iter (par l s.last) m nd)):=rfl
     generalize iter (par l s.last) m nd=u at *
     obtain⟨un,rfl⟩:=Int.eq_ofNat_of_zero_le hb1
     obtain⟨q,hq1,hq2,hq3,hq4,hq5⟩:=par_at HFIN.out (show un<N by omega)
     have x0:=FL un hq1
     rw[hq3]at x0
     obtain⟨b_a,off_a,ha_a,hb1_a,hb2_a,hel_a⟩:=SA.elems q hq2
     obtain⟨ea0,ea1,ea2,ea3,ea4,-⟩:=Arc.atCell hel_a q hq2
     clear hel_a
     have KA:=Lib.hid SA;clear SA
     have KL2:=Lib.hid FL;clear FL
     subst ha_a
     have HQ5:=Lib.hid hq5;clear hq5 hq3 hq4
     generalize l[q]=a at *
     have hmk2:(m:Int)<(N:Int):=by omega
     have hqi:(q:Int)<(l.length:Int):=by omega
     have hq120:q<120:=by omega
     have z0:=B0.lt
     have q0_0:R5.cell? ⟨w.heap.size,0,none⟩=some (.int .i64 (N:Int)):=B0.c 0 _ rfl
     have q0_1:R5.cell? ⟨w.heap.size,1,none⟩=some (.slice a0 es.length c0):=B0.c 1 _ rfl
     have f0:=B0.f
     have hzl:lB<R5.heap.size:=lt_of_cell x0
     go_wp2_with fail
     go_roundg (N-(m+1))
     case measure=>have:=HK.out;omega
     case rel=>exact⟨m+1,by have:=HK.out;omega,by go_num,by rw[HIT.out,HQ5.out],KL2.out,KA.out,G,B0⟩
    ·obtain rfl:N=m:=by omega
     clear hm hlt
     have hb:=HST.out.iter hn0 hnk N
     obtain⟨hb1,hb2⟩:=hb
     have hcb:=comes_back HST.out hn0 hnk
     generalize iter (par l s.last) N nd=v at *
     have z0:=B0.lt
     have q0_0:R5.cell? ⟨w.heap.size,0,none⟩=some (.int .i64 (N:Int)):=B0.c 0 _ rfl
     have q0_1:R5.cell? ⟨w.heap.size,1,none⟩=some (.slice a0 es.length c0):=B0.c 1 _ rfl
     have f0:=B0.f
     have GB:=G;have BB:=B0
     go_wp2_with fail
     have HFL:=Lib.hid FL;have KS2:=Lib.hid SA;have HG0:=Lib.hid G;have HB0:=Lib.hid B0
     clear FL SA G B0 z0 q0_0 q0_1 f0
     have HCB:=Lib.hid hcb;clear hcb
     obtain⟨W5,hW5⟩:∃V,V=R5.alloc (.cells #[] 3):=⟨_,rfl⟩
     have G5:Grow R5 W5:=by rw[hW5];exact(Grow.refl _).alloc _ _
     have OWN0:W5.ownsRow R5.heap.size 3 1 (.slice (some ⟨R5.heap.size,0,none⟩) 0 0) 0 []:=by
      rw[hW5]
      have hm:=World.ownsRow_made (base:=R5.heap.size) (e:=3) (size:=1) R5 #[] 0 (Nat.le_refl _) (by simp[maxLen]) (by simp)
      simpa using hm
     rw[←hW5]
     clear hW5
     go_loopg [14,15] N (fun g vo u wr=>∃(out:List Int) (un:Int) (gg:Nat),gg=g∧u=.int .i64 un∧Grow R5 wr∧wr.ownsRow R5.heap.size 3 1 vo out.length (out.map (Value.int .i64))∧0≤un∧un<N∧(∀y∈out,i64 y)∧out.length≤N∧(((out.length=0∨un≠v)∧out++ringFrom l s.last v gg un=ringFrom l s.last v N v∧(∃d,1≤d∧d≤gg∧iter (par l s.last) d un=v)∧out.length+gg=N)∨(out.length≠0∧un=v∧out=ringFrom l s.last v N v)))
     case atStart=>exact⟨[],v,N,rfl,rfl,G5,OWN0,hb1,hb2,by simp,by simp,.inl ⟨.inl rfl,rfl,HCB.out,by simp⟩⟩
     case round=>
      obtain⟨out,un,gg,hgg,rfl,hg,hown,hu1,hu2,hi64,hol,hph⟩:=hrel
      obtain⟨R9,rfl⟩:∃V,V=wr:=⟨_,rfl⟩
      have hform:=ints_own hown hi64
      obtain⟨av,cv,rfl,_,_,_⟩:=hform
      have HOWN:=Lib.hid hown;have HGW:=Lib.hid hg;have HI:=Lib.hid hi64;have HGG:=Lib.hid hgg;clear hown hg hi64 hgg
      have hN24:out.length≤24:=by omega
      rcases hph with⟨hc,heq,⟨d,hd3,hd4,hd5⟩,hlen⟩|⟨hc,hv,heq⟩
      ·obtain⟨un,rfl⟩:=Int.eq_ofNat_of_zero_le hu1
       obtain⟨q,hq1,hq2,hq3,hq4,hq5⟩:=par_at HFIN.out (show un<N by omega)
       have X0:=HFL.out un hq1
       rw[hq3]at X0
       obtain⟨b_a,off_a,ha_a,hb1_a,hb2_a,hel_a⟩:=KS2.out.elems q hq2
       obtain⟨ea0,ea1,-,-,-,hwa⟩:=Arc.atCell hel_a q hq2
       clear hel_a
       subst ha_a
       obtain⟨hwa,-⟩:=hwa
       have hst1:=HST.out (un:Int) hu1 hu2
       rcases gg with _|gg
       ·omega
       rw[ringFrom_step,hq4]at heq
       rw[hq5]at heq hst1
       have hpd:d=1→l[q].frm=v:=fun h=>by rw[←hq5,←hd5,h];rfl
       have hpd2:iter (par l s.last) (d-1) l[q].frm=v:=by
        rw[←hq5,←iter_succ',show d-1+1=d by omega];exact hd5
       clear hq5 hq3 hq4
       generalize l[q]=a at *
       have HEQ:=Lib.hid heq;have HP2:=Lib.hid hpd2;have HPD:=Lib.hid hpd;have HLEN:=Lib.hid hlen;have HX0:=Lib.hid X0;have HEA0:=Lib.hid ea0;have HEA1:=Lib.hid ea1;clear heq hpd2 hpd hd5 hlen
       have x0:=cellGrow HGW.out X0
       have x1:=cellGrow HGW.out ea0
       clear X0 ea0 ea1
       have hqi:(q:Int)<(l.length:Int):=by omega
       have hq120:q<120:=by omega
       have hum:(un:Int)<(N:Int):=by omega
       have zl:=lt_of_cell x0
       have za:=lt_of_cell x1
       have HHC:=Lib.hid hc
       by_cases hz:out.length=0
       ·have T0:((out.length:Int)==0)=true:=by rw[beq_iff_eq];omega
        clear hc
        go_wp2_with (at_builtin
                     go_loud (refine wpList_append_g rfl (.tmp 102) (.tmp 111) 26 rfl R5 (show Grow R5 _ by refine Grow.trans HGW.out (b:=R9) ?_;repeat (first|exact Grow.refl _|(refine Grow.alloc ?_ _ _))) 3 i0 _ 1 8 Try.underlying26 hi0 hz0 hz1 hz2 rfl (by omega) (.slice av out.length cv) out.length (out.map (Value.int .i64)) rfl (own_grow HOWN.out (show Grow R9 _ by repeat (first|exact Grow.refl _|(refine Grow.alloc ?_ _ _)))) ⟨R9.heap.size,0,none⟩ 1 1 [.int .i64 a.id] rfl rfl (news_of _ _ _ _ rfl) (fun u hu=>by rw[List.mem_singleton.1 hu];rfl) (by simp only[maxLen];omega) (by omega) ?_)
                     intro v1 w1 hown' hg' hgb hat
                     have HOWN1:=Lib.hid hown';have HG1:=Lib.hid hg'
                     have r0:=cellGrow HG1.out HX0.out;have r1:=cellGrow HG1.out HEA1.out;have zl1:=lt_of_cell r0;have za1:=lt_of_cell r1
                     clear hown' hg' hgb hat)
        have hown2:w1.ownsRow R5.heap.size 3 1 v1 (out++[a.id]).length ((out++[a.id]).map (Value.int .i64)):=by have:=HOWN1.out;rwa [List.map_append,List.length_append]
        have HOWN2:=Lib.hid hown2;clear hown2
        go_roundg gg
        case measure=>have:=HGG.out;omega
        case rel=>
         refine⟨out++[a.id],a.frm,gg,rfl,rfl,HG1.out,HOWN2.out,hst1.1,hst1.2,fun y hy=>?_,by have:=HLEN.out;simp;omega,?_⟩
         ·rcases List.mem_append.1 hy with h|h
          ·exact HI.out y h
          ·rw[List.mem_singleton.1 h];exact hwa
         ·have he:=HEQ.out
          by_cases tv:a.frm=v
          ·right
           rw[if_pos tv]at he
           exact⟨by simp,tv,he⟩
          ·left
           rw[if_neg tv]at he
           exact⟨.inr tv,by rw[←he];simp,⟨d-1,by rcases Nat.lt_or_ge 1 d with h|h;(· omega);exact absurd (HPD.out (by omega)) tv,by omega,HP2.out⟩,by have:=HLEN.out;simp;omega⟩
       ·have T0:((out.length:Int)==0)=false:=by rw[beq_eq_false_iff_ne];omega
        have T1:((un:Int) != v)=true:=by
         rcases hc with h|h
         ·exact absurd h hz
         ·simpa using h
        clear hc
        go_wp2_with (at_builtin
                     go_loud (refine wpList_append_g rfl (.tmp 102) (.tmp 111) 26 rfl R5 (show Grow R5 _ by refine Grow.trans HGW.out (b:=R9) ?_;repeat (first|exact Grow.refl _|(refine Grow.alloc ?_ _ _))) 3 i0 _ 1 8 Try.underlying26 hi0 hz0 hz1 hz2 rfl (by omega) (.slice av out.length cv) out.length (out.map (Value.int .i64)) rfl (own_grow HOWN.out (show Grow R9 _ by repeat (first|exact Grow.refl _|(refine Grow.alloc ?_ _ _)))) ⟨R9.heap.size,0,none⟩ 1 1 [.int .i64 a.id] rfl rfl (news_of _ _ _ _ rfl) (fun u hu=>by rw[List.mem_singleton.1 hu];rfl) (by simp only[maxLen];omega) (by omega) ?_)
                     intro v1 w1 hown' hg' hgb hat
                     have HOWN1:=Lib.hid hown';have HG1:=Lib.hid hg'
                     have r0:=cellGrow HG1.out HX0.out;have r1:=cellGrow HG1.out HEA1.out;have zl1:=lt_of_cell r0;have za1:=lt_of_cell r1
                     clear hown' hg' hgb hat)
        have hown2:w1.ownsRow R5.heap.size 3 1 v1 (out++[a.id]).length ((out++[a.id]).map (Value.int .i64)):=by have:=HOWN1.out;rwa [List.map_append,List.length_append]
        have HOWN2:=Lib.hid hown2;clear hown2
        go_roundg gg
        case measure=>have:=HGG.out;omega
        case rel=>
         refine⟨out++[a.id],a.frm,gg,rfl,rfl,HG1.out,HOWN2.out,hst1.1,hst1.2,fun y hy=>?_,by have:=HLEN.out;simp;omega,?_⟩
         ·rcases List.mem_append.1 hy with h|h
          ·exact HI.out y h
          ·rw[List.mem_singleton.1 h];exact hwa
         ·have he:=HEQ.out
          by_cases tv:a.frm=v
          ·right
           rw[if_pos tv]at he
           exact⟨by simp,tv,he⟩
          ·left
           rw[if_neg tv]at he
           exact⟨.inr tv,by rw[←he];simp,⟨d-1,by rcases Nat.lt_or_ge 1 d with h|h;(· omega);exact absurd (HPD.out (by omega)) tv,by omega,HP2.out⟩,by have:=HLEN.out;simp;omega⟩
      ·subst hv
       have T0:((out.length:Int)==0)=false:=by rw[beq_eq_false_iff_ne];omega
       have T1:(un != un)=false:=by simp
       have htot:out=ringL ⟨(N:Int),es⟩ f:=heq.trans HL.out.symm
       have SO:=ints_own HOWN.out HI.out
       have SO:=SO.stable repInt_stable (Same.refl _ _ _) (lo':=w.heap.size) (by have:=HG0.out.size;omega) (Nat.le_refl _)
       rw[htot]at SO
       have HTOT:=Lib.hid htot;clear htot heq
       have HSO:=Lib.hid SO;clear SO
       go_wp2_with fail
       go_ret2
       exact⟨av,cv,by rw[HB.out,←HTOT.out];rfl,HG0.out.trans HGW.out,by rw[←HTOT.out];have h:=HSO.out;rwa [←HTOT.out]at h⟩
end Go.Proofs.Ytlgamhhfgaeaoaa
