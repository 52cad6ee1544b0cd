/- FnOpen is proved: the given statement holds with no condition. Texts joined: LogL, EQ4, LFnOpen, CFnOpen. -/
import Derived.Test.YteblcdnhnckkaaaJFnOpen9
import Derived.Test.YteblcdnhnckkaaaRows
import Derived.Test.YteblcdnhnckkaaaKOpn
namespace Go.Proofs.Yteblcdnhnckkaaa
open Go.RowKit
set_option linter.unusedSimpArgs false
set_option linter.unusedVariables false
-- ---------- views
theorem lastW_app{i:Int}{w:Write}:∀(ws:List Write),lastW (ws++[w]) i=if w.at_=i then some w.bytes else lastW ws i
 |[]=>rfl
 |x::ws=>by
  show (match lastW (ws++[w]) i with|some b=>some b|none=>if x.at_=i then some x.bytes else none)=_
  rw[lastW_app ws]
  by_cases h:w.at_=i
  ·rw[if_pos h,if_pos h]
  ·rw[if_neg h,if_neg h];rfl
theorem syncs_at{i:Nat}:∀(ws:List Write) (cs:List Cell),(∀w∈ws,0≤w.at_)→(ws.foldl syncStep cs)[i]? = (cs[i]?).map fun c=>match lastW ws i with|some b=>⟨b⟩|none=>c
 |[],cs,_=>by simp[lastW]
 |w::ws,cs,h=>by
  rw[List.foldl_cons,syncs_at ws _ (fun x hx=>h x (by simp[hx]))]
  have h0:=h w (by simp)
  show ((cs.set w.at_.toNat ⟨w.bytes⟩)[i]?).map _=(cs[i]?).map fun c=>match (match lastW ws i with|some b=>some b|none=>if w.at_=(i:Int)then some w.bytes else none)with|some b=>(⟨b⟩:Cell)|none=>c
  rw[List.getElem?_set]
  by_cases q:w.at_.toNat=i
  ·rw[if_pos q]
   have q2:w.at_=(i:Int):=by omega
   by_cases z:w.at_.toNat<cs.length
   ·rw[if_pos z,List.getElem?_eq_getElem (show i<cs.length by omega)]
    cases lastW ws i<;>simp[q2]
   ·rw[if_neg z,List.getElem?_eq_none (show cs.length≤i by omega)];rfl
  ·rw[if_neg q]
   have q2:¬w.at_=(i:Int):=by omega
   cases lastW ws i<;>simp[q2]
theorem at_sync{d:Disk}(h:diskOk d=true){i:Nat}(hi:i<d.cells.length):diskAt (diskS d) i=diskAt d i:=by
 rw[diskS_y h]
 unfold diskAt
 show fullB (((synK d d.dirty.length)[i]?).getD ⟨[]⟩).bytes=_
 unfold synK
 rw[List.take_length,syncs_at _ _ (fun w hw=>by obtain⟨j,hj,rfl⟩:=List.getElem_of_mem hw;exact(dok_at h hj).1),List.getElem?_eq_getElem hi]
 cases hl:lastW d.dirty i with
 |none=>rfl
 |some b=>
  obtain⟨w,hw,hwb⟩:=lw_mem hl
  obtain⟨j,hj,rfl⟩:=List.getElem_of_mem hw
  have:=dok_w h hj
  rw[hwb]at this
  show fullB b=b
  exact fullB_n (by omega)
theorem view_get{d:Disk}{i:Nat}(h:i<(views d).length):(views d)[i]=diskAt d i:=by simp[views]
theorem views_sync{d:Disk}(h:diskOk d=true):views (diskS d)=views d:=by
 have hl:(diskS d).cells.length=d.cells.length:=by rw[diskS_y h];exact synK_len _ _
 refine List.ext_getElem (by rw[views_len,views_len,hl]) fun i h1 h2=>?_
 have hi:i<d.cells.length:=by rwa [views_len]at h2
 rw[view_get,view_get,at_sync h hi]
theorem views_w{d:Disk}{i:Nat}{b:List Int}:views (diskW d i b)=(views d).set i b:=by
 refine List.ext_getElem (by rw[List.length_set,views_len,views_len];rfl) fun j h1 h2=>?_
 have hj:j<d.cells.length:=by rw[List.length_set,views_len]at h2;exact h2
 rw[List.getElem_set,view_get,view_get]
 unfold diskAt diskW
 show (match lastW (d.dirty++[⟨(i:Int),b⟩]) (j:Int)with|some b=>b|none=>_)=_
 rw[lastW_app]
 by_cases q:i=j
 ·subst q;rw[if_pos rfl,if_pos rfl]
 ·rw[if_neg (show ¬((i:Int)=(j:Int)) by omega),if_neg q];rfl
-- ---------- the run
theorem run_ext:∀(bs:List (List Int)) (acc:List Sector),∃r,logRun bs acc=acc++r
 |[],acc=>⟨[],by simp[logRun]⟩
 |b::r,acc=>by
  unfold logRun
  split
  ·obtain⟨q,hq⟩:=run_ext r (acc++[secC b])
   exact⟨secC b::q,by rw[hq,List.append_assoc];rfl⟩
  ·exact⟨[],by simp⟩
theorem run_pre:∀(m:Nat) (bs:List (List Int)) (acc:List Sector) (rest:List (List Int)),acc.length+m≤(logRun bs acc).length→logRun (bs.take m++rest) acc=logRun rest ((logRun bs acc).take (acc.length+m))
 |0,bs,acc,rest,_=>by
  obtain⟨r,hr⟩:=run_ext bs acc
  rw[hr,List.take_zero,List.nil_append,Nat.add_zero,List.take_left]
 |m+1,[],acc,rest,h=>by
  have:logRun [] acc=acc:=rfl
  rw[this]at h;omega
 |m+1,b::r,acc,rest,h=>by
  by_cases hg:goesOn acc b=true
  ·have e:logRun (b::r) acc=logRun r (acc++[secC b]):=by conv=>lhs;unfold logRun
                                                         rw[if_pos hg]
   rw[e]at h ⊢
   have ih:=run_pre m r (acc++[secC b]) rest (by rw[List.length_append,List.length_singleton];omega)
   rw[List.length_append,List.length_singleton]at ih
   rw[List.take_succ_cons,List.cons_append,show acc.length+(m+1)=acc.length+1+m by omega,←ih]
   conv=>lhs;unfold logRun
   rw[if_pos hg]
  ·have e:logRun (b::r) acc=acc:=by unfold logRun;rw[if_neg hg]
   rw[e]at h;omega
theorem run_set{bs:List (List Int)}{b:List Int}(h:(logRun bs []).length<bs.length):logRun (bs.set (logRun bs []).length b) []=logRun (b::bs.drop ((logRun bs []).length+1)) (logRun bs []):=by
 have e:bs.set (logRun bs []).length b=bs.take (logRun bs []).length++b::bs.drop ((logRun bs []).length+1):=by
  rw[List.set_eq_take_append_cons_drop,if_pos h]
 rw[e,run_pre _ bs [] _ (by simp)]
 simp
theorem top_ge:∀(l:List (List Int)) (t:Int),t≤l.foldl (fun t b=>max t (secR b).epoch) t∧∀b∈l,(secR b).epoch≤l.foldl (fun t b=>max t (secR b).epoch) t
 |[],t=>⟨Int.le_refl _,fun b h=>by cases h⟩
 |x::l,t=>by
  have ih:=top_ge l (max t (secR x).epoch)
  rw[List.foldl_cons]
  refine⟨by omega,fun b hb=>?_⟩
  rcases List.mem_cons.1 hb with rfl|hb
  ·omega
  ·exact ih.2 b hb
theorem top_le{m:Int}:∀(l:List (List Int)) (t:Int),t≤m→(∀b∈l,(secR b).epoch≤m)→l.foldl (fun t b=>max t (secR b).epoch) t≤m
 |[],t,h,_=>h
 |x::l,t,h,hb=>by
  rw[List.foldl_cons]
  have:=hb x (by simp)
  exact top_le l _ (by omega) (fun b q=>hb b (by simp[q]))
theorem topOf_ge{l:List (List Int)}{b:List Int}(h:b∈l):(secR b).epoch≤topOf l:=(top_ge l 0).2 b h
theorem topOf_nn(l:List (List Int)):0≤topOf l:=(top_ge l 0).1
theorem last_top(bs:List (List Int)):lastE (logRun bs [])≤topOf bs:=by
 unfold lastE
 split
 ·rename_i s hs
  rcases run_mem (List.mem_of_getLast? hs)with q|⟨b,hb,hF,rfl⟩
  ·cases q
  ·have:=topOf_ge hb
   rwa [secR_yes hF]at this
 ·exact topOf_nn _
theorem run_stop{bs:List (List Int)}{acc:List Sector}{t:Int}(hb:∀b∈bs,(secR b).epoch≤t)(h:t<lastE acc):logRun bs acc=acc:=by
 cases bs with
 |nil=>rfl
 |cons b r=>
  unfold logRun
  rw[if_neg]
  intro hg
  obtain⟨g1,_,g3⟩:=goes_iff.1 hg
  have:=hb b (by simp)
  rw[secR_yes g1]at this
  omega
theorem evs_app(a b:List Sector):evsOf (a++b)=evsOf a++evsOf b:=List.filterMap_append
theorem lastE_eq{a:List Sector}{s:Sector}:lastE (a++[s])=s.epoch:=lastE_app a s
-- ---------- what opening does
structure OpenL(d:Disk):Prop where
 evs:logE (lgOpL d).disk=logE d
 len:((logR (lgOpL d).disk).length:Int)=(lgOpL d).next
 ep:(lgOpL d).epoch=logTop d+1
 top:logTop (lgOpL d).disk=(lgOpL d).epoch
 run:logR (lgOpL d).disk=logR d++[⟨(logR d).length,logTop d+1,[66]⟩]
theorem openL{d:Disk}(hc:lgOpC d=0):OpenL d:=by
 have hok:diskOk d=true:=by rcases lgOp_cases d with q|q;exact q.2.1;exact absurd hc q.1
 have hokL:diskOk (lgOpL d).disk=true:=by rcases lgOp_cases d with q|q;exact q.2.2;exact absurd hc q.1
 have h0:d.dirty.length=0:=by
  by_cases h:d.dirty.length=0
  ·exact h
  ·rw[lg1 (.inr h)]at hc;cases hc
 have hn:¬((logR d).length=d.cells.length∨16000000≤logTop d):=fun q=>by rw[lg2 hok h0 q]at hc;cases hc
 have hle:=logR_le hok
 have hlt:(logR d).length<d.cells.length:=by omega
 have hS:=bSec hok hlt (by omega)
 have hW:=dok_diskW hok hlt (by omega) (secB_length (s:=⟨(logR d).length,logTop d+1,[66]⟩) (Nat.le_of_ble_eq_true rfl))
 have hL:=lgL_y hc
 generalize hb:secB ⟨(logR d).length,logTop d+1,[66]⟩=b at hL hW
 have hbF:secF b=true:=by rw[←hb];exact secF_secB hS
 have hbC:secC b=⟨(logR d).length,logTop d+1,[66]⟩:=by rw[←hb];exact secC_secB hS
 have hv:views (lgOpL d).disk=(views d).set (logR d).length b:=by rw[hL];show views (diskS _)=_;rw[views_sync hW,views_w]
 have hR:=logR_y hok
 have hT:=logTop_y hok
 have hlast:lastE (logR d)≤logTop d:=by rw[hR,hT];exact last_top _
 have hrun:logR (lgOpL d).disk=logR d++[⟨(logR d).length,logTop d+1,[66]⟩]:=by
  rw[logR_y hokL,hv]
  have e:=run_set (bs:=views d) (b:=b) (by rw[←hR,views_len];exact hlt)
  rw[←hR]at e
  rw[e]
  have hg:goesOn (logR d) b=true:=goes_iff.2 ⟨hbF,by rw[hbC],by rw[hbC];show lastE _≤logTop d+1;omega⟩
  conv=>lhs;unfold logRun
  rw[if_pos hg,hbC]
  exact run_stop (t:=logTop d) (fun x hx=>by rw[hT];exact topOf_ge (List.mem_of_mem_drop hx)) (by rw[lastE_eq];show logTop d<logTop d+1;omega)
 refine⟨?_,by rw[hrun,hL];simp,by rw[hL],?_,hrun⟩
 ·unfold logE
  rw[hrun,evs_app]
  show evsOf (logR d)++[]=_
  rw[List.append_nil]
 ·rw[logTop_y hokL,hv,hL]
  show topOf _=logTop d+1
  have hbe:(secR b).epoch=logTop d+1:=by rw[secR_yes hbF,hbC]
  refine Int.le_antisymm (top_le _ _ (by have:=(logTop_bd d).1;omega) fun x hx=>?_) ?_
  ·rcases List.mem_or_eq_of_mem_set hx with q|rfl
   ·have:=topOf_ge q;rw[←hT]at this;omega
   ·omega
  ·rw[←hbe]
   exact topOf_ge (List.mem_iff_getElem.2 ⟨(logR d).length,by rw[List.length_set,views_len];exact hlt,by rw[List.getElem_set_self]⟩)
-- ---------- what adding does
structure AddL(l:Log)(e:Event):Prop where
 ge:(lgAddL l e).next≤((logR (lgAddL l e).disk).length:Int)
 run:((logR (lgAddL l e).disk).length:Int)=(lgAddL l e).next→logR (lgAddL l e).disk=logR l.disk++[⟨l.next,l.epoch,evB e⟩]
 evs:((logR (lgAddL l e).disk).length:Int)=(lgAddL l e).next→logE (lgAddL l e).disk=logE l.disk++[e]
theorem kept{d:Disk}(h:diskOk d=true):diskC (diskS d) []=diskS d∧logE (diskS d)=logE d:=by
 have hs:=sync_ok h
 refine⟨?_,?_⟩
 ·rw[diskC_y hs.1,hs.2]
  have:=hs.2
  revert this
  generalize diskS d=x
  intro hx
  obtain⟨c,w⟩:=x
  subst hx
  rfl
 ·unfold logE
  rw[logR_y hs.1,logR_y h,views_sync h]

set_option maxHeartbeats 16000000
set_option maxRecDepth 100000
theorem fnOpen_e(code:List Int):GC Try.prog 6 [.p (.lst 5 1 (rowsOf encU8 code))] [] (boo true) []:=by
 refine gi 2 Try.func6 rfl Try.ntmps6 rfl ?_
 intro L O w0
 refine sL<|laZ Z<|nG<|aS<|sL<|lmL Z<|lnI ty.sl56 Z ?_
 refine AL.slot 14 (int (code.length:Int)) (congrArg (fun n:Nat=>int (n:Int)) (length_rowsOf ..)) ?_
 refine lbB Z<|nG ?_
 refine AW.cond rfl ?_ ?_
 ·intro h1
  refine sL<|laT Z<|nG<|aR<|rT ?_
  refine end_ret ?_ trivial
  rfl
 ·intro h1
  refine aK<|gA<|lmL Z ?_
  refine lX [] [] [] Try.func28 (drawLogOpen_e code (by have h:=h1;simp only[decide_eq_false_iff_not]at h;omega)) (trivial) (fun _ _ _=>trivial) Z ?_
  intro xz1 oz1 hz1
  obtain⟨d,hbd,rfl,rfl⟩:=hz1
  refine lst (zA 2003 ty.ze34 Z) Z<|lst (zB 2003 ty.co34 ty.inf34 Z) Z<|nA<|loX (.agg [vL _ _ _,vL _ _ _]) ty.kd34 Z<|lst (zC [] [] [] Try.func27 (logOpen_f d hbd) (trivial) Z Z) Z<|lmX (.tup [.agg [vL _ _ _,vL _ _ _,vI _ _,vI _ _],vL _ _ _,vI _ _]) Z<|lxX (.agg [vL _ _ _,vL _ _ _,vI _ _,vI _ _]) Z<|lxL Z<|lxI Z<|lst (zA 2004 ty.ze36 Z) Z<|lT [2,3,4,21,22,23] [2003,2004] ?_
  refine lst (zB 2004 ty.co36 ty.inf36 rfl) Z<|laL Z<|laI Z<|nA<|loX (.agg [vL _ _ _,vL _ _ _]) ty.kd34 Z<|lst (zC [] [] [] Try.func26 (slogOpen_f d hbd) (trivial) rfl rfl) Z<|lmX (.tup [.agg [vL _ _ _,vL _ _ _,vI _ _,vI _ _],vL _ _ _,vI _ _]) Z<|lxX (.agg [vL _ _ _,vL _ _ _,vI _ _,vI _ _]) Z<|lxL Z<|lxI Z<|lst (zA 2007 ty.ze36 rfl) Z<|lst (zB 2007 ty.co36 ty.inf36 rfl) Z<|laL Z<|laI Z<|nG<|aS<|sL<|lmI Z<|lmI Z<|lbB Z<|lsB 32 false rfl (by simp)<|nG<|aN Z<|aK ?_
  refine gT<|aS<|sL<|lmI Z<|lbB Z<|nG ?_
  refine AW.cond rfl ?_ ?_
  ·intro h2
   refine sL<|lmL Z<|lnI ty.sl46 Z ?_
   refine AL.slot 36 (int ((lgOpE d).length:Int)) (congrArg (fun n:Nat=>int (n:Int)) (length_rowsOf ..)) ?_
   refine lbB Z<|lsB 37 true rfl (by rw[lgE_n (by have h:=h2;simpa using h)];simp)<|laT Z<|nG<|aR<|rT ?_
   refine end_ret ?_ trivial
   rfl
  ·intro h2
   refine aK<|gT<|aS ?_
   have hc:lgOpC d=0:=by have h:=h2;simpa using h
   have hO:=openL hc
   have hbL:=lgOp_b hbd
   have hE:=lgE_y hc
   have ht:=logTop_bd d
   refine aL<|lf 0 ty.F36_0 Z<|loX (.agg [vL _ _ _,vL _ _ _]) ty.kd34 Z<|lst (zC [] [] [] Try.func20 (logEvents_f (lgOpL d).disk hbL) (trivial) Z Z) Z<|lT [2,3,4,5,40] [2003,2004,2007] ?_
   refine laL Z<|nA<|lf 0 ty.F36_0 Z<|loX (.agg [vL _ _ _,vL _ _ _]) ty.kd34 Z<|lst (zC [] [] [] Try.func29 (logRead_e (lgOpL d).disk hbL) (trivial) Z Z) Z<|lmX (.tup [vL _ _ _,vI _ _]) Z<|lxL Z<|lxI Z<|laL Z<|laI Z<|nG<|aS<|aF []<|pq 0 (qmL Z)<|sq 1 (rnI ty.sl46 Z) ?_
   refine AF.slot 48 (int ((logE (lgOpL d).disk).length:Int)) (congrArg (fun n:Nat=>int (n:Int)) (length_rowsOf ..)) ?_
   refine vq 2 (rmL Z)<|vq 3 (rnI ty.sl46 Z) ?_
   refine AF.slot 50 (int ((lgOpE d).length:Int)) (congrArg (fun n:Nat=>int (n:Int)) (length_rowsOf ..)) ?_
   refine vq 4 (rbB rfl)<|fsB 51 true rfl (by rw[hO.evs,hE];simp)<|vq 5 (rmT rfl)<|pq 6 (qmL rfl)<|sq 7 (rnI ty.sl46 rfl) ?_
   refine AF.slot 54 (int ((lgOpE d).length:Int)) (congrArg (fun n:Nat=>int (n:Int)) (length_rowsOf ..)) ?_
   refine vq 8 (roX (.agg [vL _ _ _,vL _ _ _]) ty.kd34 Z)<|vst 9 Z (zC [] [] [] Try.func18 (slogEvents_f d hbd) (trivial) Z Z) (.inr Z)<|fT [2,3,4,12,52,54,56] [2003,2004,2007] ?_
   refine vq 10 (rnI ty.sl46 rfl) ?_
   refine AF.slot 57 (int ((logE d).length:Int)) (congrArg (fun n:Nat=>int (n:Int)) (length_rowsOf ..)) ?_
   refine vq 11 (rbB rfl)<|fsB 58 true rfl (by rw[hE];simp)<|vq 12 (rkT rfl)<|vq 13 (rmT rfl)<|pq 14 (qf 3 ty.F36_2 rfl)<|sq 15 (roI ty.kd3 rfl)<|vq 16 (roX (.agg [vL _ _ _,vL _ _ _]) ty.kd34 rfl)<|vst 17 rfl (zC [] [] [] Try.func30 (logTop_e d hbd) (trivial) rfl rfl) (.inr rfl)<|vq 18 (rgI rfl (by unfold i64;omega))<|vq 19 (rbB rfl)<|fsB 66 true rfl (by rw[hO.ep];simp)<|vq 20 (rkT rfl)<|vq 21 (rmT rfl)<|pq 22 (qf 0 ty.F36_0 rfl)<|sq 23 (roX (.agg [vL _ _ _,vL _ _ _]) ty.kd34 rfl)<|pq 25 (qf 3 ty.F36_2 rfl)<|sq 26 (roI ty.kd3 rfl)<|vst 24 rfl (zC [] [] [] Try.func30 (logTop_e (lgOpL d).disk hbL) (trivial) rfl rfl) (.inr rfl)<|fT [2,4,12,68,71,73] [2003,2004,2007] ?_
   refine vq 27 (rbB rfl)<|fsB 74 true rfl (by rw[hO.top];simp)<|vq 28 (rkT rfl)<|vq 29 (rmT rfl)<|pq 30 (qmX (vI _ _) rfl)<|vq 31 (rf 2 ty.F36_1 rfl)<|vq 32 (roI ty.kd3 rfl)<|vq 33 (rbB rfl)<|fsB 80 true rfl (by rw[hO.len];simp)<|vq 34 (rkT rfl)<|vq 35 (raT rfl)<|fD<|gT<|aR ?_
   refine end_ret ?_ trivial
   rfl

theorem FnOpen_walk(l:List Int)(a:Option Addr)(c:Nat)(w:World)(h0:SlR 1 repByte w 0 w.heap.size (.slice a l.length c) l) :
 Calls Try.prog 6 #[.slice a l.length c] w fun r w'=>r=.returned (.bool true)∧Grow w w':=
 GC.calls (cs:=[_]) rfl (fnOpen_e l) (by
  simp only[RVL]
  exact⟨_,_,rfl,RV.of_slr (enc:=encU8) h0 (fun _ _ h=>h.1) (fun _=>rfl) (by intro c u hu;simp[encU8]at hu;subst hu;rfl) (Nat.le_refl _) (fun _ _ _=>no_live),rfl⟩)
end Go.Proofs.Yteblcdnhnckkaaa

namespace Go.Proofs.Yteblcdnhnckkaaa.fnOpen
open Go.ChangeShapes Go.WideShapes Go.ChangeAt Go.RowKit Go.Proofs.Yteblcdnhnckkaaa
set_option maxHeartbeats 16000000
set_option maxRecDepth 100000
set_option linter.unusedVariables false
theorem own:ownKnob Try.prog.godebug=none:=by kernel_rfl
theorem laid:laidOutB Try.prog=true:=by kernel_rfl
theorem readable:∀t∈[56],Try.prog.readableRec t=true∧t<Try.prog.types.size:=by
 intro t ht
 simp only[List.mem_cons,List.not_mem_nil,or_false]at ht
 rcases ht with rfl
 all_goals exact⟨by kernel_rfl,of_decide_eq_true (by kernel_rfl)⟩
theorem lifted(os:Os)(started:os.Started)(H:Type)(enc:TypeId×Value→H) :
 ReturnsInHanded {} Try.checked os 6 .any (Rows.fnOpenSpec.pre6 enc Try.prog Try.f6 Rows.fnOpenRow.domain false) (Rows.fnOpenSpec.post enc Try.prog Try.f6 false true false false):=by
 refine returnsInHanded_of_change (C:=Try.checked) own started (by kernel_rfl) Try.func6
  (ChangeSpec.witness6 (enc:=enc) (C:=Try.checked) false ⟨#[],#[.slice none 0 0],[]⟩ 8 (by kernel_rfl) (by kernel_rfl) (by kernel_rfl) (by kernel_rfl)) ?_
 intro W base args ds gs before hval0 hW hcnd _
 have hval:∀(j:Nat) t v,Try.f6.params[j]? = some t→args[j]? = some v→Value.okWide Try.prog W .any base t v:=hval0
 have hW':=hW
 obtain⟨p,q,hA0,hV,rfl,hfz,hnd⟩:=hW
 have hA:DataW.TrodAll enc Try.prog W 0 (fun _=>true) true Try.f6.params.toList args.toList ds p:=hA0
 rw[Try.params6]at hA hval
 have hB:=hA
 obtain⟨v0,vs0,d0,ds0,p0,q0,hargs,rfl,rfl,h0,r0⟩:=trodAll_cons hA
 obtain⟨rfl,rfl,rfl⟩:=trodAll_nil r0
 obtain rfl:args=#[v0]:=by cases args;simp_all
 obtain⟨rfl,rfl⟩:=trodVars_none hV
 obtain⟨a0,l0,c0,rfl⟩:=okWide_slice Try.underlying56 (hval 0 56 v0 rfl rfl)
 obtain⟨fu0,t0⟩:=h0
 obtain⟨x0,s0⟩:=SlR.of_trod (rep:=repByte) Try.underlying56 cellsByte (by decide) (fun _ _ _ h=>trodByte h) t0
 obtain rfl:l0=x0.length:=by obtain⟨_,_,he,_⟩:=s0;injection he
 clear hA0 hval0
 simp only[List.append_nil]at hW'
 refine(FnOpen_walk x0 a0 c0 W s0).mono fun e W' ⟨he,hg⟩=>?_
 subst he
 exact⟨_,rfl,_,_,_,_,_,[],hW',trodAll_mk1 (shut_bool Try.underlying4 true),
  trodAll_below laid hg.below (readable) hB,rfl,hg.below.frame _,fun h=>by cases h⟩
theorem over:Rows.fnOpenRow.holds Try.pinned (OpenSpec.ofChange Rows.fnOpenSpec):=
 OpenClaim.holds_of_wide 6 Try.f6 rfl rfl rfl rfl rfl rfl rfl ⟨rfl,rfl,rfl,rfl,rfl⟩ rfl rfl rfl rfl rfl (by kernel_rfl) Try.func6 (by kernel_rfl)
  (of_decide_eq_true (by kernel_rfl)) (by unfold Func.isWrapper;first|(rw[if_pos (by decide +kernel)];kernel_rfl)|(rw[if_neg (by decide +kernel)];exact⟨rfl,rfl⟩))
  (fun os started H enc _=>lifted os started H enc)
theorem proved:Rows.FnOpenSaid:=
 over
#print axioms proved
end Go.Proofs.Yteblcdnhnckkaaa.fnOpen

