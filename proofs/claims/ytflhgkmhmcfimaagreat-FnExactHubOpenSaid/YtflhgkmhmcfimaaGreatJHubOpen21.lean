/- FnExactHubOpen is proved: the given statement holds with no condition. Texts joined: EW2, EW3, EW4, EW5, LdRV, LFnExactHubOpen, CFnExactHubOpen. -/
import Derived.Test.YtflhgkmhmcfimaaGreatJHubOpen20
import Derived.Test.YtflhgkmhmcfimaaGreatJHubOpen11
import Derived.Test.YtflhgkmhmcfimaaGreatJHubOpen13
import Derived.Test.YtflhgkmhmcfimaaGreatJHubOpen14
import Derived.Test.YtflhgkmhmcfimaaGreatJHubOpen15
import Derived.Test.YtflhgkmhmcfimaaGreatJHubOpen9
import Derived.Test.YtflhgkmhmcfimaaGreatJHubOpen10
import Derived.Test.YtflhgkmhmcfimaaGreatRows
import Derived.Test.YtflhgkmhmcfimaaGreatKOpn
namespace Go.Proofs.YtflhgkmhmcfimaaGreat
open Go.RowKit
set_option maxHeartbeats 16000000
set_option maxRecDepth 100000
set_option linter.unusedSimpArgs false
set_option linter.unusedVariables false
theorem adF:∀ {l:List (Nat×AO)},(l.all fun p=>nr p.2)=true->∀i,nr (bx l i)=true
 |[],_,i=>rfl
 |(a,o)::l,h,i=>by
  rw[List.all_cons,Bool.and_eq_true]at h;show nr (if i=a then o else bx l i)=true;split
  ·exact h.1
  exact adF h.2 i
theorem ae2{o:AO}(h:nr o=true):o=.gone\/∃e sz rows,o=.ai e sz rows:=by
 cases o with
 |ai e sz rows=>exact .inr ⟨e,sz,rows,rfl⟩
 |gone=>exact .inl rfl
 |box _ _ _=>cases h
theorem ae3{h:Nat->AO}{F:List AO}(V:∀i,nr (h i)=true)(h2:dS F)(i:Nat):nr (tl h F i)=true:=by
 unfold tl;cases Nat.blt i 1000000
 ·exact h2.at _
 exact V i
theorem adG{l m:List (Nat×AO)}:∀ {k:List (Nat×AO)},(∀p∈k,bx l p.1=p.2)->∀i,bx k i=.gone\/bx k i=bx l i
 |[],_,i=>.inl rfl
 |(a,o)::k,h,i=>by
  show (if i=a then o else bx k i)=.gone\/(if i=a then o else bx k i)=bx l i;split
  ·rename_i e;subst e;exact .inr (h (i,o) (by simp)).symm
  exact adG (m:=m) (fun p hp=>h p (by simp[hp])) i
abbrev acI(r:fg):AV:=.au [.agg [int r.now.tick,int r.now.next,int r.now.aA,.own 1,.own 2,.own 3],.p (.ab 92 2 (qI r.ps)),.p (.ab 3 1 (ah kt r.jD))]
theorem ae4{f:FuncId}{args:List AV}{r:fg}(h:GN Tryz.prog f args [] [] (GW r)):GC Tryz.prog f args [] (acI r) (Jz r.now):=
 GX.vA (Z:=fun y o=>y=acI r/\o=Jz r.now) (show GX Tryz.prog f args [] _ from h) fun x ob ⟨l1,F1,hs,hF,hM,e,⟨vs,hv,e1,e2,e3⟩⟩=>by
  subst e e1 e2 e3;have hO:bx (Ag r vs++je 1000000 (fZ vs r.ps))=tl (bx (Ag r vs)) (fZ vs r.ps):=Gm rfl;have hK:∀i,bx (Jz r.now) (1000000+i)=.gone:=fun i=>by simp only[bx];rw[if_neg (by omega),if_neg (by omega),if_neg (by omega)]
  have hT:Tl (abO (tl (bx (Ag r vs)) (fZ vs r.ps)) (bx (Jz r.now))) (fZ vs r.ps):=⟨fun i=>by
   unfold abO;rw[hK i];exact(Tl.tl hF).1 i,hF⟩
  refine⟨acI r,Jz r.now,?_,⟨fun i=>?_,fun i=>?_⟩,rfl,rfl⟩
  ·rw[hO];exact abG.au (.cons (abG.agg (.cons (abG.p _) (.cons (abG.p _) (.cons (abG.p _) (.cons (abG.own rfl) (.cons (abG.own rfl) (.cons (abG.own rfl) .nil)))))))
    (.cons (adb rfl (Still.own (id:=14) (e:=⟨92,none⟩) (sz:=2) (rows:=lH vs r.ps) rfl (Tk hT hv (s:=0) fun i hi=>by rw[Nat.zero_add])))
    (.cons (adb rfl (Still.row (id:=15) (e:=⟨3,none⟩) (sz:=1) (rows:=ah kt r.jD) rfl)) .nil)))
  ·rw[hO];exact ae2 (ae3 (adF rfl) hF i)
  rw[hO];rcases adG (l:=Ag r vs) (m:=[]) (k:=Jz r.now) (fun p hp=>by simp only[Jz,List.mem_cons,List.not_mem_nil,or_false]at hp;rcases hp with rfl|rfl|rfl<;>rfl) i with q|q
  ·exact .inl q
  by_cases hi:i<1000000
  ·exact .inr (by rw[q];unfold tl;rw[show Nat.blt i 1000000=true from Nat.ble_eq_true_of_le hi];rfl)
  exact .inl (by have:=hK (i-1000000);rw[show 1000000+(i-1000000)=i by omega]at this;exact this)
theorem ae5(x:aw)(es:List aV)(hw:di x)(we:∀e∈es,l7 e)(hm:es.length<=1048576):GC Tryz.prog 35 [cj x,.p (.ab 81 7 (ah fR es))] [] (acI (sB x es)) (Jz (sB x es).now):=ae4 (Tm x es hw we hm)
abbrev ae6(es:List aV):AV:=.au [.agg [int (de es).now.tick,int (de es).now.next,int (de es).now.aA,.own 1,.own 2,.own 3],.agg [int (d5 es).1.last,.own 61],aD (eL es)]
abbrev ae7(es:List aV):List (Nat×AO):=[(1,.ai 159 7 (ah aX (de es).now.ag)),(2,df (de es).now.an),(3,d7 (de es).now.aq),(61,dc (d5 es).1.lines)]
theorem ae8(es:List aV)(we:∀e∈es,l7 e)(hm:es.length<=1000000):GC Tryz.prog 86 [.p (.ab 81 7 (ah fR es))] [] (ae6 es) (ae7 es):=by
 refine GC.intro (rs:=[.cell 2 50 (some 6),.cell 3 53 (some 2),.tmp 4]) Tryz.func86 rfl Tryz.ntmps86 (Nat.le_of_ble_eq_true rfl) ⟨rfl,rfl,cu,rfl,rfl,eZ,rfl,trivial⟩ ?_;intro L O w0;refine sL<|ab (zA 2002 mD Z) Z<|ab (zA 2003 ld Z) Z<|ar Z<|nA ?_;have hB:=Dr we;refine ab (zC [] [] [] Tryz.func36 (QH) (trivial) rfl rfl) Z<|bm Z<|ab (zC [(1,1),(2,2),(3,3)] [1,2,3] [] Tryz.func35 (ae5 pm es FT we (by omega)) (trivial) rfl rfl) Z<|cT (.au [.agg [U _ _,U _ _,U _ _,.own _,.own _,.own _],vL _ _ _,vL _ _ _]) Z<|iB (.agg [U _ _,U _ _,U _ _,.own _,.own _,.own _]) Z<|rF Z<|rF Z<|ab (zA 2005 mD rfl) Z<|ab (zB 2005 eu ew rfl) Z<|nv Z<|nv Z<|nA<|lq (rd (x:=.agg [U _ _,vV _]) (cP rfl lP rfl rfl rfl) rfl)<|bm Z<|ab (zC [(61,61)] [61] [] Tryz.func175 (ad1 (de es).ps hB.pl (by have:=hB.lp;omega)) (trivial) rfl rfl) Z<|lT [2,3,4,5,6,7,20] [1,2,3,61,2002,2003,2005] ?_;refine cT (.au [.agg [U _ _,.own _],U _ _]) Z<|iB (.agg [U _ _,.own _]) Z<|dE Z<|ab (zA 2008 ld Z) Z<|ab (zB 2008 cA cB Z) Z<|ao Z<|Y<|aS<|aF [10,11]<|sq 0 (dw (.agg [U _ _,U _ _,U _ _,.own _,.own _,.own _]) cu Z)<|pq 2 (iz Z) ?_;refine AF.two (i:=1) (j:=3) (by kernel_rfl) ?_ ?_
 ·refine d9.rd (i:=1) (x:=.agg [U _ _,.own _]) rfl (sC rfl eZ rfl rfl rfl rfl) rfl rfl (by decide) ?_;refine bn 3 rfl (zL Tryz.func176 (JV (de es).jD (by have:=hB.lk;omega)) rfl) (.inr rfl)<|vq 4 (dx rfl) ?_;refine AF.bool (t:=27) rfl ?_ ?_
  ·intro V;refine pq 5 (gL (U _ _) Z)<|pq 6 (iz Z)<|pq 7 (qd (x:=U _ _) (ada Z pX Z) Z)<|pq 8 (qd (x:=vB _) (ac' Z Z Z) Z)<|pq 9 (qd (x:=vB _) (acy Z Z) Z)<|bn 10 Z (zB 2002 eu ew Z) (.inl Z)<|fT [2,3,4,24,32] [1,2,3,61,2002,2003,2005,2008] ?_;refine bn 11 Z (zB 2003 cA cB Z) (.inl Z)<|vq 12 (fk Z)<|fD<|gT<|aR ?_;refine ax ?_ ⟨rfl,rfl,rfl,rfl,trivial⟩;refine congrArg (fun b=>some (AV.au [.agg [int (de es).now.tick,int (de es).now.next,int (de es).now.aA,.own 1,.own 2,.own 3],.agg [int (d5 es).1.last,.own 61],aD b])) ?_;unfold eL;rw[show eK _=true by simpa using V];simp[fw]
  intro V;refine bi 5 Z<|bi 6 Z<|bi 7 Z<|bi 8 Z<|pq 9 (qd (x:=vB false) (acy Z Z) Z)<|bn 10 Z (zB 2002 eu ew Z) (.inl Z)<|bn 11 Z (zB 2003 cA cB Z) (.inl Z)<|vq 12 (oA Z)<|fD<|gT<|aR ?_;refine ax ?_ ⟨rfl,rfl,rfl,rfl,trivial⟩;refine congrArg (fun b=>some (AV.au [.agg [int (de es).now.tick,int (de es).now.next,int (de es).now.aA,.own 1,.own 2,.own 3],.agg [int (d5 es).1.last,.own 61],aD b])) ?_;unfold eL;rw[show eK _=false by simpa using V];rfl
 refine v1 3 rfl (zL Tryz.func176 (JV (de es).jD (by have:=hB.lk;omega)) rfl) (.inr rfl)<|pq 4 (gL (vB _) rfl) ?_;refine AF.bool (t:=27) rfl ?_ ?_
 ·intro h2;refine pq 5 (gL (U _ _) Z)<|pq 6 (iz Z)<|pq 7 (qd (x:=U _ _) (ada Z pX Z) Z)<|pq 8 (qd (x:=vB _) (ac' Z Z Z) Z)<|pq 9 (qd (x:=vB _) (acy Z Z) Z) ?_;refine AF.two (i:=1) (j:=10) (by kernel_rfl) ?_ ?_
  ·refine d9.rd (i:=1) (x:=.agg [U _ _,.own _]) rfl (sC rfl eZ rfl rfl rfl rfl) rfl rfl (by decide) ?_;refine bn 10 Z (zB 2002 eu ew Z) (.inl Z)<|fT [2,3,4,24,32] [1,2,3,61,2002,2003,2005,2008] ?_;refine bn 11 Z (zB 2003 cA cB Z) (.inl Z)<|vq 12 (fk Z)<|fD<|gT<|aR ?_;refine ax ?_ ⟨rfl,rfl,rfl,rfl,trivial⟩;refine congrArg (fun b=>some (AV.au [.agg [int (de es).now.tick,int (de es).now.next,int (de es).now.aA,.own 1,.own 2,.own 3],.agg [int (d5 es).1.last,.own 61],aD b])) ?_;unfold eL;rw[show eK _=true by simpa using h2];simp[fw]
  refine v1 10 Z (zB 2002 eu ew Z) (.inl Z)<|vq 1 (dw (.agg [U _ _,.own _]) eZ Z)<|bn 11 Z (zB 2003 cA cB Z) (.inl Z)<|vq 12 (fk Z)<|fD<|gT<|aR ?_;refine ax ?_ ⟨rfl,rfl,rfl,rfl,trivial⟩;refine congrArg (fun b=>some (AV.au [.agg [int (de es).now.tick,int (de es).now.next,int (de es).now.aA,.own 1,.own 2,.own 3],.agg [int (d5 es).1.last,.own 61],aD b])) ?_;unfold eL;rw[show eK _=true by simpa using h2];simp[fw]
 intro h2;refine bi 5 Z<|bi 6 Z<|bi 7 Z<|bi 8 Z<|pq 9 (qd (x:=vB false) (acy Z Z) Z) ?_;refine AF.two (i:=1) (j:=10) (by kernel_rfl) ?_ ?_
 ·refine d9.rd (i:=1) (x:=.agg [U _ _,.own _]) rfl (sC rfl eZ rfl rfl rfl rfl) rfl rfl (by decide) ?_;refine bn 10 Z (zB 2002 eu ew Z) (.inl Z)<|bn 11 Z (zB 2003 cA cB Z) (.inl Z)<|vq 12 (oA Z)<|fD<|gT<|aR ?_;refine ax ?_ ⟨rfl,rfl,rfl,rfl,trivial⟩;refine congrArg (fun b=>some (AV.au [.agg [int (de es).now.tick,int (de es).now.next,int (de es).now.aA,.own 1,.own 2,.own 3],.agg [int (d5 es).1.last,.own 61],aD b])) ?_;unfold eL;rw[show eK _=false by simpa using h2];rfl
 refine v1 10 Z (zB 2002 eu ew Z) (.inl Z)<|vq 1 (dw (.agg [U _ _,.own _]) eZ Z)<|bn 11 Z (zB 2003 cA cB Z) (.inl Z)<|fT [2,3,4,32] [1,2,3,61,2002,2003,2005,2008] ?_;refine vq 12 (oA Z)<|fD<|gT<|aR ?_;refine ax ?_ ⟨rfl,rfl,rfl,rfl,trivial⟩;refine congrArg (fun b=>some (AV.au [.agg [int (de es).now.tick,int (de es).now.next,int (de es).now.aA,.own 1,.own 2,.own 3],.agg [int (d5 es).1.last,.own 61],aD b])) ?_;unfold eL;rw[show eK _=false by simpa using h2];rfl
theorem Tl.eh:∀ {k:List Nat} {b:List AO},(k.all fun i=>Nat.blt i 1000000)=true->Tl (eh .gone k b) []:=fun{k b} h=>⟨fun i=>by
 induction k generalizing b with
 |nil=>rfl
 |cons a k ih=>
  rw[List.all_cons,Bool.and_eq_true]at h;have ha:a<1000000:=Nat.le_of_ble_eq_true h.1;cases b with
  |nil=>rfl
  |cons o b=>
   show (if 1000000+i=a then o else Go.Proofs.YtflhgkmhmcfimaaGreat.eh .gone k b (1000000+i))=.gone;rw[if_neg (by omega)];exact ih h.2,dS.nil⟩
def y3(d:du):Int:=if m1 d≠0 then m1 d else if eL (f8 d)=true then 0 else 3
abbrev acj:mm:=⟨⟨⟨[],[]⟩,0,0⟩,⟨0,0,0,[],[],[]⟩,⟨0,[]⟩,[],[]⟩
def e6(d:du):mm:=if y3 d=0 then ⟨m4 d,(de (f8 d)).now,(d5 (f8 d)).1,[],[]⟩else acj
theorem adH{d:du}(h:m1 d≠0):y3 d=m1 d:=if_pos h
theorem adI{d:du}(h:m1 d=0)(h2:eL (f8 d)=false):y3 d=3:=by unfold y3;rw[if_neg (by simp[h]),if_neg (by simp[h2])]
theorem adJ{d:du}(h:m1 d=0)(h2:eL (f8 d)=true):y3 d=0:=by unfold y3;rw[if_neg (by simp[h]),if_pos h2]
theorem acJ{d:du}(h:y3 d≠0):e6 d=acj:=if_neg h
theorem ac5{d:du}(h:y3 d=0):e6 d=⟨m4 d,(de (f8 d)).now,(d5 (f8 d)).1,[],[]⟩:=if_pos h
abbrev ack(h:mm):AV:=.agg [.own 1,.own 2,int h.log.next,int h.log.dP,int h.book.tick,int h.book.next,int h.book.aA,.own 3,.own 4,.own 5,int h.ia.last,.own 6,.own 7,.own 8]
abbrev obH(vs us:List Value)(h:mm):List (Nat×AO):=[(1,.ai 195 1 (oR vs)),(2,.ai 192 2 (lW us h.log.bT.bu)),(3,.ai 159 7 (ah aX h.book.ag)),(4,.ai 218 7 (ah go h.book.an)),(5,.ai 220 5 (ah iX h.book.aq)),(6,.ai 167 3 (ah ct h.ia.lines)),(7,.ai 81 7 (ah fR h.wait)),(8,.ai 81 7 (ah fR h.f9))]
def acK(d:du):AV->List (Nat×AO)->List AO->Prop:=fun y l1 F1=>∃vs us:List Value,vs.length=(e6 d).log.bT.cells.length/\us.length=(e6 d).log.bT.bu.length/\y=.au [ack (e6 d),int (y3 d)]/\l1=obH vs us (e6 d)/\F1=sY vs us (e6 d).log.bT
theorem ae9(d:du):(m4 d).bT.cells.length+(m4 d).bT.bu.length<=10000000:=by
 by_cases h:m1 d=0
 ·have hd:ik d=true:=by
   cases hh:ik d
   ·exact absurd h (by rw[lg1 (.inl hh)];decide)
   rfl
  have yz:d.bu.length=0:=Decidable.byContradiction fun q=>absurd h (by rw[lg1 (.inr q)];decide);have hn:¬((dH d).length=d.cells.length\/16000000<=m2 d):=fun q=>absurd h (by rw[lg2 hd yz q];decide);have hle:=acD hd;have gR:=(wL hd).1;have eI:(dH d).length<d.cells.length:=by omega
  have hBl:(oq ⟨(dH d).length,m2 d+1,[66]⟩).length=128:=TB (Nat.le_of_ble_eq_true rfl);rw[acE h];show (abM _).cells.length+(abM _).bu.length<=_;rw[acu (ab7 hd eI (by omega) hBl),abW];show d.cells.length+0<=_;omega
 rw[abU h];decide
theorem adK(d:du)(hb:qK d):GN Tryz.prog 29 [mt d] [] ([]) (acK d):=by
 refine GN.intro (rs:=[.cell 2 56 (some 14),.tmp 3]) Tryz.func29 rfl Tryz.ntmps29 (Nat.le_of_ble_eq_true rfl) ⟨rfl,rfl,EZ,rfl,trivial⟩ rfl ?_;intro L O w0;refine sL<|ab (zX 2001 Z) Z<|ab (zA 2002 Ig Z) Z<|ao Z<|nA<|aP (.agg [vL _ _ _,vL _ _ _]) mE Z ?_;refine A1 (A2 (F:=[]) [(1,1),(2,2),(3,33)] [1,2,33] [] ([]).length Tryz.func85 (aeH d hb) ki List.drop_length List.take_length (Nat.le_refl _) ((by simp)) (fun _ _ _ _=>trivial) rfl rfl) rfl ?_;rintro _ _ ⟨xz1,oz1,Fz1,fa,hF1,hM1,rfl,rfl⟩;obtain⟨vs,us,gl,NS,rfl,rfl,rfl⟩:=fa;have E7:dS ([]++sY vs us (m4 d).bT):=dS.gJ (by first|assumption|exact dS.nil) hF1;refine cT (.au [.agg [.own _,.own _,U _ _,U _ _],.own _,U _ _]) Z<|iB (.agg [.own _,.own _,U _ _,U _ _]) Z<|qT Z<|dE Z<|ab (zA 2004 Nx Z) Z<|ab (zB 2004 Nv Nw Z) Z<|bD Z<|ao Z<|Y<|aS<|sL<|ae Z<|ak Z<|Y ?_;refine AW.cond rfl ?_ ?_
 ·intro V;refine sL<|lq (rd (x:=.agg [vV _,vV _,U _ _,U _ _,U _ _,U _ _,U _ _,vV _,vV _,vV _,U _ _,vV _,vV _,vV _]) (cP Z acf Z Z Z) Z)<|ae Z<|ab (zB 2002 NA NB Z) Z ?_;refine xH (([]++sY vs us (m4 d).bT)) [2,3,4,5,19] [1,2,33,2001,2002,2004] ?_;refine ao Z<|Y<|aT [2,3] [2002] ?_;refine mi [] [2,3] [2002] (hT:=Tl.eh rfl) ?_;refine AW.pi 1 2002 0 195 1 rfl (by decide) rfl ?_;refine AW.pi 2 2002 1 192 2 rfl (by decide) rfl ?_;refine AW.pi 3 2002 7 159 7 rfl (by decide) rfl ?_;refine AW.pi 4 2002 8 218 7 rfl (by decide) rfl ?_;refine AW.pi 5 2002 9 220 5 rfl (by decide) rfl ?_;refine AW.pi 6 2002 11 167 3 rfl (by decide) rfl ?_;refine AW.pi 7 2002 12 81 7 rfl (by decide) rfl ?_;refine AW.pi 8 2002 13 81 7 rfl (by decide) rfl ?_;refine aR<|rT ?_;have hc:y3 d=m1 d:=adH (by have h:=V;simpa using h);have bO:y3 d≠0:=by rw[hc];have h:=V;simpa using h
  unfold acK;rw[hc,acJ bO];refine vW (F1:=[]) (.au [ack acj,int (m1 d)]) (obH [] [] acj) ?_ (by decide) rfl rfl ⟨rfl,rfl,rfl,rfl,rfl,rfl,rfl,rfl,trivial⟩ ki;exact⟨[],[],rfl,rfl,rfl,rfl,rfl⟩
 intro V;refine aK<|gT<|aS ?_;have cQ:m1 d=0:=by have h:=V;simpa using h
 have hle:=Ka d;refine AW.obj 33 (uT (f8 d)) (congrArg uT (acG cQ)) ?_;refine aL<|bW Z ?_;refine AL.freeze 33 rfl ?_;refine ab (zC [(1,3),(2,4),(3,5),(61,6)] [3,4,5,6] [] Tryz.func86 (ae8 (f8 d) (Dp d) (by omega)) (trivial) rfl rfl) Z<|cT (.au [.agg [U _ _,U _ _,U _ _,.own _,.own _,.own _],.agg [U _ _,.own _],vB _]) Z<|iB (.agg [U _ _,U _ _,U _ _,.own _,.own _,.own _]) Z<|iB (.agg [U _ _,.own _]) Z<|eU Z<|ab (zA 2007 mD rfl) Z<|ab (zA 2008 ld rfl) Z<|ab (zB 2007 eu ew rfl) Z<|ab (zB 2008 cA cB rfl) Z<|bv Z<|Y<|aS<|sL<|aQ Z<|bX Z<|Y ?_;refine AW.cond rfl ?_ ?_
 ·intro h2;refine sL<|lq (rd (x:=.agg [vV _,vV _,U _ _,U _ _,U _ _,U _ _,U _ _,vV _,vV _,vV _,U _ _,vV _,vV _,vV _]) (cP Z acf Z Z Z) Z)<|ab (zB 2002 NA NB Z) Z ?_;refine xH (([]++sY vs us (m4 d).bT)) [2,3,4,7,8] [1,2,3,4,5,6,2001,2002,2004,2007,2008] ?_;refine ao Z<|Y<|aT [2,3] [2002] ?_;refine mi [] [2,3] [2002] (hT:=Tl.eh rfl) ?_;refine AW.pi 1 2002 0 195 1 rfl (by decide) rfl ?_;refine AW.pi 2 2002 1 192 2 rfl (by decide) rfl ?_;refine AW.pi 3 2002 7 159 7 rfl (by decide) rfl ?_;refine AW.pi 4 2002 8 218 7 rfl (by decide) rfl ?_;refine AW.pi 5 2002 9 220 5 rfl (by decide) rfl ?_;refine AW.pi 6 2002 11 167 3 rfl (by decide) rfl ?_;refine AW.pi 7 2002 12 81 7 rfl (by decide) rfl ?_;refine AW.pi 8 2002 13 81 7 rfl (by decide) rfl ?_;refine aR<|rT ?_;have hc:y3 d=3:=adI cQ (by have h:=h2;simpa using h);have bO:y3 d≠0:=by omega
  unfold acK;rw[hc,acJ bO];refine vW (F1:=[]) (.au [ack acj,int (3)]) (obH [] [] acj) ?_ (by decide) rfl rfl ⟨rfl,rfl,rfl,rfl,rfl,rfl,rfl,rfl,trivial⟩ ki;exact⟨[],[],rfl,rfl,rfl,rfl,rfl⟩
 intro h2;refine aK<|gA<|aP (.agg [.own _,.own _,U _ _,U _ _]) EY Z<|aP (.agg [U _ _,U _ _,U _ _,.own _,.own _,.own _]) cu Z<|aP (.agg [U _ _,.own _]) eZ Z<|lq (rd (x:=.agg [.own _,.own _,U _ _,U _ _,U _ _,U _ _,U _ _,.own _,.own _,.own _,U _ _,.own _,vV _,vV _]) (cP Z acf Z Z Z) Z)<|ab (zB 2002 NA NB Z) Z<|ao Z<|Y ?_;refine AW.pi 7 2002 12 81 7 rfl (by decide) rfl ?_;refine AW.pi 8 2002 13 81 7 rfl (by decide) rfl ?_;refine aR ?_;have hc:y3 d=0:=adJ cQ (by have h:=h2;simpa using h);have abu:dS (sY vs us (m4 d).bT):=TJ;unfold acK;rw[hc,ac5 hc];refine vW (F1:=(sY vs us (m4 d).bT)) (.au [ack ⟨m4 d,(de (f8 d)).now,(d5 (f8 d)).1,[],[]⟩,int 0]) (obH vs us ⟨m4 d,(de (f8 d)).now,(d5 (f8 d)).1,[],[]⟩) ?_ (by rw[SD gl NS];exact ae9 d) rfl rfl ⟨rfl,rfl,rfl,rfl,rfl,rfl,rfl,rfl,trivial⟩ ki;exact⟨vs,us,gl,NS,rfl,rfl,rfl⟩

theorem ae'(d:du)(hb:qK d):GC Tryz.prog 81 [mt d] [] (.au [G9 (m4 d),.p (.ab 81 7 (ah fR (ab9 d))),int (m1 d)]) []:=
 (GX.frozen (Z:=fun y=>y=.au [G9 (m4 d),.p (.ab 81 7 (ah fR (ab9 d))),int (m1 d)]) (ae0 d hb) fun x ob ⟨e1,e2⟩=>by
   subst e1 e2;exact⟨_,Still.au (.cons (Still.agg (.cons (Still.row (id:=1) (e:=⟨195,none⟩) (sz:=1) (rows:=oS (m4 d).bT.cells) rfl) (.cons (Still.row (id:=2) (e:=⟨192,none⟩) (sz:=2) (rows:=oT (m4 d).bT.bu) rfl) (.cons (Still.p _) (.cons (Still.p _) .nil))))) (.cons (Still.row (id:=3) (e:=⟨81,none⟩) (sz:=7) (rows:=ah fR (ab9 d)) rfl) (.cons (Still.p _) .nil))),rfl⟩).mono fun y o ⟨e1,e2⟩=>⟨e2,e1⟩
abbrev y5:AV:=.p (.v (.slice none 0 0))
def afa(d:du):AV->List (Nat×AO)->Prop:=fun y ob=>ob=[]/\((y3 d≠0/\y=.au [.agg [y5,y5,int 0,int 0,int 0,int 0,int 0,y5,y5,y5,int 0,y5,y5,y5],int (y3 d)])\/(y3 d=0/\y=.au [.agg [.p (.ab 195 1 (oS (m4 d).bT.cells)),.p (.ab 192 2 (oT (m4 d).bT.bu)),int (m4 d).next,int (m4 d).dP,int (de (f8 d)).now.tick,int (de (f8 d)).now.next,int (de (f8 d)).now.aA,.p (.ab 159 7 (ah aX (de (f8 d)).now.ag)),.p (.ab 218 7 (ah go (de (f8 d)).now.an)),.p (.ab 220 5 (ah iX (de (f8 d)).now.aq)),int (d5 (f8 d)).1.last,.p (.ab 167 3 (ah ct (d5 (f8 d)).1.lines)),y5,y5],int 0]))
theorem afb(d:du)(hb:qK d):GX Tryz.prog 27 [mt d] [] (afa d):=by
 refine GX.intro (rs:=[.cell 2 56 (some 14),.tmp 3]) Tryz.func27 rfl Tryz.ntmps27 (Nat.le_of_ble_eq_true rfl) ⟨rfl,rfl,EZ,rfl,trivial⟩ ?_;intro L O w0;refine sL<|ab (zX 2001 Z) Z<|ab (zA 2002 Ig Z) Z<|ao Z<|nA<|aP (.agg [vL _ _ _,vL _ _ _]) mE Z<|ab (zC [] [] [] Tryz.func81 (ae' d hb) (trivial) Z Z) Z<|cT (.au [.agg [vL _ _ _,vL _ _ _,U _ _,U _ _],vL _ _ _,U _ _]) Z<|iB (.agg [vL _ _ _,vL _ _ _,U _ _,U _ _]) Z<|rF Z<|dE Z<|ab (zA 2004 Nx Z) Z<|ab (zB 2004 Nv Nw Z) Z<|nv Z<|ao Z<|Y<|aS<|sL<|ae Z<|ak Z<|Y ?_;refine AW.cond rfl ?_ ?_
 ·intro V;refine sL<|lq (rd (x:=.agg [vV _,vV _,U _ _,U _ _,U _ _,U _ _,U _ _,vV _,vV _,vV _,U _ _,vV _,vV _,vV _]) (cP Z acf Z Z Z) Z)<|ae Z<|ab (zB 2002 NA NB Z) Z<|lT [2,3,4,5,19] [2001,2002,2004] ?_;refine ao Z<|Y<|aR<|rT ?_;have hc:y3 d=m1 d:=adH (by have h:=V;simpa using h);have bO:y3 d≠0:=by rw[hc];have h:=V;simpa using h
  refine fN ((.au [.agg [y5,y5,int 0,int 0,int 0,int 0,int 0,y5,y5,y5,int 0,y5,y5,y5],int (m1 d)])) [] ?_ rfl trivial;exact⟨rfl,.inl ⟨bO,by rw[hc]⟩⟩
 intro V;refine aK<|gT<|aS ?_;have cQ:m1 d=0:=by have h:=V;simpa using h
 have hle:=Ka d;refine aL<|bm Z ?_;refine dC 21 (.p (.ab 81 7 (ah fR (f8 d)))) (congrArg (fun l=>AV.p (.ab 81 7 (ah fR l))) (acG cQ)) ?_;refine ab (zC [] [] [] Tryz.func82 (QK (f8 d) (Dp d) (by omega)) (trivial) rfl rfl) Z<|cT (.au [.agg [U _ _,U _ _,U _ _,vL _ _ _,vL _ _ _,vL _ _ _],.agg [U _ _,vL _ _ _],vB _]) Z<|iB (.agg [U _ _,U _ _,U _ _,vL _ _ _,vL _ _ _,vL _ _ _]) Z<|iB (.agg [U _ _,vL _ _ _]) Z<|eU Z<|ab (zA 2007 mD rfl) Z<|ab (zA 2008 ld rfl) Z<|ab (zB 2007 eu ew rfl) Z<|ab (zB 2008 cA cB rfl) Z<|bv Z<|Y<|aS<|sL<|aQ Z<|bX Z<|Y ?_;refine AW.cond rfl ?_ ?_
 ·intro h2;refine sL<|lq (rd (x:=.agg [vV _,vV _,U _ _,U _ _,U _ _,U _ _,U _ _,vV _,vV _,vV _,U _ _,vV _,vV _,vV _]) (cP Z acf Z Z Z) Z)<|ab (zB 2002 NA NB Z) Z<|lT [2,3,4,7,8] [2001,2002,2004,2007,2008] ?_;refine ao Z<|Y<|aR<|rT ?_;have hc:y3 d=3:=adI cQ (by have h:=h2;simpa using h);have bO:y3 d≠0:=by omega
  refine fN ((.au [.agg [y5,y5,int 0,int 0,int 0,int 0,int 0,y5,y5,y5,int 0,y5,y5,y5],int 3])) [] ?_ rfl trivial;exact⟨rfl,.inl ⟨bO,by rw[hc]⟩⟩
 intro h2;refine aK<|gA<|aP (.agg [vL _ _ _,vL _ _ _,U _ _,U _ _]) EY Z<|aP (.agg [U _ _,U _ _,U _ _,vL _ _ _,vL _ _ _,vL _ _ _]) cu Z<|aP (.agg [U _ _,vL _ _ _]) eZ Z<|lq (rd (x:=.agg [vL _ _ _,vL _ _ _,U _ _,U _ _,U _ _,U _ _,U _ _,vL _ _ _,vL _ _ _,vL _ _ _,U _ _,vL _ _ _,vV _,vV _]) (cP Z acf Z Z Z) Z)<|ab (zB 2002 NA NB Z) Z<|ao Z<|Y<|aR ?_;have hc:y3 d=0:=adJ cQ (by have h:=h2;simpa using h);refine fN (_) [] ?_ rfl trivial;exact⟨rfl,.inr ⟨hc,rfl⟩⟩
theorem afc(d:du)(hb:qK d):GC Tryz.prog 27 [mt d] [] (.au [Bu (e6 d),int (y3 d)]) []:=GX.imp (afb d hb) (fun x bd ⟨e1,e2⟩=>by
 subst e1;have n:∀ {e:TypeId} {sz:Nat},fe y5 (.p (.ab e sz [])):=fun{e sz}=>fe.nil _ _;rcases e2 with⟨h,rfl⟩|⟨h,rfl⟩
 ·rw[acJ h];exact⟨_,fe.au (ff.cons (fe.agg (ff.cons n (ff.cons n (ff.cons (fe.refl _) (ff.cons (fe.refl _) (ff.cons (fe.refl _) (ff.cons (fe.refl _) (ff.cons (fe.refl _) (ff.cons n (ff.cons n (ff.cons n (ff.cons (fe.refl _) (ff.cons n (ff.cons n (ff.cons n ff.nil))))))))))))))) (ff.cons (fe.refl _) ff.nil)),rfl,rfl⟩
 rw[ac5 h,h];exact⟨_,fe.au (ff.cons (fe.agg (ff.cons (fe.refl _) (ff.cons (fe.refl _) (ff.cons (fe.refl _) (ff.cons (fe.refl _) (ff.cons (fe.refl _) (ff.cons (fe.refl _) (ff.cons (fe.refl _) (ff.cons (fe.refl _) (ff.cons (fe.refl _) (ff.cons (fe.refl _) (ff.cons (fe.refl _) (ff.cons (fe.refl _) (ff.cons n (ff.cons n ff.nil))))))))))))))) (ff.cons (fe.refl _) ff.nil)),rfl,rfl⟩)

def mkB(x:aw)(k:Int):aw:={ x with ag:=acl k x.ag.length,an:=acm (k+7*(x.ag.length:Int)) x.an.length,aq:=acn (k+7*(x.ag.length:Int)+7*(x.an.length:Int)) x.aq.length }
def mkL(x:cH)(k:Int):cH:={ x with lines:=aco k x.lines.length }
def abH(x:aw):Int:=7*(x.ag.length:Int)+7*(x.an.length:Int)+5*(x.aq.length:Int)
def abK(x:cH):Int:=3*(x.lines.length:Int)
def abI(l:List aV):Int:=7*(l.length:Int)
def mkH(h:mm)(k:Int):mm:=⟨⟨f6 h.log.bT k,h.log.next,h.log.dP⟩,mkB h.book (k+abD h.log.bT),mkL h.ia (k+abD h.log.bT+abH h.book),ab' (k+abD h.log.bT+abH h.book+abK h.ia) h.wait.length,ab' (k+abD h.log.bT+abH h.book+abK h.ia+abI h.wait) h.f9.length⟩
def abX(h:mm):Int:=abD h.log.bT+abH h.book+abK h.ia+abI h.wait+abI h.f9
abbrev adL(u3 u4 u5:Value)(x:aw):List (Nat×AO):=[(3,.ai ⟨159,some u3⟩ 7 (ah aX x.ag)),(4,.ai ⟨218,some u4⟩ 7 (ah go x.an)),(5,.ai ⟨220,some u5⟩ 5 (ah iX x.aq))]
abbrev adM(u:Value)(x:cH):List (Nat×AO):=[(6,.ai ⟨167,some u⟩ 3 (ah ct x.lines))]
abbrev ac6(u:List Value)(vs us:List Value)(h:mm):List (Nat×AO):=[(1,.ai ⟨195,some (u.getD 0 undef)⟩ 1 (oR vs)),(2,.ai ⟨192,some (u.getD 1 undef)⟩ 2 (lW us h.log.bT.bu)),(3,.ai ⟨159,some (u.getD 2 undef)⟩ 7 (ah aX h.book.ag)),(4,.ai ⟨218,some (u.getD 3 undef)⟩ 7 (ah go h.book.an)),(5,.ai ⟨220,some (u.getD 4 undef)⟩ 5 (ah iX h.book.aq)),(6,.ai ⟨167,some (u.getD 5 undef)⟩ 3 (ah ct h.ia.lines)),(7,.ai ⟨81,some (u.getD 6 undef)⟩ 7 (ah fR h.wait)),(8,.ai ⟨81,some (u.getD 7 undef)⟩ 7 (ah fR h.f9))]
theorem afd(u3 u4 u5:Value)(x:aw)(k:Int)(hc:x.ag.length<=1048576)(hh:x.an.length<=1048576)(hi:x.aq.length<=1048576)(hk:0<=k/\k<=100000000000):GC Tryz.prog 64 [.agg [int x.tick,int x.next,int x.aA,.own 3,.own 4,.own 5],int k] (adL u3 u4 u5 x) (int (k+abH x)) (adL u3 u4 u5 (mkB x k)):=by
 refine gi 4 Tryz.func64 rfl Tryz.ntmps64 rfl ?_;intro L O w0;refine sL<|ab (zX 2002 Z) Z<|ao Z<|nA<|lf 3 dr Z<|iO eg Z<|ae Z ?_;refine ab (zC [(0,3)] [] [0] Tryz.func146 (afe _ _ _ (by omega) (by omega)) (⟨stays.ai (by simp[ah,c6]),trivial⟩) rfl rfl) Z<|ao Z<|nA<|lf 4 eF Z<|iO fS Z<|ae rfl ?_;refine ab (zC [(0,4)] [] [0] Tryz.func147 (aff _ _ _ (by omega) (by omega)) (⟨stays.ai (by simp[ah,c6]),trivial⟩) rfl rfl) Z<|ao Z<|nA<|lf 5 gn Z<|iO ii Z<|ae rfl ?_;refine ab (zC [(0,5)] [] [0] Tryz.func148 (afg _ _ _ (by omega) (by omega)) (⟨stays.ai (by simp[ah,c6]),trivial⟩) rfl rfl) Z<|lT [1,4,16] [3,4,5,2002] ?_;refine ao Z<|nA<|ae Z<|ao Z<|Y<|aR ?_;skip;refine ax ?_ ⟨rfl,rfl,rfl,trivial⟩;exact congrArg (fun n=>some (int n)) (by unfold abH;omega)
theorem afh(x:aw)(k:Int)(hc:x.ag.length<=1048576)(hh:x.an.length<=1048576)(hi:x.aq.length<=1048576)(hk:0<=k/\k<=100000000000):GC Tryz.prog 68 [cj (mkB x k),int k] [] (int (k+abH x)) []:=by
 refine gi 4 Tryz.func68 rfl Tryz.ntmps68 rfl ?_;intro L O w0;refine sL<|ab (zX 2002 rfl) Z<|ao Z<|nA<|lf 3 dr Z<|bo eg Z<|ae Z<|ab (zL Tryz.func150 (afi _ _ (by omega) (by omega)) rfl) Z<|ao Z<|Y<|aS<|sL<|ae Z<|ak Z<|bJ 10 false rfl (by simp;omega)<|Y<|aN Z<|aK<|gA<|lf 4 eF Z<|bo fS rfl ?_;refine ae Z<|ab (zL Tryz.func151 (afj _ _ (by omega) (by omega)) rfl) Z<|ao Z<|Y<|aS<|sL<|ae Z<|ak Z<|bJ 16 false rfl (by simp;omega)<|Y<|aN Z<|aK<|gA<|lf 5 gn Z<|bo ii Z<|ae Z<|ab (zL Tryz.func152 (afk _ _ (by omega) (by omega)) rfl) Z<|lT [1,4,20] [2002] ?_;refine ao Z<|Y<|aS<|sL<|ae Z<|ak Z<|bJ 22 false rfl (by simp;omega)<|Y<|aN Z<|aK<|gA<|ae Z<|ao Z<|Y<|aR ?_;skip;refine ax ?_ trivial;exact congrArg (fun n=>some (int n)) (by unfold abH;omega)
theorem afl(u:Value)(x:cH)(k:Int)(hl:x.lines.length<=1048576)(hk:0<=k/\k<=100000000000):GC Tryz.prog 65 [.agg [int x.last,.own 6],int k] (adM u x) (int (k+abK x)) (adM u (mkL x k)):=by
 refine gi 4 Tryz.func65 rfl Tryz.ntmps65 rfl ?_;intro L O w0;refine sL<|ab (zX 2002 Z) Z<|ao Z<|nA<|lf 1 jY Z<|iO gY Z<|ae Z ?_;refine ab (zC [(0,6)] [] [0] Tryz.func149 (afm _ _ _ (by omega) (by omega)) (⟨stays.ai (by simp[ah,c6]),trivial⟩) rfl rfl) Z<|ao Z<|nA<|ae Z<|ao Z<|Y<|aR ?_;skip;refine ax ?_ ⟨rfl,trivial⟩;exact congrArg (fun n=>some (int n)) (by unfold abK;omega)
theorem afn(x:cH)(k:Int)(hl:x.lines.length<=1048576)(hk:0<=k/\k<=100000000000):GC Tryz.prog 69 [cR (mkL x k),int k] [] (int (k+abK x)) []:=by
 refine gi 4 Tryz.func69 rfl Tryz.ntmps69 rfl ?_;intro L O w0;refine sL<|ab (zX 2002 rfl) Z<|ao Z<|nA<|lf 1 jY Z<|bo gY Z<|ae Z<|ab (zL Tryz.func153 (afo _ _ (by omega) (by omega)) rfl) Z<|ao Z<|Y<|aS<|sL<|ae Z<|ak Z<|bJ 10 false rfl (by simp;omega)<|Y<|aN Z<|aK<|gA<|ae Z<|ao rfl ?_;refine Y<|aR ?_;skip;refine ax ?_ trivial;exact congrArg (fun n=>some (int n)) (by unfold abK;omega)
theorem adN(h:mm)(k:Int)(hz:E9 h)(hk:0<=k/\k<=1000000000):GC Tryz.prog 17 [Bu (mkH h k),int k] [] (int (k+abX h)) []:=by
 refine gi 4 Tryz.func17 rfl Tryz.ntmps17 rfl ?_;intro L O w0;refine sL<|ab (zX 2002 Z) Z<|ao Z<|Y<|aS ?_;have hd0:=acs hz.d.m;obtain⟨hd1,hd2⟩:=hd0;have lG:0<=abH h.book/\abH h.book<=20000000:=by unfold abH;have:=hz.lc;have:=hz.lh;have:=hz.li;omega
 have kA:0<=abK h.ia/\abK h.ia<=20000000:=by unfold abK;have:=hz.ll;omega
 have hb3:0<=abI h.wait/\abI h.wait<=20000000:=by unfold abI;have:=hz.lw;omega
 have hb4:0<=abI h.f9/\abI h.f9<=20000000:=by unfold abI;have:=hz.ls;omega
 refine aL<|lf 0 qL Z<|aP (.agg [vL _ _ _,vL _ _ _,U _ _,U _ _]) EY Z<|ae Z<|ab (zL Tryz.func67 (ad9 h.log k hz.d.m (by omega)) rfl) Z<|ao Z<|Y<|aS<|sL<|ae Z<|ak Z<|bJ 10 false rfl (by simp;omega)<|Y<|aN Z<|aK<|gA<|lf 4 Bw Z<|aP (.agg [U _ _,U _ _,U _ _,vL _ _ _,vL _ _ _,vL _ _ _]) cu Z<|ae Z<|ab (zL Tryz.func68 (afh h.book (k+abD h.log.bT) hz.lc hz.lh hz.li (by omega)) rfl) Z<|ao Z<|Y<|aS<|aS ?_;refine aL<|ae Z<|ak Z<|bJ 16 false rfl (by simp;omega)<|Y<|aN Z<|aK<|gA<|lf 10 Bx Z<|aP (.agg [U _ _,vL _ _ _]) eZ Z<|ae Z<|ab (zL Tryz.func69 (afn h.ia (k+abD h.log.bT+abH h.book) hz.ll (by omega)) rfl) Z<|lT [1,2,4,20] [2002] ?_;refine ao Z<|Y<|aS<|sL<|ae Z<|ak Z<|bJ 22 false rfl (by simp;omega)<|Y<|aN Z<|aK<|gA<|lf 12 Bz Z<|bo tE Z<|ae Z<|ab (zL Tryz.func70 (adO h.wait.length (k+abD h.log.bT+abH h.book+abK h.ia) (by have:=hz.lw;omega) (by omega)) rfl) Z<|ao Z<|Y<|aS<|sL<|ae Z<|ak Z<|bJ 28 false rfl (by simp;omega)<|lN ?_;refine gT<|aN Z<|aK<|gA<|lf 13 By Z<|bo tE Z<|ae Z<|ab (zL Tryz.func70 (adO h.f9.length (k+abD h.log.bT+abH h.book+abK h.ia+abI h.wait) (by have:=hz.ls;omega) (by omega)) rfl) Z<|lT [1,4,32] [2002] ?_;refine ao Z<|Y<|aS<|sL<|ae Z<|ak Z<|bJ 34 false rfl (by simp;omega)<|Y<|aN Z<|aK<|gA<|ae Z<|ao Z<|Y<|aR ?_;skip;refine ax ?_ trivial;exact congrArg (fun n=>some (int n)) (by unfold abX abI;omega)
theorem afp(u:List Value)(vs us:List Value)(h:mm)(R:List AO)(k:Int)(hv:vs.length=h.log.bT.cells.length)(hu:us.length=h.log.bT.bu.length)(hR:dS R)(hRl:R.length<=3000000)(hz:E9 h)(hk:0<=k/\k<=1000000000):GN Tryz.prog 16 [ack h,int k] (ac6 u vs us h) (sY vs us h.log.bT++R) (fun y l1 F1=>y=int (k+abX h)/\l1=ac6 u vs us (mkH h k)/\F1=sY vs us (f6 h.log.bT k)++R):=by
 have acB:dS (sY vs us h.log.bT++R):=dS.gJ TJ hR;refine GN.intro (rs:=[.tmp 4]) Tryz.func16 rfl Tryz.ntmps16 (Nat.le_of_ble_eq_true rfl) ⟨rfl,trivial⟩ rfl ?_;intro L O w0;refine sL<|ab (zX 2002 Z) Z<|ao Z<|Y<|aS ?_;have hd0:=acs hz.d.m;obtain⟨hd1,hd2⟩:=hd0;have lG:0<=abH h.book/\abH h.book<=20000000:=by unfold abH;have:=hz.lc;have:=hz.lh;have:=hz.li;omega
 have kA:0<=abK h.ia/\abK h.ia<=20000000:=by unfold abK;have:=hz.ll;omega
 have hb3:0<=abI h.wait/\abI h.wait<=20000000:=by unfold abI;have:=hz.lw;omega
 have hb4:0<=abI h.f9/\abI h.f9<=20000000:=by unfold abI;have:=hz.ls;omega
 have hDl:=SD hv hu;have oF:=hz.d.lc;have hlw:=hz.d.lw;refine aL<|lf 0 qL Z<|aP (.agg [.own _,.own _,U _ _,U _ _]) EY Z<|ae Z ?_;refine A1 (A2 (F:=sY vs us h.log.bT++R) [(1,1),(2,2)] [] [1,2] 0 Tryz.func63 (aee (u.getD 0 undef) (u.getD 1 undef) vs us h.log.bT R k hv hu hR hRl hz.d (by omega) h.log.next h.log.dP) ki List.drop_zero List.take_zero (Nat.zero_le _) ((by rw[List.length_append,hDl];omega)) ((fun y l F ⟨_,e2,_⟩=>by subst e2;exact⟨stays.ai rfl,stays.ai (by show (lW us (c7 E6 m3 h.log.bT.bu _)).length=_;rw[K9 (by rw[k7];exact hu),k7,K9 hu]),trivial⟩)) rfl rfl) rfl ?_;rintro _ _ ⟨xz1,oz1,Fz1,fa,hF1,hM1,rfl,rfl⟩;obtain⟨rfl,rfl,rfl⟩:=fa;have E7:dS ([]++(sY vs us (f6 h.log.bT k)++R)):=dS.gJ (by first|assumption|exact dS.nil) hF1;refine ao Z<|Y<|aS ?_;rw[List.nil_append];have hrE:dS (sY vs us (f6 h.log.bT k)++R):=dS.gJ TJ hR;refine aL<|lf 4 Bw Z<|aP (.agg [U _ _,U _ _,U _ _,.own _,.own _,.own _]) cu Z<|ae Z ?_;refine ab (zC [(3,3),(4,4),(5,5)] [] [3,4,5] Tryz.func64 (afd (u.getD 2 undef) (u.getD 3 undef) (u.getD 4 undef) h.book (k+abD h.log.bT) hz.lc hz.lh hz.li (by omega)) (⟨stays.ai (by simp[ah,mkB,c6]),stays.ai (by simp[ah,mkB,c6]),stays.ai (by simp[ah,mkB,c6]),trivial⟩) rfl rfl) Z<|ao Z<|nA<|lf 10 Bx Z<|aP (.agg [U _ _,.own _]) eZ Z<|ae rfl ?_;refine ab (zC [(6,6)] [] [6] Tryz.func65 (afl (u.getD 5 undef) h.ia (k+abD h.log.bT+abH h.book) hz.ll (by omega)) (⟨stays.ai (by simp[ah,mkL,c6]),trivial⟩) rfl rfl) rfl ?_;refine xH ((sY vs us (f6 h.log.bT k)++R)) [1,2,4,16] [1,2,3,4,5,6,7,8,2002] ?_;refine ao Z<|nA<|lf 12 Bz Z<|iO tE Z<|ae Z ?_;refine ab (zC [(0,7)] [] [0] Tryz.func66 (adP (u.getD 6 undef) h.wait (k+abD h.log.bT+abH h.book+abK h.ia) (by have:=hz.lw;omega) (by omega)) (⟨stays.ai (by simp[ah,c6]),trivial⟩) rfl rfl) Z<|ao Z<|nA<|lf 13 By Z<|iO tE Z<|ae rfl ?_;refine ab (zC [(0,8)] [] [0] Tryz.func66 (adP (u.getD 7 undef) h.f9 (k+abD h.log.bT+abH h.book+abK h.ia+abI h.wait) (by have:=hz.ls;omega) (by omega)) (⟨stays.ai (by simp[ah,c6]),trivial⟩) rfl rfl) Z<|ao Z<|nA<|ae Z<|jK 25 (k+abX h) rfl (by unfold abX abI;omega)<|ao Z<|Y<|aR ?_;skip;refine vW (F1:=(sY vs us (f6 h.log.bT k)++R)) (int (k+abX h)) (ac6 u vs us (mkH h k)) ?_ (by rw[List.length_append,SD (d:=(f6 h.log.bT k)) (by show vs.length=(c7 uD s0 h.log.bT.cells k).length;rw[k7];exact hv) (by show us.length=(c7 E6 m3 h.log.bT.bu _).length;rw[k7];exact hu)];show (c7 uD s0 h.log.bT.cells k).length+(c7 E6 m3 h.log.bT.bu _).length+R.length<=_;rw[k7,k7];omega) rfl rfl ⟨rfl,rfl,rfl,rfl,rfl,rfl,rfl,rfl,trivial⟩ ki;exact⟨rfl,rfl,rfl⟩

def LnB(x:aw)(r:WR):Prop:=r.b.an.length<=x.an.length+1/\r.b.aq.length<=x.aq.length+1
theorem LnB.ite{x:aw}{p:Prop}[Decidable p]{a b:WR}(V:LnB x a)(h2:LnB x b):LnB x (if p then a else b):=by split<;>assumption
theorem afq(x:aw)(e:aV):LnB x (bz x e):=by
 have F1:∀k,(jS x.an k).length<=x.an.length+1:=fun k=>Nat.le_trans (List.length_filter_le _ _) (Nat.le_succ _);have ac7:∀k,(jA x.aq k).length<=x.aq.length+1:=fun k=>Nat.le_trans (List.length_filter_le _ _) (Nat.le_succ _);have hs:LnB x (mR x e):=by
  unfold mR;split
  ·exact LnB.ite ⟨F1 _,Nat.le_succ _⟩ ⟨F1 _,Nat.le_succ _⟩
  exact⟨Nat.le_succ _,Nat.le_succ _⟩
 have hl:LnB x (nm x e):=by
  unfold nm;split
  ·exact LnB.ite ⟨Nat.le_succ _,ac7 _⟩ ⟨Nat.le_succ _,ac7 _⟩
  exact⟨Nat.le_succ _,Nat.le_succ _⟩
 have h0:∀b l c,b.an=x.an->b.aq=x.aq->LnB x ⟨b,l,c⟩:=fun b l c e1 e2=>⟨by rw[e1];exact Nat.le_succ _,by rw[e2];exact Nat.le_succ _⟩;exact .ite (h0 _ _ _ rfl rfl) (.ite (.ite (h0 _ _ _ rfl rfl) (h0 _ _ _ rfl rfl)) (.ite (.ite (h0 _ _ _ rfl rfl) (h0 _ _ _ rfl rfl)) (.ite (.ite (h0 _ _ _ rfl rfl) (h0 _ _ _ rfl rfl)) (.ite (.ite ⟨by simp[mI],Nat.le_succ _⟩ (h0 _ _ _ rfl rfl)) (.ite hs (.ite ⟨by simp[p'],Nat.le_succ _⟩ (.ite (.ite ⟨Nat.le_succ _,by simp[oH]⟩ (h0 _ _ _ rfl rfl)) hl)))))))
theorem afr{x:aw}{e:aV}:(dp x e).an.length<=61/\(dp x e).aq.length<=21:=by
 by_cases h:dG x e=0
 ·have hb:eG x=true:=by
   cases q:eG x
   ·rw[FF (by rw[q];rfl)]at h;cases h
   rfl
  have sm:=(CT hb).sm;have V:=sm.lh;have h2:=sm.li;have hw:=afq x e;unfold LnB at hw;unfold dp;rw[if_pos h];split
  ·omega
  show (bz x e).b.an.length<=61/\(bz x e).b.aq.length<=21;omega
 rw[(Oj h).1];exact⟨by simp[rg],by simp[rg]⟩
theorem adQ{es:List aV}:∀k,k<=es.length->(bK pm (es.take k)).now.an.length<=61/\(bK pm (es.take k)).now.aq.length<=21
 |0,_=>by rw[List.take_zero];decide
 |k+1,h=>by
  rw[fl (by omega)];by_cases hc:dG (bK pm (es.take k)).now es[k]=0
  ·rw[Fk hc];exact afr
  rw[Ol hc];exact adQ k (by omega)
theorem adR(d:du):E9 (e6 d):=by
 by_cases hc:y3 d=0
 ·rw[ac5 hc];have hB:=Dr (Dp d);have hn:(de (f8 d))=bK pm (f8 d):=OO QB;have hl:=adQ (es:=f8 d) _ (Nat.le_refl _);rw[List.take_length,<-hn]at hl;exact⟨aeq d,hB.wf.len,by show (de (f8 d)).now.an.length<=_;omega,by show (de (f8 d)).now.aq.length<=_;omega,by have:=hB.ll;show (d5 (f8 d)).1.lines.length<=_;omega,by simp,by simp⟩
 rw[acJ hc];exact⟨adq,by simp,by simp,by simp,by simp,by simp,by simp⟩
theorem acp{H:Nat->AO}{id:Nat}{t:TypeId}{pt:Option Value}{sz:Nat}{rows:List (List PV)}(hH:H id=.ai ⟨t,pt⟩ sz rows):Reads H (.own id) (.p (.ab t sz rows)):=Reads.jB (by simp[jB,hH])
theorem acL{H:Nat->AO}{F:List AO}{i1 i2 i3 i4 i5 i6 i7 i8:Nat}{p1 p2 p3 p4 p5 afs aft afu:Option Value}{vs us:List Value}{h:mm}{s:Nat}(hT:Tl H F)(V:H i1=.ai ⟨195,p1⟩ 1 (oR vs))(h2:H i2=.ai ⟨192,p2⟩ 2 (lW us h.log.bT.bu))(h3:H i3=.ai ⟨159,p3⟩ 7 (ah aX h.book.ag))(h4:H i4=.ai ⟨218,p4⟩ 7 (ah go h.book.an))(h5:H i5=.ai ⟨220,p5⟩ 5 (ah iX h.book.aq))(h6:H i6=.ai ⟨167,afs⟩ 3 (ah ct h.ia.lines))(h7:H i7=.ai ⟨81,aft⟩ 7 (ah fR h.wait))(h8:H i8=.ai ⟨81,afu⟩ 7 (ah fR h.f9))
 (hv:vs.length=h.log.bT.cells.length) (hu:us.length=h.log.bT.bu.length) (hF:∀i,i<(sY vs us h.log.bT).length->F[s+i]? = (sY vs us h.log.bT)[i]?):Reads H (.agg [.own i1,.own i2,int h.log.next,int h.log.dP,int h.book.tick,int h.book.next,int h.book.aA,.own i3,.own i4,.own i5,int h.ia.last,.own i6,.own i7,.own i8]) (Bu h):=by
 have l1:(fY vs (l9 h.log.bT.cells)).length=h.log.bT.cells.length:=by rw[Aa (by simpa using hv),List.length_map]
 have l2:(fY us (oQ h.log.bT.bu)).length=h.log.bT.bu.length:=by rw[Aa (by simpa using hu),List.length_map]
 have k1:∀i,i<h.log.bT.cells.length->F[s+i]? = (fY vs (l9 h.log.bT.cells))[i]?:=fun i hi=>by
  rw[hF i (by unfold sY;rw[List.length_append];omega)];unfold sY;rw[List.getElem?_append_left (by omega)]
 have k2:∀i,i<h.log.bT.bu.length->F[s+h.log.bT.cells.length+i]? = (fY us (oQ h.log.bT.bu))[i]?:=fun i hi=>by
  rw[Nat.add_assoc,hF (h.log.bT.cells.length+i) (by unfold sY;rw[List.length_append];omega)];unfold sY;rw[List.getElem?_append_right (by omega)];congr 1;omega
 have L:∀n:Int,Reads H (int n) (int n):=fun n=>Reads.jB rfl
 intro L' ρ w c bY hx
 exact Reads.agg (.cons (Reads.own V (SF hT hv k1)) (.cons (Reads.own h2 (SG hT hu k2)) (.cons (L _) (.cons (L _) (.cons (L _) (.cons (L _) (.cons (L _) (.cons (acp h3) (.cons (acp h4) (.cons (acp h5) (.cons (L _) (.cons (acp h6) (.cons (acp h7) (.cons (acp h8) .nil)))))))))))))) bY hx
theorem afv(u1 u2:Value)(vs us:List Value)(d:du)(hb:qK d)(hz:vU d)(hv:vs.length=d.cells.length)(hu:us.length=d.bu.length) :
 GN Tryz.prog 29 [.agg [.own 14,.own 15]] [(14,.ai ⟨195,some u1⟩ 1 (oR vs)),(15,.ai ⟨192,some u2⟩ 2 (lW us d.bu))] (sY vs us d) fun y l F=>∃v7 s5:List Value,v7.length=(e6 d).log.bT.cells.length/\s5.length=(e6 d).log.bT.bu.length/\y=.au [ack (e6 d),int (y3 d)]/\l=obH v7 s5 (e6 d)++[(14,.ai ⟨195,some u1⟩ 1 (oR vs)),(15,.ai ⟨192,some u2⟩ 2 (lW us d.bu))]/\F=sY vs us d++sY v7 s5 (e6 d).log.bT:=
 (aeg (adK d hb) (.cons (fun{L ρ w c} bY hx=>acV (s:=0) (Tl.tl TJ) rfl rfl hv hu (fun i _=>by rw[Nat.zero_add]) bY hx) .nil) TJ rfl (fun x l1 F1 ⟨v7,s5,V,h2,e1,e2,e3⟩=>by
   subst e1 e2 e3;have hz2:=(adR d).d;refine⟨rfl,fun id hid=>?_,fun p hp=>?_,aem,?_⟩
   ·simp[s7,vN]at hid;rcases hid with rfl|rfl|rfl|rfl|rfl|rfl|rfl|rfl<;>rfl
   ·simp only[List.mem_cons,List.not_mem_nil,or_false]at hp;rcases hp with rfl|rfl|rfl|rfl|rfl|rfl|rfl|rfl
    ·exact ael
    ·exact ado
    all_goals exact yg
   ·rw[SD hv hu,SD V h2];have:=hz.lc;have:=hz.lw;have:=hz2.lc;have:=hz2.lw;omega)).mono fun y ob ⟨l1,F1,q1,q2,q3,q4,l2,ac7,⟨v7,s5,V,h2,e1,e2,e3⟩,e4,e5⟩=>by
   subst e1 e2 e3 e4 e5;exact⟨_,_,q1,q2,q3,q4,v7,s5,V,h2,rfl,rfl,rfl⟩
theorem afw(d:du)(hb:qK d):GC Tryz.prog 29 [mt d] [] (.au [Bu (e6 d),int (y3 d)]) []:=
 (GX.frozen (Z:=fun y=>y=.au [Bu (e6 d),int (y3 d)]) (show GX Tryz.prog _ _ [] _ from adK d hb) fun x ob ⟨l1,F1,hs,hF,hM,e,⟨vs,us,hv,hu,e1,e2,e3⟩⟩=>by
   subst e e1 e2 e3;refine⟨.au [Bu (e6 d),int (y3 d)],?_,rfl⟩;have hT:Tl (bx (obH vs us (e6 d)++je 1000000 (sY vs us (e6 d).log.bT))) (sY vs us (e6 d).log.bT):=by rw[Gm rfl];exact Tl.tl hF
   have l1:(fY vs (l9 (e6 d).log.bT.cells)).length=(e6 d).log.bT.cells.length:=by rw[Aa (by simpa using hv),List.length_map]
   have R:∀(i:Nat) (t:TypeId) (sz:Nat) (rows:List (List PV)),bx (obH vs us (e6 d)++je 1000000 (sY vs us (e6 d).log.bT)) i=.ai ⟨t,none⟩ sz rows->Still (bx (obH vs us (e6 d)++je 1000000 (sY vs us (e6 d).log.bT))) (.own i) (.p (.ab t sz rows)):=fun i t sz rows h=>Still.row (e:=⟨t,none⟩) h;exact Still.au (.cons (Still.agg (.cons (Still.own (id:=1) (e:=⟨195,none⟩) (sz:=1) (rows:=oR vs) rfl (SF hT hv (s:=0) fun i hi=>by unfold sY;rw[Nat.zero_add,List.getElem?_append_left (by omega)]))
    (.cons (Still.own (id:=2) (e:=⟨192,none⟩) (sz:=2) (rows:=lW us (e6 d).log.bT.bu) rfl (SG hT hu (s:=(e6 d).log.bT.cells.length) fun i hi=>by unfold sY;rw[List.getElem?_append_right (by omega)];congr 1;omega)) (.cons (Still.p _) (.cons (Still.p _) (.cons (Still.p _) (.cons (Still.p _) (.cons (Still.p _) (.cons (R 3 _ _ _ rfl) (.cons (R 4 _ _ _ rfl) (.cons (R 5 _ _ _ rfl) (.cons (Still.p _) (.cons (R 6 _ _ _ rfl) (.cons (R 7 _ _ _ rfl) (.cons (R 8 _ _ _ rfl) .nil))))))))))))))) (.cons (Still.p _) .nil))).mono fun y o ⟨e1,e2⟩=>⟨e2,e1⟩
theorem afx{h:mm}(hz:E9 h):0<=abX h/\abX h<=1000000000:=by
 have V:=acs hz.d.m;have:=hz.lc;have:=hz.lh;have:=hz.li;have:=hz.ll;have:=hz.lw;have:=hz.ls;unfold abX abH abK abI;omega
theorem afy(x:du)(hb:qK x)(lr:x.cells.length<=9223372036854775807)(Ip:∀c∈x.cells,c.bytes.length<=9223372036854775807)(Iq:x.bu.length<=9223372036854775807)(Ir:∀c∈x.bu,c.bytes.length<=9223372036854775807):GC Tryz.prog 5 [Io x] [] (aD true) []:=by
 refine gi 2 Tryz.func5 rfl Tryz.ntmps5 rfl ?_;intro L O w0;refine sL<|ab (zX 2001 rfl) Z<|ar Z<|nA<|ao Z<|nA<|aP (.agg [vL _ _ _,vL _ _ _]) Na Z<|ae Z<|ab (zL Tryz.func26 (W2 x 1048576 (by omega) (by omega) lr Ip Iq Ir) rfl) Z<|ao Z<|Y<|aS<|sL<|ae Z<|ak Z<|Y ?_;refine AW.cond rfl ?_ ?_
 ·intro V;refine sL<|cI Z<|Y<|aR<|rT ?_;refine ax ?_ trivial;rfl
 intro V;refine aK<|gT<|aS ?_;have hs:0<=qu x 1048576:=by have h:=V;simp only[decide_eq_false_iff_not]at h;omega
 have hz:=Wq hs;obtain⟨cQ,qC⟩:=acs hz.m;have oF:=hz.lc;have hlw:=hz.lw;have hz2:=adR x;obtain⟨hd0,hd1⟩:=afx hz2;have afI:=hz2.d.lc;have afJ:=hz2.d.lw;refine aL<|aP (.agg [vL _ _ _,vL _ _ _]) Na Z<|ab (zC [] [] [] Tryz.func28 (Xc x hz) (trivial) Z Z) Z<|ab (zC [] [] [] Tryz.func27 (afc x hb) (trivial) Z Z) Z<|cT (.au [.agg [vL _ _ _,vL _ _ _,U _ _,U _ _,U _ _,U _ _,U _ _,vL _ _ _,vL _ _ _,vL _ _ _,U _ _,vL _ _ _,vL _ _ _,vL _ _ _],U _ _]) Z<|iB (.agg [vL _ _ _,vL _ _ _,U _ _,U _ _,U _ _,U _ _,U _ _,vL _ _ _,vL _ _ _,vL _ _ _,U _ _,vL _ _ _,vL _ _ _,vL _ _ _]) Z<|dE Z<|ab (zA 2004 Ig Z) Z ?_;refine xH ([]) [1,2,4,23,24] [2001,2004] ?_;refine ab (zB 2004 NA NB Z) Z<|ao Z<|nA<|aP (.agg [vL _ _ _,vL _ _ _]) Na Z ?_;refine A1 (A2 (F:=[]) [(1,11),(2,12)] [11,12] [] ([]).length Tryz.func28 (WX x hz) ki List.drop_length List.take_length (Nat.le_refl _) ((by simp)) (fun _ _ _ _=>trivial) rfl rfl) rfl ?_;rintro _ _ ⟨xz1,oz1,Fz1,fa,hF1,hM1,rfl,rfl⟩;obtain⟨vs1,y6,vC,hu1,rfl,rfl,rfl⟩:=fa;have E7:dS ([]++sY vs1 y6 x):=dS.gJ (by first|assumption|exact dS.nil) hF1;refine ab (zA 2006 Du Z) Z<|ab (zB 2006 Dv Dw Z) Z<|Y<|aS ?_;rw[List.nil_append];have E7:dS (sY vs1 y6 x):=TJ;have hFl:=SD vC hu1;refine AW.mU 11 rfl ?_;intro u11;refine AW.mU 12 rfl ?_;intro u12;refine aL<|aP (.agg [.own _,.own _]) mE Z ?_;refine A1 (A2 (F:=(sY vs1 y6 x)) [(1,21),(2,22),(3,23),(4,24),(5,25),(6,26),(7,27),(8,28),(14,11),(15,12)] [21,22,23,24,25,26,27,28] [14,15] 0 Tryz.func29 (afv u11 u12 vs1 y6 x hb hz vC hu1) ki List.drop_zero List.take_zero (Nat.zero_le _) ((by rw[hFl];omega)) ((fun y l F ⟨_,_,_,_,_,e2,_⟩=>by subst e2;exact⟨stays.ai rfl,stays.ai rfl,trivial⟩)) rfl rfl) rfl ?_;rintro _ _ ⟨xz2,oz2,Fz2,hz2,hF2,hM2,rfl,rfl⟩;obtain⟨v7,s5,hv2,hu2,rfl,rfl,rfl⟩:=hz2;have abt:dS ([]++(sY vs1 y6 x++sY v7 s5 (e6 x).log.bT)):=dS.gJ (by first|assumption|exact dS.nil) hF2;refine cT (.au [.agg [.own _,.own _,U _ _,U _ _,U _ _,U _ _,U _ _,.own _,.own _,.own _,U _ _,.own _,.own _,.own _],U _ _]) Z<|iB (.agg [.own _,.own _,U _ _,U _ _,U _ _,U _ _,U _ _,.own _,.own _,.own _,U _ _,.own _,.own _,.own _]) Z<|dE Z<|ab (zA 2007 Ig Z) Z<|ab (zB 2007 NA NB Z) Z<|ao Z<|Y<|aS<|aS ?_;rw[List.nil_append];have abt:dS (sY vs1 y6 x++sY v7 s5 (e6 x).log.bT):=dS.gJ TJ TJ;have ac8:=SD hv2 hu2;refine aL<|aP (.agg [.own _,.own _,U _ _,U _ _,U _ _,U _ _,U _ _,.own _,.own _,.own _,U _ _,.own _,.own _,.own _]) EZ Z<|aP (.agg [vL _ _ _,vL _ _ _,U _ _,U _ _,U _ _,U _ _,U _ _,vL _ _ _,vL _ _ _,vL _ _ _,U _ _,vL _ _ _,vL _ _ _,vL _ _ _]) EZ Z<|ab (zLN Tryz.func15 (Xq (e6 x) hz2) Z (.cons (acL (vs:=v7) (us:=s5) (h:=(e6 x)) (s:=(sY vs1 y6 x).length) ki Z Z Z Z Z Z Z Z hv2 hu2 acx) (.cons (Reads.jB Z) .nil))) Z ?_;refine xH ((sY vs1 y6 x++sY v7 s5 (e6 x).log.bT)) [1,2,4,5,6,7,8,34] [11,12,21,22,23,24,25,26,27,28,2001,2004,2006,2007] ?_;refine ma Z<|bJ 35 false rfl (by first|(simp;done)|(simp;omega))<|dm Z<|ae Z<|ae Z<|ak Z<|bJ 39 false rfl (by first|(simp;done)|(simp;omega))<|bL Z<|Y<|aN Z<|aK<|gT<|aS<|aS<|aF []<|sq 0 (dw (.agg [.own _,.own _]) mE rfl)<|vq 1 (dw (.agg [vL _ _ _,vL _ _ _]) Na rfl)<|bn 2 rfl (zC [] [] [] Tryz.func28 (Xc x hz) (trivial) rfl rfl) (.inr rfl)<|bn 3 rfl (zLN Tryz.func21 (W9 x hz.e) rfl (.cons (acV (vs:=vs1) (us:=y6) (d:=x) (s:=0) ki rfl rfl vC hu1 (fun j hj=>by rw[Nat.zero_add,List.getElem?_append_left hj])) (.cons (Reads.jB rfl) .nil))) (.inr rfl)<|vq 4 (tJ rfl)<|nw 45 false rfl (by first|(simp;done)|(simp;omega))<|fD<|gT<|aN Z<|aK<|gA<|ao rfl ?_;refine nA<|aP (.agg [.own _,.own _]) mE Z<|ae Z ?_;refine A1 (A2 (F:=(sY vs1 y6 x++sY v7 s5 (e6 x).log.bT)) [(1,11),(2,12)] [] [1,2] 0 Tryz.func24 (adm u11 u12 vs1 y6 x (sY v7 s5 (e6 x).log.bT) 1 vC hu1 TJ (by rw[ac8];omega) hz (by omega)) ki List.drop_zero List.take_zero (Nat.zero_le _) ((by rw[List.length_append,hFl,ac8];omega)) ((fun y l F ⟨_,e2,_⟩=>by subst e2;exact⟨stays.ai rfl,stays.ai (by show (lW y6 (c7 E6 m3 _ _)).length=_;rw[K9 (by rw[k7];exact hu1),k7,K9 hu1]),trivial⟩)) rfl rfl) rfl ?_;rintro _ _ ⟨xz3,oz3,Fz3,hz3,hF3,hM3,rfl,rfl⟩;obtain⟨rfl,rfl,rfl⟩:=hz3;have acg:dS ([]++(sY vs1 y6 (f6 x 1)++sY v7 s5 (e6 x).log.bT)):=dS.gJ (by first|assumption|exact dS.nil) hF3;refine xH (([]++(sY vs1 y6 (f6 x 1)++sY v7 s5 (e6 x).log.bT))) [1,2,4,5,7,8,9,48] [21,22,23,24,25,26,27,28,2001,2004,2007] ?_;refine ao Z<|Y<|aS<|aS ?_;rw[List.nil_append];have hrA:dS (sY vs1 y6 (f6 x 1)):=TJ;have acg:dS (sY vs1 y6 (f6 x 1)++sY v7 s5 (e6 x).log.bT):=dS.gJ TJ TJ;refine aL<|ae Z<|ak Z<|bJ 50 false rfl (by first|(simp;done)|(simp;omega))<|dm Z<|aP (.agg [.own _,.own _,U _ _,U _ _,U _ _,U _ _,U _ _,.own _,.own _,.own _,U _ _,.own _,.own _,.own _]) EZ Z<|aP (.agg [vL _ _ _,vL _ _ _,U _ _,U _ _,U _ _,U _ _,U _ _,vL _ _ _,vL _ _ _,vL _ _ _,U _ _,vL _ _ _,vL _ _ _,vL _ _ _]) EZ Z<|ab (zLN Tryz.func15 (Xq (e6 x) hz2) rfl (.cons (acL (vs:=v7) (us:=s5) (h:=(e6 x)) (s:=(sY vs1 y6 (f6 x 1)).length) ki rfl rfl rfl rfl rfl rfl rfl rfl hv2 hu2 acx) (.cons (Reads.jB rfl) .nil))) Z<|ma Z<|bJ 55 false rfl (by first|(simp;done)|(simp;omega))<|bL Z<|dm Z<|ae Z<|ae Z<|ak Z<|bJ 60 false rfl (by first|(simp;done)|(simp;omega))<|bL Z<|Y<|aN Z<|aK<|gA<|ao Z<|Y<|aS ?_;refine AW.mU 21 rfl ?_;intro u21;refine AW.mU 22 rfl ?_;intro u22;refine AW.mU 23 rfl ?_;intro u23;refine AW.mU 24 rfl ?_;intro u24;refine AW.mU 25 rfl ?_;intro u25;refine AW.mU 26 rfl ?_;intro u26;refine AW.mU 27 rfl ?_;intro u27;refine AW.mU 28 rfl ?_;intro u28;rw[<-List.append_nil (sY v7 s5 (e6 x).log.bT)];have ads:dS (sY vs1 y6 (f6 x 1)++(sY v7 s5 (e6 x).log.bT++[])):=dS.gJ TJ (dS.gJ TJ dS.nil);refine aL<|aP (.agg [.own _,.own _,U _ _,U _ _,U _ _,U _ _,U _ _,.own _,.own _,.own _,U _ _,.own _,.own _,.own _]) EZ Z<|ae Z ?_;refine A1 (A2 (F:=(sY vs1 y6 (f6 x 1)++(sY v7 s5 (e6 x).log.bT++[]))) [(1,21),(2,22),(3,23),(4,24),(5,25),(6,26),(7,27),(8,28)] [] [1,2,3,4,5,6,7,8] (sY vs1 y6 (f6 x 1)).length Tryz.func16 (afp [u21,u22,u23,u24,u25,u26,u27,u28] v7 s5 (e6 x) [] 1 hv2 hu2 dS.nil (by simp) hz2 (by omega)) ki List.drop_left List.take_left (by simp) ((by rw[List.length_append,List.append_nil,ac8,SD (d:=f6 x 1) (by show _=(c7 uD s0 _ _).length;rw[k7];exact vC) (by show _=(c7 E6 m3 _ _).length;rw[k7];exact hu1)];show (c7 uD s0 _ _).length+(c7 E6 m3 _ _).length+_<=_;rw[k7,k7];omega)) ((fun y l F ⟨_,e2,_⟩=>by subst e2;exact⟨stays.ai rfl,stays.ai (by show (lW s5 (c7 E6 m3 _ _)).length=_;rw[K9 (by rw[k7];exact hu2),k7,K9 hu2]),stays.ai (by simp[ah,mkH,mkB,mkL,c6]),stays.ai (by simp[ah,mkH,mkB,mkL,c6]),stays.ai (by simp[ah,mkH,mkB,mkL,c6]),stays.ai (by simp[ah,mkH,mkB,mkL,c6]),stays.ai (by simp[ah,mkH,mkB,mkL,c6]),stays.ai (by simp[ah,mkH,mkB,mkL,c6]),trivial⟩)) rfl rfl) rfl ?_;rintro _ _ ⟨xz4,oz4,Fz4,hz4,hF4,hM4,rfl,rfl⟩;obtain⟨rfl,rfl,rfl⟩:=hz4;have ads:dS (sY vs1 y6 (f6 x 1)++(sY v7 s5 (f6 (e6 x).log.bT 1)++[])):=dS.gJ (by first|assumption|exact dS.nil) hF4;refine xH ((sY vs1 y6 (f6 x 1)++(sY v7 s5 (f6 (e6 x).log.bT 1)++[]))) [1,2,4,5,7,10,64] [21,22,23,24,25,26,27,28,2001,2004,2007] ?_;refine ao Z<|Y<|aS ?_;rw[List.append_nil (sY v7 s5 (f6 (e6 x).log.bT 1))];have afK:dS (sY vs1 y6 (f6 x 1)++sY v7 s5 (f6 (e6 x).log.bT 1)):=dS.gJ TJ TJ;refine aL<|ao Z<|nA<|aP (.agg [.own _,.own _,U _ _,U _ _,U _ _,U _ _,U _ _,.own _,.own _,.own _,U _ _,.own _,.own _,.own _]) EZ Z<|ae Z<|ab (zLN Tryz.func17 (adN (e6 x) 1 hz2 (by omega)) rfl (.cons (acL (vs:=v7) (us:=s5) (h:=mkH (e6 x) 1) (s:=(sY vs1 y6 (f6 x 1)).length) ki rfl rfl rfl rfl rfl rfl rfl rfl (by show _=(c7 uD s0 _ _).length;rw[k7];exact hv2) (by show _=(c7 E6 m3 _ _).length;rw[k7];exact hu2) acx) (.cons (Reads.jB rfl) .nil))) Z<|ao Z<|Y<|aS<|sL<|ae Z<|ak Z<|bJ 69 false rfl (by first|(simp;done)|(simp;omega))<|Y<|aN Z<|aK<|gT<|aS<|sL<|ae Z<|ae Z<|ak Z<|bJ 72 false rfl (by first|(simp;done)|(simp;omega)) ?_;refine Y<|aN Z<|aK<|gA<|aP (.agg [vL _ _ _,vL _ _ _]) Na Z<|ab (zC [] [] [] Tryz.func28 (Xc x hz) (trivial) Z Z) Z<|ab (zC [] [] [] Tryz.func29 (afw x hb) (trivial) Z Z) Z ?_;refine xH ((sY vs1 y6 (f6 x 1)++sY v7 s5 (f6 (e6 x).log.bT 1))) [2,4,5,7,10,11,76] [21,22,23,24,25,26,27,28,2004,2007] ?_;refine cT (.au [.agg [vL _ _ _,vL _ _ _,U _ _,U _ _,U _ _,U _ _,U _ _,vL _ _ _,vL _ _ _,vL _ _ _,U _ _,vL _ _ _,vL _ _ _,vL _ _ _],U _ _]) Z<|iB (.agg [vL _ _ _,vL _ _ _,U _ _,U _ _,U _ _,U _ _,U _ _,vL _ _ _,vL _ _ _,vL _ _ _,U _ _,vL _ _ _,vL _ _ _,vL _ _ _]) Z<|dE Z<|ab (zA 2012 Ig rfl) Z<|ab (zB 2012 NA NB rfl) Z<|ao Z<|Y<|aS<|sL<|aP (.agg [vL _ _ _,vL _ _ _,U _ _,U _ _,U _ _,U _ _,U _ _,vL _ _ _,vL _ _ _,vL _ _ _,U _ _,vL _ _ _,vL _ _ _,vL _ _ _]) EZ Z<|aP (.agg [vL _ _ _,vL _ _ _,U _ _,U _ _,U _ _,U _ _,U _ _,vL _ _ _,vL _ _ _,vL _ _ _,U _ _,vL _ _ _,vL _ _ _,vL _ _ _]) EZ Z<|ab (zL Tryz.func15 (Xq (e6 x) hz2) rfl) Z<|ma Z<|bJ 82 false rfl (by first|(simp;done)|(simp;omega))<|dm Z<|ae Z<|ae Z<|ak Z<|bJ 86 false rfl (by first|(simp;done)|(simp;omega))<|bL Z<|Y<|aN Z<|aK<|gA<|ao rfl ?_;refine nA<|aP (.agg [.own _,.own _,U _ _,U _ _,U _ _,U _ _,U _ _,.own _,.own _,.own _,U _ _,.own _,.own _,.own _]) EZ Z<|ae Z<|ab (zLN Tryz.func17 (adN (e6 x) 1 hz2 (by omega)) rfl (.cons (acL (vs:=v7) (us:=s5) (h:=mkH (e6 x) 1) (s:=(sY vs1 y6 (f6 x 1)).length) ki rfl rfl rfl rfl rfl rfl rfl rfl (by show _=(c7 uD s0 _ _).length;rw[k7];exact hv2) (by show _=(c7 E6 m3 _ _).length;rw[k7];exact hu2) acx) (.cons (Reads.jB rfl) .nil))) rfl ?_;refine xH ((sY vs1 y6 (f6 x 1)++sY v7 s5 (f6 (e6 x).log.bT 1))) [2,10,11,90] [] ?_;refine ao Z<|Y<|aS<|sL<|ae Z<|ak Z<|bJ 92 false rfl (by first|(simp;done)|(simp;omega))<|Y<|aN Z<|aK<|gT<|aS<|sL<|ae Z<|ae Z<|ak Z<|bJ 95 false rfl (by first|(simp;done)|(simp;omega))<|Y<|aN Z<|aK<|gA<|cI Z<|lN ?_;refine gT<|aR ?_;refine ax ?_ trivial;rfl

theorem dd.CX{α:Type}{sz:Nat}{dg:World->Nat->Nat->List Value->α->Prop}{w:World}{lo hi:Nat}{v:Value}{xs:List α}{p:α->Prop}(h:dd sz dg w lo hi v xs)(hp:∀lo hi cs x,dg w lo hi cs x->p x):∀x∈xs,p x:=by
 obtain⟨a,cap,rfl,c1,c2,ml⟩:=h;intro x hx;rcases ml with hz|⟨b,off,rfl,b1,b2,hel⟩
 ·subst hz;simp at hx
 obtain⟨i,hi,rfl⟩:=List.getElem_of_mem hx;obtain⟨cs,V,_⟩:=hel i hi;exact hp _ _ _ _ V
theorem dd.short{α:Type}{sz:Nat}{dg:World->Nat->Nat->List Value->α->Prop}{w:World}{lo hi:Nat}{v:Value}{xs:List α}(h:dd sz dg w lo hi v xs):xs.length<=9223372036854775807:=by
 obtain⟨a,c,_,k1,k2,_⟩:=h;unfold maxLen at k2;omega
theorem OZ{w:World}{lo hi:Nat}{v:Value}{b:List Int}(h:dd 1 yb w lo hi v b)(hh:hi<=w.heap.size):∃fp,RW w false (nQ b) v fp:=by
 have:=wU (L:=fun _=>False) (ρ:=fun _=>undef) (H:=bx []) (e:=5) h (fun cs x q=>(show cs=dF x from q.1)) (fun _=>rfl) (by intro c u hu;simp[dF]at hu;subst hu;rfl) hh (fun _ _ _=>mh);rw[RV]at this;obtain⟨fp,q,_⟩:=this;exact⟨fp,q⟩
theorem O0{w:World}{lo hi:Nat}{v:Value}{b:List Int}(h:dd 1 yb w lo hi v b):fA b:=fun x hx=>(h.CX fun _ _ _ _ q=>q.2) x hx
theorem Yo{w:World}{lo hi:Nat}(hh:hi<=w.heap.size){cs:List Value}{x:Cell}(h:sF w lo hi cs x):cs.length=1/\∃fp,bP w false [nQ x.bytes] cs fp:=by
 obtain⟨v0,rfl,q,_⟩:=h;obtain⟨fp,k⟩:=OZ q hh;refine⟨rfl,fp++[],?_⟩;rw[bP];exact⟨v0,[],fp,[],rfl,rfl,k,by rw[bP];exact⟨rfl,rfl⟩⟩
theorem Yp{w:World}{lo hi:Nat}(hh:hi<=w.heap.size){cs:List Value}{x:gq}(h:sG w lo hi cs x):cs.length=2/\∃fp,bP w false [.v (.int .i64 x.at_),nQ x.bytes] cs fp:=by
 obtain⟨v0,rfl,q,_⟩:=h;obtain⟨fp,k⟩:=OZ q hh;refine⟨rfl,[]++(fp++[]),?_⟩;rw[bP];refine⟨_,[v0],[],fp++[],rfl,rfl,by rw[RW];exact⟨rfl,rfl,rfl⟩,?_⟩;rw[bP];exact⟨v0,[],fp,[],rfl,rfl,k,by rw[bP];exact⟨rfl,rfl⟩⟩
structure Yq(d:du):Prop where
 hb:qK d
 lc:d.cells.length<=9223372036854775807
 bc:∀c∈d.cells,c.bytes.length<=9223372036854775807
 lw:d.bu.length<=9223372036854775807
 bw:∀c∈d.bu,c.bytes.length<=9223372036854775807
theorem Yr{d:du}{w:World}{v0 v1:Value}(h0:dd 1 sF w 0 w.heap.size v0 d.cells)(V:dd 2 sG w 0 w.heap.size v1 d.bu):Yq d:=
 ⟨⟨fun c hc=>(h0.CX (p:=fun c=>fA c.bytes) fun _ _ _ _ ⟨_,_,q,_⟩=>O0 q) c hc,fun c hc=>(V.CX (p:=fun c=>fA c.bytes) fun _ _ _ _ ⟨_,_,q,_⟩=>O0 q) c hc⟩,h0.short,fun c hc=>(h0.CX (p:=fun c=>c.bytes.length<=9223372036854775807) fun _ _ _ _ ⟨_,_,q,_⟩=>q.short) c hc,V.short,fun c hc=>(V.CX (p:=fun c=>c.bytes.length<=9223372036854775807) fun _ _ _ _ ⟨_,_,q,_⟩=>q.short) c hc⟩
theorem Ys{e:TypeId}{d:List Cell}{w:World}{v:Value}(h:dd 1 sF w 0 w.heap.size v d):RV (fun _=>False) (fun _=>undef) (bx []) w (.p (.ab e 1 (oS d))) v:=by
 obtain⟨fp,q⟩:=NM (e:=e) (row:=fun c:Cell=>[nQ c.bytes]) h (fun cs x k=>Yo (Nat.le_refl _) k) (fun _=>rfl) (Nat.le_refl _);rw[RV];exact⟨fp,q,fun _ _=>mh⟩
theorem Yt{e:TypeId}{d:List gq}{w:World}{v:Value}(h:dd 2 sG w 0 w.heap.size v d):RV (fun _=>False) (fun _=>undef) (bx []) w (.p (.ab e 2 (oT d))) v:=by
 obtain⟨fp,q⟩:=NM (e:=e) (row:=fun c:gq=>[.v (.int .i64 c.at_),nQ c.bytes]) h (fun cs x k=>Yp (Nat.le_refl _) k) (fun _=>rfl) (Nat.le_refl _);rw[RV];exact⟨fp,q,fun _ _=>mh⟩
theorem afz{e1 e2:TypeId}{d:du}{w:World}{v0 v1:Value}(h0:dd 1 sF w 0 w.heap.size v0 d.cells)(V:dd 2 sG w 0 w.heap.size v1 d.bu):RV (fun _=>False) (fun _=>undef) (bx []) w (.agg [.p (.ab e1 1 (oS d.cells)),.p (.ab e2 2 (oT d.bu))]) (.agg #[v0,v1]):=by
 rw[RV];refine⟨[v0,v1],rfl,?_⟩;simp only[bf];exact⟨_,_,rfl,Ys h0,_,_,rfl,Yt V,rfl⟩

theorem afA(x:du)(a0:Option Addr)(c0:Nat)(a1:Option Addr)(c1:Nat)(w:World)(h0:dd 1 sF w 0 w.heap.size (.slice a0 x.cells.length c0) x.cells)(V:dd 2 sG w 0 w.heap.size (.slice a1 x.bu.length c1) x.bu)(wf0:aaz x) :
 Calls Tryz.prog 5 #[.agg #[.slice a0 x.cells.length c0,.slice a1 x.bu.length c1]] w fun r w'=>r=.returned (.bool true)/\cZ w w':=
 let k:=Yr h0 V
 Xx (cs:=[_]) rfl (afy x k.hb k.lc k.bc k.lw k.bw) (by
  simp only[bf];exact⟨_,_,rfl,afz h0 V,rfl⟩)
end Go.Proofs.YtflhgkmhmcfimaaGreat

namespace Go.Proofs.YtflhgkmhmcfimaaGreat.fnExactHubOpen
open Go.ChangeShapes Go.WideShapes Go.ChangeAt Go.RowKit Go.Proofs.YtflhgkmhmcfimaaGreat
set_option maxHeartbeats 16000000
set_option maxRecDepth 100000
set_option linter.unusedVariables false
theorem own:ownKnob Tryz.prog.godebug=none:=by kernel_rfl
theorem laid:laidOutB Tryz.prog=true:=by kernel_rfl
theorem readable:∀t∈[25],Tryz.prog.readableRec t=true/\t<Tryz.prog.types.size:=by
 intro t ht;simp only[List.mem_cons,List.not_mem_nil,or_false]at ht;rcases ht with rfl;all_goals exact⟨by kernel_rfl,of_decide_eq_true (by kernel_rfl)⟩
theorem lifted(os:Os)(started:os.Started)(H:Type)(enc:TypeId×Value->H) :
 ReturnsInHanded {} Tryz.checked os 5 .any (Rows.fnExactHubOpenSpec.pre6 enc Tryz.prog Tryz.f5 Rows.fnExactHubOpenRow.domain false) (Rows.fnExactHubOpenSpec.post enc Tryz.prog Tryz.f5 false true false false):=by
 refine returnsInHanded_of_change (C:=Tryz.checked) own started (by kernel_rfl) Tryz.func5
  (ChangeSpec.witness6 (enc:=enc) (C:=Tryz.checked) false ⟨#[],#[.agg #[.slice none 0 0,.slice none 0 0]],[]⟩ 8 (by kernel_rfl) (by kernel_rfl) (by kernel_rfl) (by kernel_rfl)) ?_
 intro W base args ds gs before O2 hW aby _
 have O3:∀(j:Nat) t v,Tryz.f5.params[j]? = some t->args[j]? = some v->Value.okWide Tryz.prog W .any base t v:=O2
 have O4:=hW
 obtain⟨p,q,O5,hV,rfl,hfz,jU⟩:=hW
 have hA:DataW.TrodAll enc Tryz.prog W 0 (fun _=>true) true Tryz.f5.params.toList args.toList ds p:=O5
 rw[Tryz.params5]at hA O3
 have hB:=hA
 obtain⟨v0,vs0,d0,ds0,p0,q0,pF,rfl,rfl,h0,r0⟩:=trodAll_cons hA
 obtain⟨rfl,rfl,rfl⟩:=trodAll_nil r0
 obtain rfl:args=#[v0]:=by cases args;simp_all
 obtain⟨rfl,rfl⟩:=trodVars_none hV
 obtain⟨oC,rfl,_⟩:=okWide_struct Tryz.underlying25 (O3 0 25 v0 rfl rfl)
 obtain⟨fu0,t0⟩:=h0
 obtain⟨x0,Dy,Dz,e0,Pb,Pc,w0⟩:=Rb t0
 have e0:oC=#[Dy,Dz]:=Array.ext' (by simpa[Value.cells]using e0)
 subst e0
 obtain⟨Yx,Yy,rfl⟩:∃a c,Dy=Value.slice a x0.cells.length c:=let ⟨a,c,h,_⟩:=Pb;⟨a,c,h⟩
 obtain⟨Yz,YA,rfl⟩:∃a c,Dz=Value.slice a x0.bu.length c:=let ⟨a,c,h,_⟩:=Pc;⟨a,c,h⟩
 clear O5 O2
 simp only[List.append_nil]at O4
 refine(afA x0 Yx Yy Yz YA W Pb Pc w0).mono fun e W' ⟨he,hg⟩=>?_
 subst he
 exact⟨_,rfl,_,_,_,_,_,[],O4,trodAll_mk1 (shut_bool Tryz.underlying4 true),
  Pk laid hg.below (readable) hB,rfl,hg.below.frame _,fun h=>by cases h⟩
theorem YN:(Rows.fnExactHubOpenRow.inPlace==Tryz.pinned.checked.prog.inPlace 5)=true:=by kernel_rfl
theorem YO:(Rows.fnExactHubOpenRow.unfollowed==Tryz.pinned.checked.prog.unfollowed 5)=true:=by kernel_rfl
theorem YP:(Rows.fnExactHubOpenRow.recurses==Tryz.pinned.checked.prog.recurses 5)=true:=by kernel_rfl
theorem YQ:(Rows.fnExactHubOpenRow.named==Tryz.pinned.checked.prog.varsNamed 5)=true:=by kernel_rfl
theorem YR:Tryz.pinned.checked.prog.funcNamed Rows.fnExactHubOpenRow.func=some 5:=by kernel_rfl
theorem closed:joinedFacts Tryz.pinned.checked.prog 5 Tryz.f5 Rows.fnExactHubOpenSpec Rows.fnExactHubOpenRow=true:=by
 unfold joinedFacts;rw[YN,YO,YP,YQ];kernel_rfl
theorem YS:Rows.fnExactHubOpenRow.holds Tryz.pinned (OpenSpec.ofChange Rows.fnExactHubOpenSpec):=
 OpenClaim.holds_of_wide 5 Tryz.f5 rfl rfl rfl rfl rfl rfl rfl ⟨rfl,rfl,rfl,rfl,rfl⟩ rfl rfl rfl rfl rfl YR Tryz.func5 closed
  (of_decide_eq_true (by kernel_rfl)) (by unfold Func.isWrapper;first|(rw[if_pos (by decide +kernel)];kernel_rfl)|(rw[if_neg (by decide +kernel)];exact⟨rfl,rfl⟩))
  (fun os started H enc _=>lifted os started H enc)
theorem proved:Rows.FnExactHubOpenSaid:=
 YS
#print axioms proved
end Go.Proofs.YtflhgkmhmcfimaaGreat.fnExactHubOpen

