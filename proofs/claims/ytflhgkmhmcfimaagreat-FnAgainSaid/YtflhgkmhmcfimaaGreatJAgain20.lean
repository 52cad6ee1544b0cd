/- Texts of the proof of FnFnAgain, joined: EW2, EW3, EW5, EW6, EW7, EY0, HubT, AppF, E39, EY1, E34, EQ1, EQ3, E41. -/
import Derived.Test.YtflhgkmhmcfimaaGreatJAgain19
import Derived.Test.YtflhgkmhmcfimaaGreatJAgain11
import Derived.Test.YtflhgkmhmcfimaaGreatJAgain13
import Derived.Test.YtflhgkmhmcfimaaGreatJAgain14
import Derived.Test.YtflhgkmhmcfimaaGreatJAgain5
import Derived.Test.YtflhgkmhmcfimaaGreatJAgain18
import Derived.Test.YtflhgkmhmcfimaaGreatJAgain4
import Derived.Test.YtflhgkmhmcfimaaGreatJAgain17
namespace Go.Proofs.YtflhgkmhmcfimaaGreat
open Tryz
open Go.RowKit
set_option maxHeartbeats 16000000
set_option maxRecDepth 100000
set_option linter.unusedSimpArgs false
set_option linter.unusedVariables false
theorem adF:∀ {l:List (Nat×AO)},(l.all fun p=>nr p.2)=true->∀i,nr (bx l i)=true
 |[],_,i=>rfl
 |(a,o)::l,h,i=>by
  rw[List.all_cons,Bool.and_eq_true]at h;show nr (if i=a then o else bx l i)=true;split
  ·exact h.1
  exact adF h.2 i
theorem ae2{o:AO}(h:nr o=true):o=.gone\/∃e sz rows,o=.ai e sz rows:=by
 cases o with
 |ai e sz rows=>exact .inr ⟨e,sz,rows,rfl⟩
 |gone=>exact .inl rfl
 |box _ _ _=>cases h
theorem ae3{h:Nat->AO}{F:List AO}(V:∀i,nr (h i)=true)(h2:dS F)(i:Nat):nr (tl h F i)=true:=by
 unfold tl;cases Nat.blt i 1000000
 ·exact h2.at _
 exact V i
theorem adG{l m:List (Nat×AO)}:∀ {k:List (Nat×AO)},(∀p∈k,bx l p.1=p.2)->∀i,bx k i=.gone\/bx k i=bx l i
 |[],_,i=>.inl rfl
 |(a,o)::k,h,i=>by
  show (if i=a then o else bx k i)=.gone\/(if i=a then o else bx k i)=bx l i;split
  ·rename_i e;subst e;exact .inr (h (i,o) x_19).symm
  exact adG (m:=m) (fun p hp=>h p (by simp[hp])) i
abbrev acI(r:fg):AV:=.au [.agg [int r.now.tick,int r.now.next,int r.now.aA,.own 1,.own 2,.own 3],.p (.ab 92 2 (qI r.ps)),.p (.ab 3 1 (ah kt r.jD))]
theorem ae4{f:FuncId}{args:List AV}{r:fg}(h:GN prog f args [] [] (GW r)):GC prog f args [] (acI r) (Jz r.now):=
 GX.vA (Z:=fun y o=>y=acI r/\o=Jz r.now) (show GX prog f args [] _ from h) fun x ob ⟨l1,F1,hs,hF,hM,e,⟨vs,hv,e1,e2,e3⟩⟩=>by
  subst e e1 e2 e3;have hO:bx (Ag r vs++je 1000000 (fZ vs r.ps))=tl (bx (Ag r vs)) (fZ vs r.ps):=Gm rfl;have hK:∀i,bx (Jz r.now) (1000000+i)=.gone:=fun i=>by simp only[bx];rw[if_neg x_2,if_neg x_2,if_neg x_2]
  have hT:Tl (abO (tl (bx (Ag r vs)) (fZ vs r.ps)) (bx (Jz r.now))) (fZ vs r.ps):=⟨fun i=>by
   unfold abO;rw[hK i];exact(Tl.tl hF).1 i,hF⟩
  refine⟨acI r,Jz r.now,?_,⟨fun i=>?_,fun i=>?_⟩,rfl,rfl⟩
  ·rw[hO];exact abG.au (.cons (abG.agg (.cons (abG.p _) (.cons (abG.p _) (.cons (abG.p _) (.cons (abG.own rfl) (.cons (abG.own rfl) (.cons (abG.own rfl) .nil)))))))
    (.cons (adb rfl (Still.own (id:=14) (e:=⟨92,none⟩) (sz:=2) (rows:=lH vs r.ps) rfl (Tk hT hv (s:=0) fun i hi=>by rw[Nat.zero_add])))
    (.cons (adb rfl (Still.row (id:=15) (e:=⟨3,none⟩) (sz:=1) (rows:=ah kt r.jD) rfl)) .nil)))
  ·rw[hO];exact ae2 (ae3 (adF rfl) hF i)
  rw[hO];rcases adG (l:=Ag r vs) (m:=[]) (k:=Jz r.now) (fun p hp=>by simp only[Jz,List.mem_cons,List.not_mem_nil,or_false]at hp;rcases hp with rfl|rfl|rfl<;>rfl) i with q|q
  ·exact .inl q
  by_cases hi:i<1000000
  ·exact .inr (by rw[q];unfold tl;rw[show Nat.blt i 1000000=true from Nat.ble_eq_true_of_le hi];rfl)
  exact .inl (by have:=hK (i-1000000);rw[show 1000000+(i-1000000)=i by omega]at this;exact this)
theorem ae5(x:aw)(es:List aV)(hw:di x)(we:∀e∈es,l7 e)(hm:es.length<=1048576):GC prog 35 [cj x,.p (.ab 81 7 (ah fR es))] [] (acI (sB x es)) (Jz (sB x es).now):=ae4 (Tm x es hw we hm)
abbrev ae6(es:List aV):AV:=.au [.agg [int (de es).now.tick,int (de es).now.next,int (de es).now.aA,.own 1,.own 2,.own 3],.agg [int (d5 es).1.last,.own 61],aD (eL es)]
abbrev ae7(es:List aV):List (Nat×AO):=[(1,.ai 159 7 (ah aX (de es).now.ag)),(2,df (de es).now.an),(3,d7 (de es).now.aq),(61,dc (d5 es).1.lines)]
theorem ae8(es:List aV)(we:∀e∈es,l7 e)(hm:es.length<=1000000):GC prog 86 [.p (.ab 81 7 (ah fR es))] [] (ae6 es) (ae7 es):=by
 refine GC.intro (rs:=[.cell 2 50 (some 6),.cell 3 53 (some 2),.tmp 4]) func86 rfl ntmps86 x_8 ⟨rfl,rfl,cu,rfl,rfl,eZ,rfl,trivial⟩ ?_;intro L O w0;refine sL<|ab (zA 2002 mD Z) Z<|ab (zA 2003 ld Z) Z<|ar Z<|nA ?_;have hB:=Dr we;refine ab (zC [] [] [] func36 (QH) (trivial) rfl rfl) Z<|bm Z<|ab (zC [(1,1),(2,2),(3,3)] [1,2,3] [] func35 (ae5 pm es FT we x_2) (trivial) rfl rfl) Z<|cT (.au [jG,c7,c7]) Z<|iB jG Z<|rF Z<|rF Z<|ab (zA 2005 mD rfl) Z<|ab (zB 2005 eu ew rfl) Z<|nv Z<|nv Z<|nA<|lq (rd (x:=.agg [c6,vV _]) (cP rfl lP rfl rfl rfl) rfl)<|bm Z<|ab (zC [(61,61)] [61] [] func175 (ad1 (de es).ps hB.pl (by have:=hB.lp;omega)) (trivial) rfl rfl) Z<|lT [2,3,4,5,6,7,20] [1,2,3,61,2002,2003,2005] ?_;refine cT (.au [qa,c6]) Z<|iB qa Z<|dE Z<|ab (zA 2008 ld Z) Z<|ab (zB 2008 cA cB Z) Z<|ao Z<|Y<|aS<|aF [10,11]<|sq 0 (dw jG cu Z)<|pq 2 (iz Z) ?_;refine AF.two (i:=1) (j:=3) x_37 ?_ ?_
 ·refine d9.rd (i:=1) (x:=qa) rfl (sC rfl eZ rfl rfl rfl rfl) rfl rfl x_3 ?_;refine bn 3 rfl (zL func176 (JV (de es).jD (by have:=hB.lk;omega)) rfl) (.inr rfl)<|vq 4 (dx rfl) ?_;refine AF.bool (t:=27) rfl ?_ ?_
  ·intro V;refine pq 5 (gL c6 Z)<|pq 6 (iz Z)<|pq 7 (qd (x:=c6) (ada Z pX Z) Z)<|pq 8 (qd (x:=fy) (ac' Z Z Z) Z)<|pq 9 (qd (x:=fy) (acy Z Z) Z)<|bn 10 Z (zB 2002 eu ew Z) (.inl Z)<|fT [2,3,4,24,32] [1,2,3,61,2002,2003,2005,2008] ?_;refine bn 11 Z (zB 2003 cA cB Z) (.inl Z)<|vq 12 (fk Z)<|fD<|gT<|aR ?_;refine ax ?_ ⟨rfl,rfl,rfl,rfl,trivial⟩;refine congrArg (fun b=>some (AV.au [.agg [int (de es).now.tick,int (de es).now.next,int (de es).now.aA,.own 1,.own 2,.own 3],.agg [int (d5 es).1.last,.own 61],aD b])) ?_;unfold eL;rw[show eK _=true by simpa using V];simp[fw]
  intro V;refine bi 5 Z<|bi 6 Z<|bi 7 Z<|bi 8 Z<|pq 9 (qd (x:=vB false) (acy Z Z) Z)<|bn 10 Z (zB 2002 eu ew Z) (.inl Z)<|bn 11 Z (zB 2003 cA cB Z) (.inl Z)<|vq 12 (oA Z)<|fD<|gT<|aR ?_;refine ax ?_ ⟨rfl,rfl,rfl,rfl,trivial⟩;refine congrArg (fun b=>some (AV.au [.agg [int (de es).now.tick,int (de es).now.next,int (de es).now.aA,.own 1,.own 2,.own 3],.agg [int (d5 es).1.last,.own 61],aD b])) ?_;unfold eL;rw[show eK _=false by simpa using V];rfl
 refine v1 3 rfl (zL func176 (JV (de es).jD (by have:=hB.lk;omega)) rfl) (.inr rfl)<|pq 4 (gL fy rfl) ?_;refine AF.bool (t:=27) rfl ?_ ?_
 ·intro h2;refine pq 5 (gL c6 Z)<|pq 6 (iz Z)<|pq 7 (qd (x:=c6) (ada Z pX Z) Z)<|pq 8 (qd (x:=fy) (ac' Z Z Z) Z)<|pq 9 (qd (x:=fy) (acy Z Z) Z) ?_;refine AF.two (i:=1) (j:=10) x_37 ?_ ?_
  ·refine d9.rd (i:=1) (x:=qa) rfl (sC rfl eZ rfl rfl rfl rfl) rfl rfl x_3 ?_;refine bn 10 Z (zB 2002 eu ew Z) (.inl Z)<|fT [2,3,4,24,32] [1,2,3,61,2002,2003,2005,2008] ?_;refine bn 11 Z (zB 2003 cA cB Z) (.inl Z)<|vq 12 (fk Z)<|fD<|gT<|aR ?_;refine ax ?_ ⟨rfl,rfl,rfl,rfl,trivial⟩;refine congrArg (fun b=>some (AV.au [.agg [int (de es).now.tick,int (de es).now.next,int (de es).now.aA,.own 1,.own 2,.own 3],.agg [int (d5 es).1.last,.own 61],aD b])) ?_;unfold eL;rw[show eK _=true by simpa using h2];simp[fw]
  refine v1 10 Z (zB 2002 eu ew Z) (.inl Z)<|vq 1 (dw qa eZ Z)<|bn 11 Z (zB 2003 cA cB Z) (.inl Z)<|vq 12 (fk Z)<|fD<|gT<|aR ?_;refine ax ?_ ⟨rfl,rfl,rfl,rfl,trivial⟩;refine congrArg (fun b=>some (AV.au [.agg [int (de es).now.tick,int (de es).now.next,int (de es).now.aA,.own 1,.own 2,.own 3],.agg [int (d5 es).1.last,.own 61],aD b])) ?_;unfold eL;rw[show eK _=true by simpa using h2];simp[fw]
 intro h2;refine bi 5 Z<|bi 6 Z<|bi 7 Z<|bi 8 Z<|pq 9 (qd (x:=vB false) (acy Z Z) Z) ?_;refine AF.two (i:=1) (j:=10) x_37 ?_ ?_
 ·refine d9.rd (i:=1) (x:=qa) rfl (sC rfl eZ rfl rfl rfl rfl) rfl rfl x_3 ?_;refine bn 10 Z (zB 2002 eu ew Z) (.inl Z)<|bn 11 Z (zB 2003 cA cB Z) (.inl Z)<|vq 12 (oA Z)<|fD<|gT<|aR ?_;refine ax ?_ ⟨rfl,rfl,rfl,rfl,trivial⟩;refine congrArg (fun b=>some (AV.au [.agg [int (de es).now.tick,int (de es).now.next,int (de es).now.aA,.own 1,.own 2,.own 3],.agg [int (d5 es).1.last,.own 61],aD b])) ?_;unfold eL;rw[show eK _=false by simpa using h2];rfl
 refine v1 10 Z (zB 2002 eu ew Z) (.inl Z)<|vq 1 (dw qa eZ Z)<|bn 11 Z (zB 2003 cA cB Z) (.inl Z)<|fT [2,3,4,32] [1,2,3,61,2002,2003,2005,2008] ?_;refine vq 12 (oA Z)<|fD<|gT<|aR ?_;refine ax ?_ ⟨rfl,rfl,rfl,rfl,trivial⟩;refine congrArg (fun b=>some (AV.au [.agg [int (de es).now.tick,int (de es).now.next,int (de es).now.aA,.own 1,.own 2,.own 3],.agg [int (d5 es).1.last,.own 61],aD b])) ?_;unfold eL;rw[show eK _=false by simpa using h2];rfl
theorem Tl.eh:∀ {k:List Nat} {b:List AO},(k.all fun i=>Nat.blt i 1000000)=true->Tl (eh .gone k b) []:=fun{k b} h=>⟨fun i=>by
 induction k generalizing b with
 |nil=>rfl
 |cons a k ih=>
  rw[List.all_cons,Bool.and_eq_true]at h;have ha:a<1000000:=Nat.le_of_ble_eq_true h.1;cases b with
  |nil=>rfl
  |cons o b=>
   show (if 1000000+i=a then o else Go.Proofs.YtflhgkmhmcfimaaGreat.eh .gone k b (1000000+i))=.gone;rw[if_neg x_2];exact ih h.2,dS.nil⟩
def y3(d:du):Int:=if m1 d≠0 then m1 d else if eL (f8 d)=true then 0 else 3
abbrev acj:mm:=⟨⟨⟨[],[]⟩,0,0⟩,⟨0,0,0,[],[],[]⟩,⟨0,[]⟩,[],[]⟩
def e6(d:du):mm:=if y3 d=0 then ⟨m4 d,(de (f8 d)).now,(d5 (f8 d)).1,[],[]⟩else acj
theorem adH{d:du}(h:m1 d≠0):y3 d=m1 d:=if_pos h
theorem adI{d:du}(h:m1 d=0)(h2:eL (f8 d)=false):y3 d=3:=by unfold y3;rw[if_neg x_137,if_neg (by simp[h2])]
theorem adJ{d:du}(h:m1 d=0)(h2:eL (f8 d)=true):y3 d=0:=by unfold y3;rw[if_neg x_137,if_pos h2]
theorem acJ{d:du}(h:y3 d≠0):e6 d=acj:=if_neg h
theorem ac5{d:du}(h:y3 d=0):e6 d=⟨m4 d,(de (f8 d)).now,(d5 (f8 d)).1,[],[]⟩:=if_pos h
abbrev ack(h:mm):AV:=.agg [.own 1,.own 2,int h.log.next,int h.log.dP,int h.book.tick,int h.book.next,int h.book.aA,.own 3,.own 4,.own 5,int h.ia.last,.own 6,.own 7,.own 8]
abbrev obH(vs us:List Value)(h:mm):List (Nat×AO):=[(1,.ai 195 1 (oR vs)),(2,.ai 192 2 (lW us h.log.bT.bu)),(3,.ai 159 7 (ah aX h.book.ag)),(4,.ai 218 7 (ah go h.book.an)),(5,.ai 220 5 (ah iX h.book.aq)),(6,.ai 167 3 (ah ct h.ia.lines)),(7,.ai 81 7 (ah fR h.wait)),(8,.ai 81 7 (ah fR h.f9))]
def acK(d:du):AV->List (Nat×AO)->List AO->Prop:=fun y l1 F1=>∃vs us:List Value,vs.length=(e6 d).log.bT.cells.length/\us.length=(e6 d).log.bT.bu.length/\y=.au [ack (e6 d),int (y3 d)]/\l1=obH vs us (e6 d)/\F1=sY vs us (e6 d).log.bT
theorem ae9(d:du):(m4 d).bT.cells.length+(m4 d).bT.bu.length<=10000000:=by
 by_cases h:m1 d=0
 ·have hd:ik d=true:=by
   cases hh:ik d
   ·exact absurd h (by rw[lg1 (.inl hh)];decide)
   rfl
  have yz:d.bu.length=0:=Decidable.byContradiction fun q=>absurd h (by rw[lg1 (.inr q)];decide);have hn:¬((dH d).length=d.cells.length\/16000000<=m2 d):=fun q=>absurd h (by rw[lg2 hd yz q];decide);have hle:=acD hd;have gR:=(wL hd).1;have eI:(dH d).length<d.cells.length:=by omega
  have hBl:(oq ⟨(dH d).length,m2 d+1,[66]⟩).length=128:=TB x_8;rw[acE h];show (abM _).cells.length+(abM _).bu.length<=_;rw[acu (ab7 hd eI x_2 hBl),abW];show d.cells.length+0<=_;omega
 rw[abU h];decide
theorem adK(d:du)(hb:qK d):GN prog 29 [mt d] [] ([]) (acK d):=by
 refine GN.intro (rs:=[.cell 2 56 (some 14),.tmp 3]) func29 rfl ntmps29 x_8 ⟨rfl,rfl,EZ,rfl,trivial⟩ rfl ?_;intro L O w0;refine sL<|ab (zX 2001 Z) Z<|ab (zA 2002 Ig Z) Z<|ao Z<|nA<|aP nq mE Z ?_;refine A1 (A2 (F:=[]) [(1,1),(2,2),(3,33)] [1,2,33] [] ([]).length func85 (aeH d hb) ki List.drop_length List.take_length (Nat.le_refl _) (x_19) (fun _ _ _ _=>trivial) rfl rfl) rfl ?_;rintro _ _ ⟨xz1,oz1,Fz1,fa,hF1,hM1,rfl,rfl⟩;obtain⟨vs,us,gl,NS,rfl,rfl,rfl⟩:=fa;have E7:dS ([]++sY vs us (m4 d).bT):=dS.gJ x_32 hF1;refine cT (.au [qb,.own _,c6]) Z<|iB qb Z<|qT Z<|dE Z<|ab (zA 2004 Nx Z) Z<|ab (zB 2004 Nv Nw Z) Z<|bD Z<|ao Z<|Y<|aS<|sL<|ae Z<|ak Z<|Y<|cE rfl ?_ ?_
 ·intro V;refine sL<|lq (rd (x:=.agg [vV _,vV _,c6,c6,c6,c6,c6,vV _,vV _,vV _,c6,vV _,vV _,vV _]) (cP Z acf Z Z Z) Z)<|ae Z<|ab (zB 2002 NA NB Z) Z ?_;refine xH (([]++sY vs us (m4 d).bT)) [2,3,4,5,19] [1,2,33,2001,2002,2004] ?_;refine ao Z<|Y<|aT [2,3] [2002] ?_;refine mi [] [2,3] [2002] (hT:=Tl.eh rfl) ?_;refine AW.pi 1 2002 0 195 1 rfl x_3 rfl ?_;refine AW.pi 2 2002 1 192 2 rfl x_3 rfl ?_;refine AW.pi 3 2002 7 159 7 rfl x_3 rfl ?_;refine AW.pi 4 2002 8 218 7 rfl x_3 rfl ?_;refine AW.pi 5 2002 9 220 5 rfl x_3 rfl ?_;refine AW.pi 6 2002 11 167 3 rfl x_3 rfl ?_;refine AW.pi 7 2002 12 81 7 rfl x_3 rfl ?_;refine AW.pi 8 2002 13 81 7 rfl x_3 rfl ?_;refine aR<|rT ?_;have hc:y3 d=m1 d:=adH (by have h:=V;simpa using h);have bO:y3 d≠0:=by rw[hc];have h:=V;simpa using h
  unfold acK;rw[hc,acJ bO];refine vW (F1:=[]) (.au [ack acj,int (m1 d)]) (obH [] [] acj) ?_ x_3 rfl rfl ⟨rfl,rfl,rfl,rfl,rfl,rfl,rfl,rfl,trivial⟩ ki;exact⟨[],[],rfl,rfl,rfl,rfl,rfl⟩
 intro V;refine aK<|gT<|aS ?_;have cQ:m1 d=0:=by have h:=V;simpa using h
 have hle:=Ka d;refine AW.obj 33 (uT (f8 d)) (congrArg uT (acG cQ)) ?_;refine aL<|bW Z ?_;refine AL.freeze 33 rfl ?_;refine ab (zC [(1,3),(2,4),(3,5),(61,6)] [3,4,5,6] [] func86 (ae8 (f8 d) (Dp d) x_2) (trivial) rfl rfl) Z<|cT (.au [jG,qa,fy]) Z<|iB jG Z<|iB qa Z<|eU Z<|ab (zA 2007 mD rfl) Z<|ab (zA 2008 ld rfl) Z<|ab (zB 2007 eu ew rfl) Z<|ab (zB 2008 cA cB rfl) Z<|bv Z<|Y<|aS<|sL<|aQ Z<|bX Z<|Y<|cE rfl ?_ ?_
 ·intro h2;refine sL<|lq (rd (x:=.agg [vV _,vV _,c6,c6,c6,c6,c6,vV _,vV _,vV _,c6,vV _,vV _,vV _]) (cP Z acf Z Z Z) Z)<|ab (zB 2002 NA NB Z) Z ?_;refine xH (([]++sY vs us (m4 d).bT)) [2,3,4,7,8] [1,2,3,4,5,6,2001,2002,2004,2007,2008] ?_;refine ao Z<|Y<|aT [2,3] [2002] ?_;refine mi [] [2,3] [2002] (hT:=Tl.eh rfl) ?_;refine AW.pi 1 2002 0 195 1 rfl x_3 rfl ?_;refine AW.pi 2 2002 1 192 2 rfl x_3 rfl ?_;refine AW.pi 3 2002 7 159 7 rfl x_3 rfl ?_;refine AW.pi 4 2002 8 218 7 rfl x_3 rfl ?_;refine AW.pi 5 2002 9 220 5 rfl x_3 rfl ?_;refine AW.pi 6 2002 11 167 3 rfl x_3 rfl ?_;refine AW.pi 7 2002 12 81 7 rfl x_3 rfl ?_;refine AW.pi 8 2002 13 81 7 rfl x_3 rfl ?_;refine aR<|rT ?_;have hc:y3 d=3:=adI cQ x_67;have bO:y3 d≠0:=by omega
  unfold acK;rw[hc,acJ bO];refine vW (F1:=[]) (.au [ack acj,int (3)]) (obH [] [] acj) ?_ x_3 rfl rfl ⟨rfl,rfl,rfl,rfl,rfl,rfl,rfl,rfl,trivial⟩ ki;exact⟨[],[],rfl,rfl,rfl,rfl,rfl⟩
 intro h2;refine aK<|gA<|aP qb EY Z<|aP jG cu Z<|aP qa eZ Z<|lq (rd (x:=.agg [.own _,.own _,c6,c6,c6,c6,c6,.own _,.own _,.own _,c6,.own _,vV _,vV _]) (cP Z acf Z Z Z) Z)<|ab (zB 2002 NA NB Z) Z<|ao Z<|Y ?_;refine AW.pi 7 2002 12 81 7 rfl x_3 rfl ?_;refine AW.pi 8 2002 13 81 7 rfl x_3 rfl ?_;refine aR ?_;have hc:y3 d=0:=adJ cQ x_67;have abu:dS (sY vs us (m4 d).bT):=TJ;unfold acK;rw[hc,ac5 hc];refine vW (F1:=(sY vs us (m4 d).bT)) (.au [ack ⟨m4 d,(de (f8 d)).now,(d5 (f8 d)).1,[],[]⟩,int 0]) (obH vs us ⟨m4 d,(de (f8 d)).now,(d5 (f8 d)).1,[],[]⟩) ?_ (by rw[SD gl NS];exact ae9 d) rfl rfl ⟨rfl,rfl,rfl,rfl,rfl,rfl,rfl,rfl,trivial⟩ ki;exact⟨vs,us,gl,NS,rfl,rfl,rfl⟩

abbrev y5:AV:=.p (.v (.slice none 0 0))

def LnB(x:aw)(r:WR):Prop:=r.b.an.length<=x.an.length+1/\r.b.aq.length<=x.aq.length+1
theorem LnB.ite{x:aw}{p:Prop}[Decidable p]{a b:WR}(V:LnB x a)(h2:LnB x b):LnB x (if p then a else b):=by split<;>assumption
theorem afq(x:aw)(e:aV):LnB x (bz x e):=by
 have F1:∀k,(jS x.an k).length<=x.an.length+1:=fun k=>Nat.le_trans (List.length_filter_le _ _) (Nat.le_succ _);have ac7:∀k,(jA x.aq k).length<=x.aq.length+1:=fun k=>Nat.le_trans (List.length_filter_le _ _) (Nat.le_succ _);have hs:LnB x (mR x e):=by
  unfold mR;split
  ·exact LnB.ite ⟨F1 _,Nat.le_succ _⟩ ⟨F1 _,Nat.le_succ _⟩
  exact⟨Nat.le_succ _,Nat.le_succ _⟩
 have hl:LnB x (nm x e):=by
  unfold nm;split
  ·exact LnB.ite ⟨Nat.le_succ _,ac7 _⟩ ⟨Nat.le_succ _,ac7 _⟩
  exact⟨Nat.le_succ _,Nat.le_succ _⟩
 have h0:∀b l c,b.an=x.an->b.aq=x.aq->LnB x ⟨b,l,c⟩:=fun b l c e1 e2=>⟨by rw[e1];exact Nat.le_succ _,by rw[e2];exact Nat.le_succ _⟩;exact .ite (h0 _ _ _ rfl rfl) (.ite (.ite (h0 _ _ _ rfl rfl) (h0 _ _ _ rfl rfl)) (.ite (.ite (h0 _ _ _ rfl rfl) (h0 _ _ _ rfl rfl)) (.ite (.ite (h0 _ _ _ rfl rfl) (h0 _ _ _ rfl rfl)) (.ite (.ite ⟨by simp[mI],Nat.le_succ _⟩ (h0 _ _ _ rfl rfl)) (.ite hs (.ite ⟨by simp[p'],Nat.le_succ _⟩ (.ite (.ite ⟨Nat.le_succ _,by simp[oH]⟩ (h0 _ _ _ rfl rfl)) hl)))))))
theorem afr{x:aw}{e:aV}:(dp x e).an.length<=61/\(dp x e).aq.length<=21:=by
 by_cases h:dG x e=0
 ·have hb:eG x=true:=by
   cases q:eG x
   ·rw[FF (by rw[q];rfl)]at h;cases h
   rfl
  have sm:=(CT hb).sm;have V:=sm.lh;have h2:=sm.li;have hw:=afq x e;unfold LnB at hw;unfold dp;rw[if_pos h];split
  ·omega
  show (bz x e).b.an.length<=61/\(bz x e).b.aq.length<=21;omega
 rw[(Oj h).1];exact⟨by simp[rg],by simp[rg]⟩
theorem adQ{es:List aV}:∀k,k<=es.length->(bK pm (es.take k)).now.an.length<=61/\(bK pm (es.take k)).now.aq.length<=21
 |0,_=>by rw[List.take_zero];decide
 |k+1,h=>by
  rw[fl x_2];by_cases hc:dG (bK pm (es.take k)).now es[k]=0
  ·rw[Fk hc];exact afr
  rw[Ol hc];exact adQ k x_2
theorem adR(d:du):E9 (e6 d):=by
 by_cases hc:y3 d=0
 ·rw[ac5 hc];have hB:=Dr (Dp d);have hn:(de (f8 d))=bK pm (f8 d):=OO QB;have hl:=adQ (es:=f8 d) _ (Nat.le_refl _);rw[List.take_length,<-hn]at hl;exact⟨aeq d,hB.wf.len,by show (de (f8 d)).now.an.length<=_;omega,by show (de (f8 d)).now.aq.length<=_;omega,by have:=hB.ll;show (d5 (f8 d)).1.lines.length<=_;omega,by simp,by simp⟩
 rw[acJ hc];exact⟨adq,by simp,by simp,by simp,by simp,by simp,by simp⟩
theorem acp{H:Nat->AO}{id:Nat}{t:TypeId}{pt:Option Value}{sz:Nat}{rows:List (List PV)}(hH:H id=.ai ⟨t,pt⟩ sz rows):Reads H (.own id) (.p (.ab t sz rows)):=Reads.jB (by simp[jB,hH])
theorem afw(d:du)(hb:qK d):GC prog 29 [mt d] [] (.au [Bu (e6 d),int (y3 d)]) []:=
 (GX.frozen (Z:=fun y=>y=.au [Bu (e6 d),int (y3 d)]) (show GX prog _ _ [] _ from adK d hb) fun x ob ⟨l1,F1,hs,hF,hM,e,⟨vs,us,hv,hu,e1,e2,e3⟩⟩=>by
   subst e e1 e2 e3;refine⟨.au [Bu (e6 d),int (y3 d)],?_,rfl⟩;have hT:Tl (bx (obH vs us (e6 d)++je 1000000 (sY vs us (e6 d).log.bT))) (sY vs us (e6 d).log.bT):=by rw[Gm rfl];exact Tl.tl hF
   have l1:(fY vs (l9 (e6 d).log.bT.cells)).length=(e6 d).log.bT.cells.length:=by rw[Aa (by simpa using hv),List.length_map]
   have R:∀(i:Nat) (t:TypeId) (sz:Nat) (rows:List (List PV)),bx (obH vs us (e6 d)++je 1000000 (sY vs us (e6 d).log.bT)) i=.ai ⟨t,none⟩ sz rows->Still (bx (obH vs us (e6 d)++je 1000000 (sY vs us (e6 d).log.bT))) (.own i) (.p (.ab t sz rows)):=fun i t sz rows h=>Still.row (e:=⟨t,none⟩) h;exact Still.au (.cons (Still.agg (.cons (Still.own (id:=1) (e:=⟨195,none⟩) (sz:=1) (rows:=oR vs) rfl (SF hT hv (s:=0) fun i hi=>by unfold sY;rw[Nat.zero_add,List.getElem?_append_left x_2]))
    (.cons (Still.own (id:=2) (e:=⟨192,none⟩) (sz:=2) (rows:=lW us (e6 d).log.bT.bu) rfl (SG hT hu (s:=(e6 d).log.bT.cells.length) fun i hi=>by unfold sY;rw[List.getElem?_append_right x_2];congr 1;omega)) (.cons (Still.p _) (.cons (Still.p _) (.cons (Still.p _) (.cons (Still.p _) (.cons (Still.p _) (.cons (R 3 _ _ _ rfl) (.cons (R 4 _ _ _ rfl) (.cons (R 5 _ _ _ rfl) (.cons (Still.p _) (.cons (R 6 _ _ _ rfl) (.cons (R 7 _ _ _ rfl) (.cons (R 8 _ _ _ rfl) .nil))))))))))))))) (.cons (Still.p _) .nil))).mono fun y o ⟨e1,e2⟩=>⟨e2,e1⟩

abbrev afW(x:aw):AV:=.agg [int x.tick,int x.next,int x.aA,.own 1,.own 2,.own 3]
def afL(h:mm):mm:=if zV h=true then ⟨afM h.log,h.book,h.ia,[],h.f9++h.wait⟩else acj
theorem afX{h:mm}(q:zV h=false):afL h=acj:=if_neg (by simp[q])
theorem afY{h:mm}(q:zV h=true):afL h=⟨afM h.log,h.book,h.ia,[],h.f9++h.wait⟩:=if_pos q

theorem agl{H:Nat->AO}{x:aw}{a b c:Nat}(V:H a=.ai 159 7 (ah aX x.ag))(h2:H b=df x.an)(h3:H c=d7 x.aq):Still H (.agg [int x.tick,int x.next,int x.aA,.own a,.own b,.own c]) (cj x):=
 Still.agg (.cons (Still.p _) (.cons (Still.p _) (.cons (Still.p _) (.cons (Still.row (e:=⟨159,none⟩) (sz:=7) V) (.cons (Still.row (e:=⟨218,none⟩) (sz:=7) h2) (.cons (Still.row (e:=⟨220,none⟩) (sz:=5) h3) .nil))))))
theorem agm(x:aw)(hc:x.ag.length<=1048576)(hh:x.an.length<=1048576)(hi:x.aq.length<=1048576):GC prog 132 [cj x] [] (afW x) (Jz x):=by
 refine GC.intro (rs:=[.cell 2 50 (some 6)]) func132 rfl ntmps132 x_8 ⟨rfl,rfl,cu,trivial⟩ ?_;intro L O w0;refine sL<|ab (zX 2001 rfl) Z<|ab (zA 2002 mD rfl) Z<|nA<|ab (zS 1 [] cz dy rfl x_19) Z<|lf 3 dr Z<|bo eg Z<|ab (zP 1 cz dy jL rfl (Src.p rfl)) Z<|lf 3 dr Z<|ab (zB 2001 sM sN rfl) Z<|nA<|ab (zS 2 [] f7 iu rfl x_19) Z<|lf 4 eF Z<|bo fS Z<|ab (zP 2 f7 iu sQ rfl (Src.p rfl)) Z<|lf 4 eF Z<|ab (zB 2001 tQ tR rfl) Z<|lT [1,2] [1,2,2001,2002] ?_;refine nA<|ab (zS 3 [] iI jO rfl x_19) Z<|lf 5 gn Z<|bo ii Z<|ab (zP 3 iI jO wI rfl (Src.p rfl)) Z<|lf 5 gn Z<|ab (zB 2001 yh yk rfl) Z<|nA<|aP jG cu Z<|ab (zB 2002 eu ew rfl) Z<|Y<|aR ?_;refine ax ?_ ⟨rfl,rfl,rfl,trivial⟩;rfl
theorem agn(x:aw)(hc:x.ag.length<=1048576)(hh:x.an.length<=1048576)(hi:x.aq.length<=1048576):GC prog 132 [cj x] [] (cj x) []:=
 (GX.frozen (Z:=fun y=>y=cj x) (agm x hc hh hi) fun y ob ⟨e1,e2⟩=>by
   subst e1 e2;exact⟨_,agl (a:=1) (b:=2) (c:=3) rfl rfl rfl,rfl⟩).mono fun y o ⟨e1,e2⟩=>⟨e2,e1⟩
abbrev ago(h:mm):AV:=.agg [.p (.ab 195 1 (oS h.log.bT.cells)),.p (.ab 192 2 (oT h.log.bT.bu)),int h.log.next,int h.log.dP,int h.book.tick,int h.book.next,int h.book.aA,.p (.ab 159 7 (ah aX h.book.ag)),.p (.ab 218 7 (ah go h.book.an)),.p (.ab 220 5 (ah iX h.book.aq)),int h.ia.last,.own 6,.own 7,.own 8]
abbrev agp(h:mm):List (Nat×AO):=[(6,dc h.ia.lines),(7,uT h.wait),(8,uT h.f9)]
theorem agq(h:mm)(hz:E9 h)(hs:DkS h.log.bT):GC prog 49 [Bu h] [] (ago h) (agp h):=by
 refine GC.intro (rs:=[.cell 2 56 (some 14)]) func49 rfl ntmps49 x_8 ⟨rfl,rfl,EZ,trivial⟩ ?_;intro L O w0;refine sL<|ab (zX 2001 Z) Z<|ab (zA 2002 Ig Z) Z<|nA<|lf 0 qL Z<|lf 0 Bv Z<|aP nq mE Z<|ab (zC [] [] [] func131 ((adz h.log.bT hs).bT) (trivial) Z Z) Z<|lf 0 qL Z<|lf 0 Bv Z<|ab (zB 2001 Dv Dw Z) Z<|nA<|lf 4 Bw Z<|aP h1 cu Z<|ab (zC [] [] [] func132 (agn h.book hz.lc hz.lh hz.li) (trivial) Z Z) Z<|lf 4 Bw Z<|ab (zB 2001 eu ew Z) Z<|lT [1,2] [2001,2002] ?_;refine Y<|aS ?_;have rl:=hz.ll;have hlw:=hz.lw;have T7:=hz.ls;refine aL<|ab (zS 6 [] cV eP rfl x_19) Z<|lf 10 Bx Z<|lf 11 jY Z<|bo gY Z<|ab (zP 6 cV eP lE rfl (Src.p rfl)) Z<|lf 10 Bx Z<|lf 11 jY Z<|ab (zB 2001 z8 z' rfl) Z<|nA<|ab (zS 7 [] jk jl rfl x_19) Z<|lf 12 Bz Z<|bo tE Z<|ab (zP 7 jk jl sD rfl (Src.p rfl)) Z<|lf 12 Bz Z<|ab (zB 2001 Ny Nz rfl) Z<|lT [1,2] [6,7,2001,2002] ?_;refine nA<|ab (zS 8 [] jk jl rfl x_19) Z<|lf 13 By Z<|bo tE Z<|ab (zP 8 jk jl sD rfl (Src.p rfl)) Z<|lf 13 By Z<|ab (zB 2001 Ny Nz rfl) Z<|nA<|aP (.agg [c7,c7,c6,c6,c6,c6,c6,c7,c7,c7,c6,.own _,.own _,.own _]) EZ Z<|ab (zB 2002 NA NB rfl) Z<|Y<|aR ?_;refine ax ?_ ⟨rfl,rfl,rfl,trivial⟩;rfl
theorem af4{h:mm}(q:zV h=true):ik h.log.bT=true:=by
 unfold zV at q;simp only[Bool.and_eq_true]at q;simp_all

theorem ajO(u:Value)(d:du)(hs:DkS d):GC prog 131 [.agg [.own 31,.p (.ab 192 2 (oT d.bu))]] [(31,.ai ⟨195,some u⟩ 1 (oS d.cells))] (Gn) (SH d++[(31,.ai ⟨195,some u⟩ 1 (oS d.cells))]):=by
 refine GC.intro (rs:=[.cell 2 43 (some 2)]) func131 rfl ntmps131 x_8 x_80 ?_;intro L O w0;refine sL<|ab (zX 2001 Z) Z<|ab (zA 2002 Du Z) Z<|nA<|lq (rd (x:=.agg [vV _,vV _]) (cP Z adU Z Z Z) Z)<|ab (zA 2003 Du Z) Z<|ab (zB 2003 Dv Dw Z) Z<|Y<|aS<|aS ?_;refine AW.pi 1 2003 0 195 1 rfl x_3 rfl ?_;refine AW.pi 2 2003 1 192 2 rfl x_3 rfl ?_;refine aL<|lf 0 n9 Z<|iO oB Z<|ba po Z ?_;refine dC 11 (int (d.cells.length:Int)) (congrArg (fun n:Nat=>int (n:Int)) (fU _)) ?_;refine ae Z<|Y<|aB ?_;refine aW [1,2,3,10,11] [2,31,2001,2002,2003] (D:=Nat) (fun a=>[(12,int (a:Int))]) (fun a=>[(1,.ai 195 1 (oS (d.cells.take a)))]) (fun a=>a<=d.cells.length) (fun a=>d.cells.length-a) (0) (Nat.zero_le _) ⟨rfl,trivial⟩ ⟨rfl,trivial⟩ ?_;intro k hI;have eN:k<=d.cells.length:=hI;refine sL<|ak Z<|Y<|aS<|cE rfl ?_ ?_
 ·intro V;refine aK<|gT<|aS<|aB<|aS ?_;have hk:k<d.cells.length:=by have h:=V;simp only[decide_eq_true_eq]at h;omega
  have oF:=hs.lc;refine aL<|lq (rj k xE rfl (by rw[fU];exact hk))<|lq (rd (x:=qN) (dT rfl zn rfl rfl rfl (vw hk) rfl) rfl)<|ab (zA 2005 CB rfl) Z<|ab (zB 2005 E2 E3 rfl) Z<|lT [1,2,3,5,10,11,12] [1,2,31,2001,2002,2003,2005] ?_;refine Y<|aG 10 [1,2018]<|tq 0 (rf 0 n9 rfl)<|tq 1 (gC oB rfl)<|tq 3 (rf 0 uB rfl)<|tq 4 (jj kb rfl)<|cm 2 rfl (zS 2018 (ah dF []) fh ie rfl x_106)<|cm 5 rfl (zP 2018 fh ie mu rfl (Src.p rfl) (by have:=hs.bc _ (List.getElem_mem hk);simp[ah];omega)) ?_;refine AG.freeze 2018 rfl ?_;refine yq 6 (rd (x:=qN) (cP rfl acN rfl rfl rfl) rfl)<|cm 7 rfl (zS 2023 [[nQ d.cells[k].bytes]] xE CB rfl x_55)<|cm 8 rfl (zP 1 xE CB VT rfl x_18 x_92)<|yq 9 (rf 0 n9 rfl)<|yl rfl (zB 2003 VF VG rfl)<|gB<|gT<|aL<|bg Z<|ae Z<|Y ?_;refine⟨(k+1),hk,by show d.cells.length-(k+1)<d.cells.length-k;omega,x_11,⟨(congrArg (AO.ai 195 1) (aeM hk)),trivial⟩,rfl,rfl⟩
 intro V;refine aE<|eT<|eT<|eB<|gT<|aS<|aS ?_;have dZ:k=d.cells.length:=by have h:=V;simp only[decide_eq_false_iff_not]at h;omega
 subst dZ;rw[List.take_length];refine aL<|lf 1 ru Z<|bo sk Z<|ba vT Z ?_;refine dC 29 (int (d.bu.length:Int)) (congrArg (fun n:Nat=>int (n:Int)) (pH _)) ?_;refine ae Z<|Y<|aB ?_;refine aW [2,3,28,29] [1,31,2001,2002,2003] (D:=Nat) (fun a=>[(30,int (a:Int))]) (fun a=>[(2,.ai 192 2 (oT (d.bu.take a)))]) (fun a=>a<=d.bu.length) (fun a=>d.bu.length-a) (0) (Nat.zero_le _) ⟨rfl,trivial⟩ ⟨rfl,trivial⟩ ?_;intro j hI;have ro:j<=d.bu.length:=hI;refine sL<|ak Z<|Y<|aS<|cE rfl ?_ ?_
 ·intro h2;refine aK<|gT<|aS<|aB<|aS ?_;have hj:j<d.bu.length:=by have h:=h2;simp only[decide_eq_true_eq]at h;omega
  have hlw:=hs.lw;refine aL<|li j uz Z (td hj)<|d6 kj AY Z<|ab (zA 2007 CA Z) Z<|lT [2,3,7,28,29,30,33] [1,2,31,2001,2002,2003,2007] ?_;refine ab (zB 2007 E0 E1 rfl) Z<|Y<|aG 12 [2,2038]<|tq 0 (rf 1 ru rfl)<|tq 1 (gC sk rfl)<|tq 2 (rf 0 xG rfl)<|tq 3 (aZ ac rfl)<|tq 5 (rf 1 zm rfl)<|tq 6 (jj kb rfl)<|cm 4 rfl (zS 2038 (ah dF []) fh ie rfl x_106)<|cm 7 rfl (zP 2038 fh ie mu rfl (Src.p rfl) (by have:=hs.bw _ (List.getElem_mem hj);simp[ah];omega)) ?_;refine AG.freeze 2038 rfl ?_;refine yq 8 (rd (x:=kj) (cP rfl acq rfl rfl rfl) rfl)<|cm 9 rfl (zS 2043 [[.v (.int .i64 d.bu[j].at_),nQ d.bu[j].bytes]] uz CA rfl x_55)<|cm 10 rfl (zP 2 uz CA VS rfl x_18 x_92)<|yq 11 (rf 1 ru rfl)<|yl rfl (zB 2003 VH VI rfl)<|gB<|gT<|aL<|bg Z<|ae Z<|Y ?_;refine⟨(j+1),hj,by show d.bu.length-(j+1)<d.bu.length-j;omega,x_11,⟨(congrArg (AO.ai 192 2) (adr hj)),trivial⟩,rfl,rfl⟩
 intro h2;refine aE<|eT<|eT<|eB<|gT<|aS ?_;have Ji:j=d.bu.length:=by have h:=h2;simp only[decide_eq_false_iff_not]at h;omega
 subst Ji;rw[List.take_length];refine aL<|aP qm mE Z<|ab (zB 2002 Dv Dw Z) Z<|lT [2] [1,2,31,2001,2002,2003] ?_;refine Y<|aR ?_;refine ax ?_ ⟨rfl,rfl,rfl,trivial⟩;rfl
theorem ajP(u:Value)(d:du)(vA:List Int)(hd:ik d=true):GC prog 71 [.agg [.own 31,.p (.ab 192 2 (oT d.bu))],inV vA] [(31,.ai ⟨195,some u⟩ 1 (oS d.cells))] (Gn) (SH (acU d vA)++[(31,.ai ⟨195,some u⟩ 1 (oS d.cells))]):=by
 refine GC.intro (rs:=[.cell 4 43 (some 2)]) func71 rfl ntmps71 x_8 x_80 ?_;intro L O w0;refine sL<|ab (zX 2002 Z) Z<|ab (zA 2004 Du Z) Z<|Y<|aS<|aS ?_;have gR:=(wL hd).1;refine aL<|aP rm mE Z<|ab (zL func87 (FU d) Z) Z<|bJ 12 true Z (hd)<|ma Z<|Y<|aN Z<|aK<|gA<|aP rm mE Z ?_;refine ab (zC [(1,1),(2,2),(31,31)] [1,2] [31] func131 (ajO u d (acF hd)) x_115 rfl rfl) Z<|ab (zA 2005 Du rfl) Z<|ab (zB 2005 Dv Dw rfl) Z<|nA<|lf 1 ru Z<|ab (zB 2005 VH VI rfl) Z<|Y<|aS<|sL<|lf 1 ru Z<|bo sk Z<|ba vT rfl ?_;refine dC 20 (int (d.bu.length:Int)) (congrArg (fun n:Nat=>int (n:Int)) (pH _)) ?_;refine ae Z<|Y<|aB ?_;refine aW [1,4,5,19,20] [31,2002,2004,2005] (D:=Nat×List Cell) (fun a=>[(21,int (a.1:Int))]) (fun a=>[(1,.ai 195 1 (oS a.2))]) (fun a=>a.1<=d.bu.length/\a.2.length=d.cells.length/\a.2.all lL=true/\abP vA (d.bu.drop a.1) a.1 a.2=abP vA d.bu 0 d.cells) (fun a=>d.bu.length-a.1) ((0,d.cells)) (⟨Nat.zero_le _,rfl,(wL hd).2.1,rfl⟩) ⟨rfl,trivial⟩ ⟨rfl,trivial⟩ ?_;intro ⟨k,cs⟩ hI;obtain⟨eN,qH,hco,pJ⟩:=hI;replace eN:k<=d.bu.length:=eN;replace qH:cs.length=d.cells.length:=qH;replace hco:cs.all lL=true:=hco;replace pJ:abP vA (d.bu.drop k) k cs=abP vA d.bu 0 d.cells:=pJ;refine sL<|ak Z<|Y<|aS<|cE rfl ?_ ?_
 ·intro V;refine aK<|gT<|aS<|aB<|aS ?_;have hk:k<d.bu.length:=by have h:=V;simp only[decide_eq_true_eq]at h;omega
  have MQ:=acW hd hk;have abV:d.bu[k].at_.toNat<cs.length:=by omega
  refine aL<|ae Z<|li k uz Z (td hk)<|d6 kj AY Z<|ab (zA 2007 CA Z) Z<|lT [1,4,5,7,19,20,21,23,25] [1,31,2002,2004,2005,2007] ?_;refine ao Z<|ab (zB 2007 E0 E1 Z) Z<|nA<|ao Z<|Y ?_;refine aJ [1,4,5,7,19,20,21] [1,31,2002,2004,2005,2007] (D:=Unit) (fun jd=>[(8,int ((vA[k]?).getD 0))]) (fun jd=>[]) (fun jd=>True) ?_ ?_
  ·refine sL<|ae Z<|bm Z<|ba x4 Z<|ak Z<|Y<|cE rfl ?_ ?_
   ·intro h2;have uG:k<vA.length:=by have h:=h2;simp only[ap,decide_eq_true_eq]at h;omega
    refine aL<|bm Z<|ae Z<|li k iU Z (bS uG)<|oy ac Z<|ao Z<|Y ?_;refine⟨(),trivial,⟨(Eq.trans (b:=int _) rfl (congrArg int (show vA[k]=((vA[k]?).getD 0) by rw[List.getElem?_eq_getElem uG];rfl))),trivial⟩,trivial,rfl,rfl⟩
   intro h2;refine aK<|gT ?_;refine⟨(),trivial,⟨(Eq.trans (b:=int _) rfl (congrArg int (show (0:Int)=((vA[k]?).getD 0) by rw[List.getElem?_eq_none x_133];rfl))),trivial⟩,trivial,rfl,rfl⟩
  intro jd hJ;refine aS<|sL<|ae Z<|ak Z<|Y<|cE rfl ?_ ?_
  ·intro h3;refine aE<|eT<|eB<|gT ?_;have acH:((vA[k]?).getD 0)<1:=by have h:=h3;simpa using h
   refine aL<|bg Z<|ae Z<|Y ?_;refine⟨(k+1,cs),⟨hk,qH,hco,by rw[<-pJ,acZ hk,aeQ acH]⟩,by show d.bu.length-(k+1)<d.bu.length-k;omega,x_11,⟨rfl,trivial⟩,rfl,rfl⟩
  intro h3;refine aK<|gT<|aS ?_;have acH:¬((vA[k]?).getD 0)<1:=by have h:=h3;simpa using h
  have TP:=adA (ac2 hco abV);refine aL<|lf 0 n9 Z<|iO oB Z<|lf 0 xG Z<|aj ac Z<|lq (rd (x:=.ptr 1 _ 0) (pu (i:=d.bu[k].at_.toNat) rfl xE rfl rfl rfl ?hn1 (by rw[fU];exact abV)) rfl) ?_;case hn1=>exact(Int.toNat_of_nonneg MQ.1).symm
  refine lf 0 uB Z<|lq (rd (x:=c7) (dT rfl kb rfl rfl rfl (vw abV) rfl) rfl)<|ab (zC [(1,2043)] [2043] [] func154 (Zy cs[d.bu[k].at_.toNat].bytes (Nat.le_trans (aeV (ac2 hco abV)) x_3)) (trivial) rfl rfl) Z<|bD Z<|Y<|aS<|sL<|ao Z<|Y<|aB ?_;refine aW [1,4,5,7,8,9,19,20,21] [1,31,2002,2004,2005,2007] (D:=Nat) (fun b=>[(10,int (b:Int))]) (fun b=>[(2043,iT (abL cs[d.bu[k].at_.toNat].bytes d.bu[k].bytes b))]) (fun b=>b<=128/\(b:Int)<=((vA[k]?).getD 0)) (fun b=>128-b) (0) (⟨Nat.zero_le _,by omega⟩) ⟨rfl,trivial⟩ ⟨(Eq.trans (b:=iT (yP cs[d.bu[k].at_.toNat].bytes)) rfl (congrArg iT aeS.symm)),trivial⟩ ?_;intro m hI;obtain⟨hm1,hm2⟩:=hI;replace hm1:m<=128:=hm1;replace hm2:(m:Int)<=((vA[k]?).getD 0):=hm2;refine aS<|sL<|ae Z<|ae Z<|ak Z<|aQ Z ?_;refine AL.bool (t:=47) rfl ?_ ?_
  ·intro h4;refine ae Z<|ak Z<|bj Z<|Y<|cE rfl ?_ ?_
   ·intro h5;refine aK<|gT<|aS<|aB ?_;have hm:(m:Int)<((vA[k]?).getD 0)/\m<128:=by
     have V:=h4;have h2:=h5;simp only[decide_eq_true_eq]at V h2;omega
    have vX:=Jk hd hk;have vd:=ac1 (m:=m) TP vX x_2;refine aL<|bW Z<|ae Z<|lf 1 zm Z<|bo kb Z<|ae Z<|li m fh rfl (bS x_2)<|oy tf Z<|lq (rj m fh rfl (by rw[ap];omega))<|ab (zQ 2043 [.v (.int .u8 (d.bu[k].bytes[m]' x_2))] Vs Vt rfl (bS x_2)) Z<|lT [1,4,5,7,8,9,10,19,20,21] [1,31,2002,2004,2005,2007,2043] ?_;refine lN<|gB<|gT<|aL<|ae Z<|bg Z<|ao Z<|Y ?_;refine⟨(m+1),x_99,by show 128-(m+1)<128-m;omega,x_11,⟨(Eq.trans (congrArg (AO.ai 5 1) aeU) (congrArg iT (aeR TP (Jk hd hk) x_2))),trivial⟩,rfl,rfl⟩
   intro h5;refine aE<|eT<|eT<|eB<|gT ?_;have ac3:((vA[k]?).getD 0)<=m\/128<=m:=by first|(have h:=h5;simp only[decide_eq_false_iff_not]at h;omega)|(have h:=h4;simp only[decide_eq_false_iff_not]at h;omega)|(have h:=h3;simp only[decide_eq_false_iff_not]at h;omega)|(have h:=V;simp only[decide_eq_false_iff_not]at h;omega)
   refine aL<|lf 0 n9 Z<|iO oB Z<|lf 0 xG Z<|aj ac Z<|bW Z<|lq (rd (x:=.ptr 1 _ 0) (pu (i:=d.bu[k].at_.toNat) rfl xE rfl rfl rfl ?hn2 (by rw[fU];exact abV)) rfl) ?_;case hn2=>exact(Int.toNat_of_nonneg MQ.1).symm
   refine lf 0 uB rfl ?_;refine AL.freeze 2043 rfl ?_;refine ab (zQ 1 [nQ (abL cs[d.bu[k].at_.toNat].bytes d.bu[k].bytes m)] Ih Ii Z (vw abV)) Z<|lN<|gB<|gT<|aL<|bg Z<|ae Z<|Y ?_;refine x_41
  intro h4;refine aa Z<|aa Z<|bL Z<|Y<|aN Z<|aE<|eT<|eT<|eB<|gT ?_;have ac3:((vA[k]?).getD 0)<=m\/128<=m:=by first|(have h:=h4;simp only[decide_eq_false_iff_not]at h;omega)|(have h:=h3;simp only[decide_eq_false_iff_not]at h;omega)|(have h:=V;simp only[decide_eq_false_iff_not]at h;omega)
  refine aL<|lf 0 n9 Z<|iO oB Z<|lf 0 xG Z<|aj ac Z<|bW Z<|lq (rd (x:=.ptr 1 _ 0) (pu (i:=d.bu[k].at_.toNat) rfl xE rfl rfl rfl ?hn3 (by rw[fU];exact abV)) rfl) ?_;case hn3=>exact(Int.toNat_of_nonneg MQ.1).symm
  refine lf 0 uB rfl ?_;refine AL.freeze 2043 rfl ?_;refine ab (zQ 1 [nQ (abL cs[d.bu[k].at_.toNat].bytes d.bu[k].bytes m)] Ih Ii Z (vw abV)) Z<|lT [1,4,5,19,20,21] [1,31,2002,2004,2005,2007] ?_;refine lN<|gB<|gT<|aL<|bg Z<|ae Z<|Y ?_;refine x_41
 intro V;refine aE<|eT<|eT<|eB<|gT<|aS ?_;have dZ:k=d.bu.length:=by have h:=V;simp only[decide_eq_false_iff_not]at h;omega
 have aeX:cs=abP vA d.bu 0 d.cells:=by rw[<-pJ,dZ,List.drop_length];rfl
 refine aT [4,5] [1,31,2002,2004,2005] ?_;refine AW.pi 2 2005 1 192 2 rfl x_3 rfl ?_;refine aL<|aP qm mE Z<|ab (zB 2004 Dv Dw Z) Z<|Y<|aR ?_;rw[adB hd,<-aeX];refine ax ?_ ⟨rfl,rfl,rfl,trivial⟩;rfl
abbrev ajQ(h:mm):AV:=.agg [.own 31,.p (.ab 192 2 (oT h.log.bT.bu)),int h.log.next,int h.log.dP,int h.book.tick,int h.book.next,int h.book.aA,.p (.ab 159 7 (ah aX h.book.ag)),.p (.ab 218 7 (ah go h.book.an)),.p (.ab 220 5 (ah iX h.book.aq)),int h.ia.last,.p (.ab 167 3 (ah ct h.ia.lines)),.own 32,.p (.ab 81 7 (ah fR h.f9))]
abbrev ai'(u v:Value)(h:mm):List (Nat×AO):=[(31,.ai ⟨195,some u⟩ 1 (oS h.log.bT.cells)),(32,.ai ⟨81,some v⟩ 7 (ah fR h.wait))]

theorem aie{α:Type}{enc:α->List Value}(he:∀a b,dA (enc a) (enc b)=true->a=b):∀ {a b:List α},lZ enc a b=true->a=b
 |[],[],_=>rfl
 |[],_::_,h=>by cases h
 |_::_,[],h=>by cases h
 |x::a,y::b,h=>by
  unfold lZ at h;rw[Bool.and_eq_true]at h;rw[he _ _ h.1,aie he h.2]
theorem aif{α:Type}{enc:α->List Value}(he:∀a,dA (enc a) (enc a)=true):∀(a:List α),lZ enc a a=true
 |[]=>rfl
 |x::a=>by unfold lZ;rw[he,aif he];rfl
theorem ajR(a b:be)(h:dA (aX a) (aX b)=true):a=b:=by
 cases a;cases b;simp[aX,dA]at h;simp[h]
theorem ajS(a b:eV)(h:dA (go a) (go b)=true):a=b:=by
 cases a;cases b;simp[go,dA]at h;simp[h]
theorem ajT(a b:gz)(h:dA (iX a) (iX b)=true):a=b:=by
 cases a;cases b;simp[iX,dA]at h;simp[h]
theorem alu(a b:aV)(h:dA (fR a) (fR b)=true):a=b:=by
 cases a;cases b;simp[fR,dA]at h;simp[h]
theorem ajU(a b:aO)(h:dA (ct a) (ct b)=true):a=b:=by
 obtain⟨⟨_,_⟩,_⟩:=a;obtain⟨⟨_,_⟩,_⟩:=b;simp[ct,dA]at h;simp[h]
theorem ajV{a b:aw}(h:kY a b=true):a=b:=by
 unfold kY at h;simp only[Bool.and_eq_true,decide_eq_true_eq]at h;obtain⟨⟨⟨⟨⟨V,h2⟩,h3⟩,h4⟩,h5⟩,h6⟩:=h;have e4:=aie ajR h4;have e5:=aie ajS h5;have afQ:=aie ajT h6;cases a;cases b;simp_all
theorem aja(a:aw):kY a a=true:=by
 unfold kY;rw[aif (fun a=>by simp[aX,dA]),aif (fun a=>by simp[go,dA]),aif (fun a=>by simp[iX,dA])];simp
theorem ajW{a b:cH}(h:qE a b=true):a=b:=by
 unfold qE at h;simp only[Bool.and_eq_true,decide_eq_true_eq]at h;have e:=aie ajU h.2;cases a;cases b;simp_all
theorem ajX(a:cH):qE a a=true:=by
 unfold qE;rw[aif (fun a=>by simp[ct,dA])];simp
structure aiE(h:mm):Prop where
 dok:ik h.log.bT=true
 nx:aI h.log.next 0 h.log.bT.cells.length=true
 ep:aI h.log.dP 1 16000000=true
 len:((dH h.log.bT).length:Int)=h.log.next
 rp:eL (f8 h.log.bT)=true
 book:h.book=(de (f8 h.log.bT)).now
 bok:eG h.book=true
 led:h.ia=(d5 (f8 h.log.bT)).1
 tail:pZ (f8 h.log.bT) (h.f9++h.wait)=true
theorem aiF{h:mm}(q:zV h=true):aiE h:=by
 unfold zV at q;simp only[Bool.and_eq_true,decide_eq_true_eq]at q;obtain⟨⟨⟨⟨⟨⟨⟨V,h2⟩,h3⟩,h4⟩,h5⟩,h6⟩,h7⟩,h8⟩:=q;unfold mC at h6;simp only[Bool.and_eq_true]at h6;exact⟨V,h2,h3,h4,h5,(ajV h6.2).symm,h6.1.2,(ajW h7).symm,h8⟩
theorem aiE.ok{h:mm}(g:aiE h):zV h=true:=by
 unfold zV;have hb:mC (de (f8 h.log.bT)).now h.book=true:=by unfold mC;rw[<-g.book,g.bok,aja];rfl
 rw[g.dok,g.nx,g.ep,decide_eq_true g.len,g.rp,hb,<-g.led,ajX,g.tail];rfl
def ahA(h:mm)(e:aV):Int:=if (dl h.book e).lines=[]then 0 else iv h.ia (dl h.book e)
def ahs(h:mm)(e:aV):cH:=if (dl h.book e).lines=[]then h.ia else iD h.ia (dl h.book e)
def ahr(h:mm)(e:aV):Int:=if zV h=true then (if dG h.book e=0 then (if aho h.log e=0 then (if ahA h e=0 then 0 else 22)else 21)else dG h.book e)else 20
def aht(h:mm)(e:aV):mm:=if ahr h e=0 then ⟨ahu h.log e,dp h.book e,ahs h e,h.wait++[e],h.f9⟩else acj
theorem ah6{h:mm}{e:aV}(q:ahr h e≠0):aht h e=acj:=if_neg q
theorem ahV{h:mm}{e:aV}(q:ahr h e=0):aht h e=⟨ahu h.log e,dp h.book e,ahs h e,h.wait++[e],h.f9⟩:=if_pos q
theorem aiG{h:mm}{e:aV}(q:zV h=false):ahr h e=20:=if_neg (by simp[q])
theorem aiH{h:mm}{e:aV}(q:zV h=true)(c:dG h.book e≠0):ahr h e=dG h.book e:=by unfold ahr;rw[if_pos q,if_neg c]
theorem aiI{h:mm}{e:aV}(q:zV h=true)(c:dG h.book e=0)(l:aho h.log e≠0):ahr h e=21:=by unfold ahr;rw[if_pos q,if_pos c,if_neg l]
theorem aiJ{h:mm}{e:aV}(q:zV h=true)(c:dG h.book e=0)(l:aho h.log e=0)(p:ahA h e≠0):ahr h e=22:=by unfold ahr;rw[if_pos q,if_pos c,if_pos l,if_neg p]
theorem aiK{h:mm}{e:aV}(q:zV h=true)(c:dG h.book e=0)(l:aho h.log e=0)(p:ahA h e=0):ahr h e=0:=by unfold ahr;rw[if_pos q,if_pos c,if_pos l,if_pos p]
theorem aiu{h:mm}{e:aV}(q:ahr h e=0):zV h=true/\dG h.book e=0/\aho h.log e=0/\ahA h e=0:=by
 cases V:zV h with
 |false=>rw[aiG V]at q;cases q
 |true=>
  by_cases h2:dG h.book e=0
  ·by_cases h3:aho h.log e=0
   ·by_cases h4:ahA h e=0
    ·exact⟨rfl,h2,h3,h4⟩
    rw[aiJ V h2 h3 h4]at q;cases q
   rw[aiI V h2 h3]at q;cases q
  rw[aiH V h2]at q;exact absurd q h2
theorem aiv{h:mm}{e:aV}(q:zV h=true):0<(dl h.book e).id↔(dl h.book e).lines≠[]:=by
 by_cases c:dG h.book e=0
 ·by_cases w:(bz h.book e).l=[]
  ·rw[(ub c w).2];simp
  rw[(rU c w).2];have:=(mX (aiF q).bok).next.1;simp[w];omega
 rw[(Oj c).2];simp
theorem ajY:ra pm ⟨0,[]⟩:=⟨QB,⟨List.Pairwise.nil,by simp,by simp,rfl,by simp⟩,rfl,rfl,fun _ _=>rfl,fun _ _=>rfl,fun _ _=>rfl⟩
theorem ajZ{es:List aV}(h:eL es=true):(d5 es).2=((de es).ps.length:Int):=by
 unfold eL at h;simp only[Bool.and_eq_true,decide_eq_true_eq]at h;exact h.2
theorem aj0(es:List aV):de es=bK pm es:=OO QB
theorem aj1{es:List aV}(h:eL es=true):ra (de es).now (d5 es).1:=by
 have hl:=ajZ h;have ha:=ajb ajY (es:=es) _ (Nat.le_refl _);rw[List.take_length]at ha;unfold d5 at hl ⊢;rw[aj0]at hl ⊢;exact ha.2 hl
theorem alv{h:mm}{e:aV}(q:ahr h e=0):eL (f8 h.log.bT++[e])=true/\(de (f8 h.log.bT++[e])).now=dp h.book e/\(d5 (f8 h.log.bT++[e])).1=ahs h e:=by
 obtain⟨V,h2,h3,h4⟩:=aiu q;have g:=aiF V;have hl:=ajZ g.rp;have hr:=g.rp;have hb:=g.book;have hd:=g.led;unfold eL at hr ⊢;unfold d5 at hl hd hr ⊢;simp only[Bool.and_eq_true,decide_eq_true_eq]at hr ⊢;rw[aj0]at hl hd hb hr ⊢;have e1:bK pm (f8 h.log.bT++[e])=kz (bK pm (f8 h.log.bT)) e:=by unfold bK;rw[List.foldl_append];rfl
 rw[e1];generalize bK pm (f8 h.log.bT)=s at *;unfold ahA at h4;unfold ahs;rw[hb]at h2 h4 ⊢;have hz:eK (kz s e).jD=true:=by
  have h0:=hr.1;show eK (s.jD++[dG s.now e])=true;unfold eK at h0 ⊢;rw[List.all_append,h0,h2];rfl
 by_cases r:(dl s.now e).lines=[]
 ·rw[if_pos r,Oo r,Fk h2];exact⟨⟨hz,hl⟩,rfl,hd.symm⟩
 rw[if_neg r]at h4;rw[if_neg r,Om h2 r,Fk h2];have e2:jJ ⟨0,[]⟩ (s.ps++[dl s.now e])=B2 (jJ ⟨0,[]⟩ s.ps) (dl s.now e):=by unfold jJ;rw[List.foldl_append];rfl
 rw[e2,List.length_append,List.length_singleton];unfold B2;rw[<-hd,if_pos h4];exact⟨⟨hz,by show _+1=_;rw[hl];rfl⟩,rfl,rfl⟩

abbrev aig(x:aw)(e:aV):AV:=.au [cj (dp x e),DT (dl x e),int (dG x e)]
theorem ajd{f:FuncId}{args:List AV}{x:aw}{e:aV}(h:GC prog f args [] (Dl x e) (zN x e)):GC prog f args [] (aig x e) []:=
 (GX.frozen (Z:=fun y=>y=aig x e) (show GX prog f args [] _ from h) fun y ob ⟨e1,e2⟩=>by
   subst e1 e2;exact⟨aig x e,Still.au (.cons (Still.agg (.cons (Still.p _) (.cons (Still.p _) (.cons (Still.p _) (.cons (Still.row (id:=11) (e:=⟨159,none⟩) (sz:=7) (rows:=ah aX (dp x e).ag) rfl) (.cons (Still.row (id:=12) (e:=⟨218,none⟩) (sz:=7) (rows:=ah go (dp x e).an) rfl) (.cons (Still.row (id:=13) (e:=⟨220,none⟩) (sz:=5) (rows:=ah iX (dp x e).aq) rfl) .nil)))))))
    (.cons (Still.agg (.cons (Still.p _) (.cons (Still.row (id:=14) (e:=⟨167,none⟩) (sz:=3) (rows:=ah ct (dl x e).lines) rfl) .nil))) (.cons (Still.p _) .nil))),rfl⟩).mono fun y o ⟨e1,e2⟩=>⟨e2,e1⟩
theorem aj4(x:aw)(e:aV)(hw:di x):GC prog 107 [cj x,ju e] [] (aig x e) []:=ajd (Yk x e hw)

section
variable {P:Program}{L O:Nat->Prop}{w0:World}{N:Nat}{Q:AQ}{τ:Nat->AV}{H:Nat->AO}{c:Code}
theorem RR.ahJ{ρ:Nat->Value}{fp:Nat->List Nat}{a:Act}{w:World}(h:RR L O w0 N τ H ρ fp a w){id:Nat}{T:TypeId}{cells ahD:List AV}{p:Option Value}(hH:H id=.box T p cells)(hi:ff cells ahD)(hl:ahD.length=cells.length)(hc:∀x∈ahD,x.cell=true):RR L O w0 N τ (aH H id (.box T p ahD)) ρ fp a w:=by
 have e1:(AO.box T p ahD).here=(H id).here:=by rw[hH];rfl
 have e2:(AO.box T p ahD).len=(H id).len:=by rw[hH];rfl
 have e3:(AO.box T p ahD).sz=(H id).sz:=by rw[hH];exact hl
 have E:=N6 (L:=L) (ρ:=ρ) (w:=w) e1 e2 e3;refine⟨h.jp,h.size,h.defers,fun t=>by have:=RV.env E _ (h.tm t);rwa [mf]at this,N5 h.ob e1 e2 e3 ?_,h.dj,h.own,h.lo⟩;have bY:=(h.ob id).env E (fun _ _=>rfl);rw[AO.mf,hH]at bY;obtain⟨xs,k1,k2,k3,k4,k5⟩:=bY;exact⟨xs,hi k1,hc,by rw[hl];exact k3,k4,k5⟩
theorem AW.ahJ(id:Nat){T:TypeId}{cells:List AV}(ahD:List AV){p:Option Value}(hH:H id=.box T p cells)(hi:ff cells ahD)(hl:ahD.length=cells.length)(hc:(ahD.all AV.cell)=true)(h:AW P L O w0 N c τ (aH H id (.box T p ahD)) Q):AW P L O w0 N c τ H Q:=fun ρ fp a w hr=>h ρ fp a w (hr.ahJ hH hi hl (List.all_eq_true.1 hc))
end
theorem ff.same{x:AV}{l m:List AV}(h:ff l m):ff (x::l) (x::m):=ff.cons (fe.refl x) h
theorem ahl{e:TypeId}{sz:Nat}{l m:List AV}(h:ff l m):ff (.p (.v (.slice none 0 0))::l) (.p (.ab e sz [])::m):=ff.cons (fe.nil e sz) h

structure HbD(h:mm):Prop where
 db:qK h.log.bT
 wf:di h.book
 lh:h.book.an.length<=1048576
 li:h.book.aq.length<=1048576
 ll:h.ia.lines.length<=1048576
 lw:h.wait.length<=1048576
 ls:h.f9.length<=1048576
theorem x_66{p:Prop}(c:p:=by exact ⟨(fun c hc=>by cases hc),(fun c hc=>by cases hc)⟩):p:=c
theorem ajf:HbD acj:=⟨x_66,⟨by simp,by simp,by simp,by simp⟩,by simp,by simp,by simp,by simp,by simp⟩
theorem aj5{h:mm}(d:HbD h):GC prog 31 [Bu h] [] (aD (zV h)) []:=QS h d.db d.wf ⟨d.wf.len,d.lh,d.li⟩ d.ll d.lw d.ls
theorem aiL{h:mm}(d:HbD h):GC prog 30 [Bu h] [] (aD (zV h)) []:=QV h d.db d.wf ⟨d.wf.len,d.lh,d.li⟩ d.ll d.lw d.ls
theorem HbD.z{h:mm}(d:HbD h)(q:zV h=true):E9 h:=⟨aeo (af4 q),d.wf.len,d.lh,d.li,d.ll,d.lw,d.ls⟩
theorem aiM(x:aw)(e:aV):(dl x e).lines.length<=1000:=by
 by_cases h:dG x e=0
 ·have q:=(Ab h).len;by_cases l:(bz x e).l=[]
  ·rw[(ub h l).2];simp
  rw[(rU h l).2];show (bz x e).l.length<=1000;omega
 rw[(Oj h).2];simp
theorem aj'(l:cH)(p:dX)(hp:p.lines.length<=1000):GC prog 109 [cR l,DT p] [] (.au [cR (iD l p),int (iv l p)]) []:=by
 have:=GO l p hp;rwa [LK.1,LK.2]at this
abbrev ahO(h:mm):AV:=.agg [.own 1,.p (.ab 192 2 (oT h.log.bT.bu)),int h.log.next,int h.log.dP,int h.book.tick,int h.book.next,int h.book.aA,.p (.ab 159 7 (ah aX h.book.ag)),.p (.ab 218 7 (ah go h.book.an)),.p (.ab 220 5 (ah iX h.book.aq)),int h.ia.last,.p (.ab 167 3 (ah ct h.ia.lines)),.own 2,.p (.ab 81 7 (ah fR h.f9))]
abbrev obK(h:mm):List (Nat×AO):=[(1,.ai 195 1 (oS h.log.bT.cells)),(2,uT h.wait)]
abbrev ZH:AV:=.agg [y5,y5,int 0,int 0,int 0,int 0,int 0,y5,y5,y5,int 0,y5,y5,y5]
def aka(h:mm)(e:aV):AV->List (Nat×AO)->Prop:=fun y ob=>(ahr h e≠0/\y=.au [ZH,int (ahr h e)]/\ob=[])\/(ahr h e=0/\y=.au [ahO (aht h e),int 0]/\ob=obK (aht h e))
theorem aiN{h:mm}{e:aV}(q:(dl h.book e).lines=[]):ahs h e=h.ia:=if_pos q
theorem aiO{h:mm}{e:aV}(q:(dl h.book e).lines≠[]):ahs h e=iD h.ia (dl h.book e):=if_neg q
theorem ajh{h:mm}{e:aV}(q:(dl h.book e).lines=[]):ahA h e=0:=if_pos q
theorem aih{h:mm}{e:aV}(q:(dl h.book e).lines≠[]):ahA h e=iv h.ia (dl h.book e):=if_neg q
theorem aji(h:mm)(e:aV)(hd:HbD h):GX prog 40 [Bu h,ju e] [] (aka h e):=by
 refine GX.intro (rs:=[.cell 4 56 (some 14),.tmp 5]) func40 rfl ntmps40 x_8 ⟨rfl,rfl,EZ,rfl,trivial⟩ ?_;intro L O w0;refine sL<|ab (zX 2002 Z) Z<|ab (zX 2003 Z) Z<|ab (zA 2004 Ig Z) Z<|ao Z<|Y<|aS<|sL<|aP js EZ Z<|ab (zC [] [] [] func30 (aiL hd) (trivial) Z Z) Z<|lT [2,3,4,5,15] [2002,2003,2004] ?_;refine bX Z<|Y<|cE rfl ?_ ?_
 ·intro V;refine sL<|lq (rd (x:=.agg [vV _,vV _,c6,c6,c6,c6,c6,vV _,vV _,vV _,c6,vV _,vV _,vV _]) (cP Z acf Z Z Z) Z)<|ab (zB 2004 NA NB Z) Z<|ao Z<|Y<|aR<|rT ?_;have hq:zV h=false:=by have h:=V;simpa using h
  have hc:ahr h e=20:=aiG hq;refine fN ((.au [ZH,int 20])) [] ?_ rfl trivial;exact .inl ⟨by rw[hc];decide,by rw[hc],rfl⟩
 intro V;refine aK<|gT<|aS ?_;have hq:zV h=true:=by have h:=V;simpa using h
 refine aL<|lf 4 Bw Z<|aP h1 cu Z<|aP iK dD Z<|ab (zC [] [] [] func107 (aj4 h.book e hd.wf) (trivial) Z Z) Z<|lT [2,3,4,5,22] [2002,2003,2004] ?_;refine cT (.au [h1,kj,c6]) Z<|iB h1 Z<|iB kj Z<|dE Z<|ab (zA 2006 mD Z) Z<|ab (zA 2007 pC Z) Z<|lT [2,3,4,5,6,7,23,24,25] [2002,2003,2004,2006,2007] ?_;refine ab (zB 2006 eu ew Z) Z<|ab (zB 2007 na nb Z) Z<|ao Z<|Y<|aS<|sL<|ae Z<|ak Z<|Y<|cE rfl ?_ ?_
 ·intro h2;refine sL<|lq (rd (x:=.agg [vV _,vV _,c6,c6,c6,c6,c6,vV _,vV _,vV _,c6,vV _,vV _,vV _]) (cP Z acf Z Z Z) Z)<|ae Z<|ab (zB 2004 NA NB Z) Z<|lT [2,3,4,5,6,7,29] [2002,2003,2004,2006,2007] ?_;refine ao Z<|Y<|aR<|rT ?_;have hcn:dG h.book e≠0:=by have h:=h2;simpa using h
  have hc:ahr h e=dG h.book e:=aiH hq hcn;refine fN ((.au [ZH,int (dG h.book e)])) [] ?_ rfl trivial;exact .inl ⟨by rw[hc];exact hcn,by rw[hc],rfl⟩
 intro h2;refine aK<|gT<|aS ?_;have cQ:dG h.book e=0:=by have h:=h2;simpa using h
 refine aL<|lf 0 qL Z<|aP (.agg [c7,c7,c6,c6]) EY Z<|aP iK dD Z<|ab (zC [(1,1),(2,2)] [1,2] [] func108 (akc h.log e) (trivial) Z Z) Z<|cT (.au [qb,c6]) Z<|iB qb Z<|dE Z<|ab (zA 2009 Nx Z) Z<|lT [2,3,4,5,6,7,9,35,36] [1,2,2002,2003,2004,2006,2007,2009] ?_;refine ab (zB 2009 Nv Nw Z) Z<|ao Z<|Y<|aS<|aS ?_;refine AW.freeze 2 rfl ?_;refine aL<|ae Z<|ak Z<|Y<|cE rfl ?_ ?_
 ·intro h3;refine sL<|lq (rd (x:=.agg [vV _,vV _,c6,c6,c6,c6,c6,vV _,vV _,vV _,c6,vV _,vV _,vV _]) (cP Z acf Z Z Z) Z)<|ab (zB 2004 NA NB Z) Z<|lT [2,3,4,5,6,7,9] [1,2002,2003,2004,2006,2007,2009] ?_;refine ao Z<|Y<|aR<|rT ?_;have aiP:aho h.log e≠0:=by have h:=h3;simpa using h
  have hc:ahr h e=21:=aiI hq cQ aiP;refine fN ((.au [ZH,int 21])) [] ?_ rfl trivial;exact .inl ⟨by rw[hc];decide,by rw[hc],rfl⟩
 intro h3;refine aK<|gT<|aS ?_;have dY:aho h.log e=0:=by have h:=h3;simpa using h
 have hlw:=hd.lw;have T7:=hd.ls;refine aL<|aP js EZ Z<|ab (zC [(6,6),(7,2),(8,8)] [6,2,8] [] func49 (agq h (hd.z hq) (acF (af4 hq))) (trivial) Z Z) Z<|ab (zA 2011 Ig Z) Z<|ab (zB 2011 NA NB Z) Z<|Y ?_;refine AW.freeze 6 rfl ?_;refine aJ [3,4,5,6,9,11] [1,2,8,2002,2003,2004,2006,2007,2009] (D:=Unit) (fun jd=>[]) (fun jd=>[(2011,.box 56 none [.p (.ab 195 1 (oS h.log.bT.cells)),.p (.ab 192 2 (oT h.log.bT.bu)),int h.log.next,int h.log.dP,int h.book.tick,int h.book.next,int h.book.aA,.p (.ab 159 7 (ah aX h.book.ag)),.p (.ab 218 7 (ah go h.book.an)),.p (.ab 220 5 (ah iX h.book.aq)),int (ahs h e).last,.p (.ab 167 3 (ah ct (ahs h e).lines)),.own 2,.own 8])]) (fun jd=>ahA h e=0) ?_ ?_
 ·refine sL<|lf 0 wN Z<|aj ac Z<|ak Z<|Y<|cE rfl ?_ ?_
  ·intro h4;refine aS ?_;have hln:(dl h.book e).lines≠[]:=(aiv hq).1 (by have h:=h4;simpa using h);refine aL<|lf 10 Bx Z<|aP kj eZ Z<|aP kj ol Z<|ab (zC [] [] [] func109 (aj' h.ia (dl h.book e) (aiM _ _)) (trivial) Z Z) Z<|lT [3,4,5,6,9,11,49] [1,2,8,2002,2003,2004,2006,2007,2009,2011] ?_;refine cT (.au [kj,c6]) Z<|iB kj Z<|dE Z<|ab (zA 2012 ld Z) Z<|ab (zB 2012 cA cB Z) Z<|ao Z<|Y<|aS<|sL<|ae Z<|ak Z<|Y<|cE rfl ?_ ?_
   ·intro h5;refine sL<|lq (rd (x:=.agg [vV _,vV _,c6,c6,c6,c6,c6,vV _,vV _,vV _,c6,vV _,vV _,vV _]) (cP Z acf Z Z Z) Z)<|ab (zB 2004 NA NB Z) Z<|lT [3,4,5,6,9,11,12] [1,2,8,2002,2003,2004,2006,2007,2009,2011,2012] ?_;refine ao Z<|Y<|aR<|rT<|rT ?_;have HD:iv h.ia (dl h.book e)≠0:=by have h:=h5;simpa using h
    have hc:ahr h e=22:=aiJ hq cQ dY (by rw[aih hln];exact HD);refine fN ((.au [ZH,int 22])) [] ?_ rfl trivial;exact .inl ⟨by rw[hc];decide,by rw[hc],rfl⟩
   intro h5;refine aK<|gT ?_;have Zk:iv h.ia (dl h.book e)=0:=by have h:=h5;simpa using h
   have hL:=aiO hln;have Tx:ahA h e=0:=by rw[aih hln];exact Zk
   refine aL<|aP kj eZ Z<|lf 10 Bx Z<|ab (zB 2011 cA cB Z) Z<|Y ?_;refine⟨(),Tx,trivial,⟨(Eq.trans (b:=AO.box 56 none [.p (.ab 195 1 (oS h.log.bT.cells)),.p (.ab 192 2 (oT h.log.bT.bu)),int h.log.next,int h.log.dP,int h.book.tick,int h.book.next,int h.book.aA,.p (.ab 159 7 (ah aX h.book.ag)),.p (.ab 218 7 (ah go h.book.an)),.p (.ab 220 5 (ah iX h.book.aq)),int (iD h.ia (dl h.book e)).last,.p (.ab 167 3 (ah ct (iD h.ia (dl h.book e)).lines)),.own 2,.own 8]) rfl (by rw[hL])),trivial⟩,rfl,rfl⟩
  intro h4;refine aK<|gT ?_;have hln:(dl h.book e).lines=[]:=Classical.byContradiction fun q=>by have h:=h4;have:=(aiv hq).2 q;simp at h;omega
  have hL:=aiN hln;have Tx:ahA h e=0:=ajh hln;refine⟨(),Tx,trivial,⟨(Eq.trans (b:=AO.box 56 none [.p (.ab 195 1 (oS h.log.bT.cells)),.p (.ab 192 2 (oT h.log.bT.bu)),int h.log.next,int h.log.dP,int h.book.tick,int h.book.next,int h.book.aA,.p (.ab 159 7 (ah aX h.book.ag)),.p (.ab 218 7 (ah go h.book.an)),.p (.ab 220 5 (ah iX h.book.aq)),int h.ia.last,.p (.ab 167 3 (ah ct h.ia.lines)),.own 2,.own 8]) rfl (by rw[hL])),trivial⟩,rfl,rfl⟩
 intro jd hpc;refine sL<|aP (.agg [.own _,c7,c6,c6]) EY Z<|lf 0 qL Z<|ab (zB 2011 Nv Nw Z) Z<|nA<|aP h1 cu Z<|lf 4 Bw Z<|ab (zB 2011 eu ew Z) Z<|lT [3,4,5,11] [1,2,8,2002,2003,2004,2006,2007,2009,2011] ?_;refine nA<|lf 12 Bz Z<|iO tE Z<|aP iK dD Z<|ab (zS 2064 (ah fR [e]) jk jl Z) Z<|ab (zP 2 jk jl sD Z (Src.own Z Z)) Z<|lf 12 Bz Z<|ab (zB 2011 Ny Nz Z) Z<|lT [4,5,11] [1,2,8,2002,2003,2004,2006,2007,2009,2011,2064] ?_;refine nA<|aP (.agg [.own _,c7,c6,c6,c6,c6,c6,c7,c7,c7,c6,c7,.own _,.own _]) EZ Z<|ab (zB 2004 NA NB Z) Z<|ao Z<|Y ?_;refine AW.obj 2 (uT (h.wait++[e])) (congrArg (AO.ai 81 7) (fx fR _ _).symm) ?_;refine AW.freeze 8 rfl ?_;refine aR ?_;have hc:ahr h e=0:=aiK hq cQ dY hpc;have hL:=ahV hc;refine fN ((.au [ahO ⟨ahu h.log e,dp h.book e,ahs h e,h.wait++[e],h.f9⟩,int 0])) (obK ⟨ahu h.log e,dp h.book e,ahs h e,h.wait++[e],h.f9⟩) ?_ rfl ⟨rfl,rfl,trivial⟩;exact .inr ⟨hc,by rw[hL],by rw[hL]⟩
theorem ajj{h:mm}{e:aV}(hd:HbD h)(hc:ahr h e=0):GC prog 40 [Bu h,ju e] [] (.au [ahO (aht h e),int 0]) (obK (aht h e)):=(aji h e hd).gc fun y o q=>by
 rcases q with⟨q,_⟩|⟨_,q1,q2⟩
 ·exact absurd hc q
 exact⟨q1,q2⟩
theorem ajk{h:mm}{e:aV}(hd:HbD h)(hc:ahr h e≠0):GC prog 40 [Bu h,ju e] [] (.au [ZH,int (ahr h e)]) []:=(aji h e hd).gc fun y o q=>by
 rcases q with⟨_,q1,q2⟩|⟨q,_⟩
 ·exact⟨q1,q2⟩
 exact absurd q hc
theorem akd(h:mm)(e:aV)(hd:HbD h):GC prog 40 [Bu h,ju e] [] (.au [Bu (aht h e),int (ahr h e)]) []:=by
 by_cases hc:ahr h e=0
 ·rw[hc];refine(GX.frozen (Z:=fun y=>y=.au [Bu (aht h e),int 0]) (ajj hd hc) fun x ob ⟨e1,e2⟩=>?_).mono fun y o ⟨e1,e2⟩=>⟨e2,e1⟩;subst e1 e2;exact⟨_,Still.au (.cons (Still.agg (.cons (Still.row (id:=1) (e:=⟨195,none⟩) (sz:=1) (rows:=oS (aht h e).log.bT.cells) rfl) (.cons (Still.p _) (.cons (Still.p _) (.cons (Still.p _) (.cons (Still.p _) (.cons (Still.p _) (.cons (Still.p _) (.cons (Still.p _) (.cons (Still.p _) (.cons (Still.p _) (.cons (Still.p _) (.cons (Still.p _) (.cons (Still.row (id:=2) (e:=⟨81,none⟩) (sz:=7) (rows:=ah fR (aht h e).wait) rfl) (.cons (Still.p _) .nil))))))))))))))) (.cons (Still.p _) .nil)),rfl⟩
 rw[ah6 hc];refine GX.imp (ajk hd hc) (fun x bd ⟨e1,e2⟩=>?_);subst e1 e2;exact⟨_,fe.au (ff.cons (fe.agg (ahl<|ahl<|ff.same<|ff.same<|ff.same<|ff.same<|ff.same<|ahl<|ahl<|ahl<|ff.same<|ahl<|ahl<|ahl<|ff.nil)) (ff.same ff.nil)),rfl,rfl⟩

section
variable {P:Program}{L O:Nat->Prop}{w0:World}{N:Nat}{Q:AQ}{c:Code}{τ:Nat->AV}{H:Nat->AO}
theorem RR.ah7{ρ:Nat->Value}{fp:Nat->List Nat}{a:Act}{w:World}(h:RR L O w0 N τ H ρ fp a w)(id:Nat){e:ga}{sz:Nat}{rows rows':List (List PV)}(hH:H id=.ai e sz rows)(hl:rows'.length=rows.length)(hr:∀ {xs fr},bI w false sz rows xs fr->bI w false sz rows' xs fr) :
 ∃ρ fp,RR L O w0 N τ (aH H id (.ai e sz rows')) ρ fp a w:=
 ⟨_,_,h.ahH (id:=id) (o':=.ai e sz rows') (f':=fp id) h.jp (Nat.le_refl _) (fun _ _ _=>rfl) (fun _=>by rw[hH];exact⟨rfl,hl,rfl⟩) (fun E=>by
   have bY:=h.ob id;rw[hH]at bY;obtain⟨xs,fr,b1,b2,b3,b4,b5⟩:=bY;exact⟨xs,fr,hr b1,fun b hb=>(E.block b (bI.lt rows b1 b hb) (b2 b hb)).2,by rw[hl];exact b3,b4,b5⟩) (h.own id) (fun j hj b hb=>h.dj id j (Ne.symm hj) b hb)⟩
theorem AW.ah7(id:Nat){e:ga}{sz:Nat}{rows rows':List (List PV)}(hH:H id=.ai e sz rows)(hl:rows'.length=rows.length)(hr:∀ {w:World} {xs fr},bI w false sz rows xs fr->bI w false sz rows' xs fr)(hK:AW P L O w0 N c τ (aH H id (.ai e sz rows')) Q):AW P L O w0 N c τ H Q:=fun ρ fp a w h=>by
 obtain⟨ci,bH,q⟩:=h.ah7 id hH hl hr;exact hK ci bH a w q
end
theorem ajl{e:TypeId}{sz:Nat}{w:World}:∀(n:Nat) {xs:List Value} {fr:List Nat},bI w false 1 (List.replicate n [PV.v (.slice none 0 0)]) xs fr->bI w false 1 (List.replicate n [PV.ab e sz []]) xs fr
 |0,xs,fr,h=>h
 |n+1,xs,fr,h=>by
  rw[List.replicate_succ,bI]at *;obtain⟨V,c,r,f1,f2,rfl,rfl,h2,h3⟩:=h;refine⟨rfl,c,r,f1,f2,rfl,rfl,?_,ajl n h3⟩;rw[bP]at *;obtain⟨c0,r0,g1,g2,rfl,rfl,k1,k2⟩:=h2;refine⟨c0,r0,g1,g2,rfl,rfl,?_,k2⟩;rw[RW]at *;obtain⟨rfl,rfl,_⟩:=k1;refine⟨[],[],[],by rw[bI];exact⟨rfl,rfl⟩,?_,rfl⟩;unfold iF;simp only[Bool.false_eq_true,if_false];exact⟨none,0,rfl,by simp,by simp[maxLen],.inl ⟨rfl,trivial⟩⟩

abbrev ahW(n:Nat):du:=⟨List.replicate n ⟨[]⟩,[]⟩
theorem ajm(n:Nat):qK (ahW n):=⟨(fun c hc=>by rw[(List.mem_replicate.1 hc).2];exact .nil),(fun w hw=>by cases hw)⟩
theorem amq{n:Nat}(V:1<=n)(h2:n<=600):ik (ahW n)=true:=PB x_74 (List.all_eq_true.2 fun c hc=>by rw[(List.mem_replicate.1 hc).2];rfl) rfl
theorem ajn:∀ {ws:List gq} {cs:List Cell} {c:Cell},c∈ws.foldl abT cs->c∈cs\/∃w∈ws,c.bytes=w.bytes
 |[],_,_,h=>.inl h
 |w::ws,cs,c,h=>by
  rw[List.foldl_cons]at h;rcases ajn h with q|⟨w',q1,q2⟩
  ·rcases List.mem_or_eq_of_mem_set q with z|rfl
   ·exact .inl z
   exact .inr ⟨w,by simp,rfl⟩
  exact .inr ⟨w',by simp[q1],q2⟩
theorem aiQ{d:du}(hb:qK d):qK (abM d):=by
 unfold abM;split
 ·refine⟨fun c hc=>?_,fun w hw=>by cases hw⟩;rcases ajn hc with q|⟨w,q1,q2⟩
  ·exact hb.1 c q
  rw[q2];exact hb.2 w q1
 exact x_66
theorem aiR{d:du}{i:Nat}{b:List Int}(hb:qK d)(h:fA b):qK (v6 d i b):=⟨hb.1,fun w hw=>by
 rcases List.mem_append.1 hw with q|q
 ·exact hb.2 w q
 rw[List.mem_singleton.1 q];exact h⟩
theorem ake{b:List Int}(h:fA b):fA (yP b):=by
 unfold yP;split
 ·exact .zero 128
 exact h
theorem ajo{vA:List Int}:∀(ws:List gq) (k:Nat) (cs:List Cell),(∀w∈ws,w.bytes.length=128/\fA w.bytes)->cs.all lL=true->(∀c∈cs,fA c.bytes)->(abP vA ws k cs).all lL=true/\(abP vA ws k cs).length=cs.length/\∀c∈abP vA ws k cs,fA c.bytes
 |[],_,cs,_,h2,h3=>⟨h2,rfl,h3⟩
 |w::ws,k,cs,V,h2,h3=>by
  have hw:=V w x_19;have step:(ab8 vA cs k w).all lL=true/\(ab8 vA cs k w).length=cs.length/\∀c∈ab8 vA cs k w,fA c.bytes:=by
   unfold ab8;split
   ·exact⟨h2,rfl,h3⟩
   have ho:∀c,c=(cs[w.at_.toNat]?).getD ⟨[]⟩->lL c=true/\fA c.bytes:=fun c hc=>by
    cases e:cs[w.at_.toNat]? with
    |none=>rw[e]at hc;subst hc;exact⟨rfl,.nil⟩
    |some x=>
     rw[e]at hc;subst hc;exact⟨List.all_eq_true.1 h2 _ (List.mem_of_getElem? e),h3 _ (List.mem_of_getElem? e)⟩
   obtain⟨o1,o2⟩:=ho _ rfl;have hk:acv vA k<=128:=by unfold acv;omega
   refine⟨acC h2 (ac1 (adA o1) hw.1 hk),List.length_set ..,fun c hc=>?_⟩;rcases List.mem_or_eq_of_mem_set hc with z|rfl
   ·exact h3 c z
   exact(hw.2.take _).gJ ((ake o2).drop _)
  have ih:=ajo (vA:=vA) ws (k+1) _ (fun x hx=>V x (by simp[hx])) step.1 step.2.2;exact⟨ih.1,ih.2.1.trans step.2.1,ih.2.2⟩
theorem aii{d:du}{vA:List Int}(h:ik d=true)(hb:qK d):ik (acU d vA)=true/\qK (acU d vA)/\(acU d vA).bu=[]:=by
 have V:=wL h;obtain⟨i1,i2,i3⟩:=ajo (vA:=vA) d.bu 0 d.cells (fun w hw=>by
  obtain⟨j,hj,rfl⟩:=List.getElem_of_mem hw;exact⟨Jk h hj,hb.2 _ hw⟩) V.2.1 hb.1
 rw[adB h];exact⟨PB ⟨by show 1<=(abP ..).length;omega,by show (abP ..).length<=600;omega,Nat.zero_le _⟩ i1 rfl,⟨i3,fun w hw=>by cases hw⟩,rfl⟩
theorem ajp:∀(ws:List gq) (cs:List Cell),cs.all lL=true->(∀w∈ws,w.bytes.length=128)->(ws.foldl abT cs).all lL=true
 |[],cs,h,_=>h
 |w::ws,cs,h,hw=>by
  rw[List.foldl_cons];exact ajp ws _ (acC h (hw w x_19)) (fun x hx=>hw x (by simp[hx]))
theorem aiS{d:du}(h:ik d=true):ik (abM d)=true/\(abM d).bu=[]:=by
 have V:=wL h;rw[acu h];refine⟨PB ⟨by show 1<=(abE d _).length;rw[abW];exact V.1.1,by show (abE d _).length<=600;rw[abW];exact V.1.2.1,Nat.zero_le _⟩ (ajp _ _ V.2.1 fun w hw=>?_) rfl,rfl⟩;obtain⟨j,hj,rfl⟩:=List.getElem_of_mem (List.mem_of_mem_take hw);exact Jk h hj
structure DkI(n:Int)(c:List Cell)(w:List gq):Prop where
 ok:ik ⟨c,w⟩=true
 by_:qK ⟨c,w⟩
 n0:0<=n
 nw:(w.length:Int)+n<=6
theorem DkI.sync{n:Int}{c:List Cell}{w:List gq}(h:DkI n c w)(hn:0<n):DkI (n-1) (abM ⟨c,w⟩).cells (abM ⟨c,w⟩).bu:=⟨(aiS h.ok).1,aiQ h.by_,by omega,by have:=h.nw;rw[(aiS h.ok).2];simp;omega⟩
theorem DkI.aiT{n:Int}{c:List Cell}{w:List gq}{vA:List Int}(h:DkI n c w)(hn:0<n):DkI (n-1) (acU ⟨c,w⟩ vA).cells (acU ⟨c,w⟩ vA).bu:=⟨(aii h.ok h.by_).1,(aii h.ok h.by_).2.1,by omega,by have:=h.nw;rw[(aii h.ok h.by_).2.2];simp;omega⟩
theorem DkI.wr{n:Int}{c:List Cell}{w:List gq}{i:Nat}{b:List Int}(h:DkI n c w)(hn:0<n)(hi:i<c.length)(hb:b.length=128)(hB:fA b):DkI (n-1) (v6 ⟨c,w⟩ i b).cells (v6 ⟨c,w⟩ i b).bu:=⟨ab7 h.ok hi (by show w.length<600;have:=h.nw;omega) hb,aiR h.by_ hB,by omega,by have:=h.nw;show ((w++[_]).length:Int)+(n-1)<=6;rw[List.length_append,List.length_singleton];omega⟩
theorem akg(n:Nat)(V:1<=n)(h2:n<=600):GC prog 182 [int (n:Int)] [] (.au [Gn,aD true]) (SH (ahW n)):=by
 refine GC.intro (rs:=[.cell 2 43 (some 2),.tmp 3]) func182 rfl ntmps182 x_8 ⟨rfl,rfl,mE,rfl,trivial⟩ ?_;intro L O w0;refine sL<|ab (zA 2002 Du rfl) Z<|ar Z<|Y<|aS<|sL<|ae Z<|ak Z<|bJ 5 false rfl x_74<|dm Z<|ae Z<|ak Z<|bJ 8 false rfl x_74<|bL Z<|Y<|aN Z<|aK<|gA<|ae Z<|ab (uq 1 (m:=n) rfl rfl x_3 xE CB rfl rfl rfl rfl rfl (Nat.le_trans (Nat.mul_le_mul_right _ VT) x_2) (by unfold maxLen;omega)) Z<|lq (rd (x:=.agg [.own _,vV _]) (cP rfl adU rfl rfl rfl) rfl)<|ab (zB 2002 Dv Dw rfl) Z<|cI Z<|lN ?_;refine gT ?_;refine AW.pi 2 2002 1 192 2 rfl x_3 rfl ?_;refine AW.ah7 1 (rows':=List.replicate n [nQ []]) rfl x_19 (fun h=>ajl n h) ?_;refine AW.obj 1 (.ai 195 1 (oS (ahW n).cells)) (congrArg (AO.ai 195 1) (by unfold oS;rw[List.map_replicate])) ?_;refine aR ?_;refine ax ?_ ⟨rfl,rfl,trivial⟩;rfl
theorem akh(n:Nat)(V:1<=n)(h2:n<=600):GC prog 182 [int (n:Int)] [] (.au [mt (ahW n),aD true]) []:=(akg n V h2).aeN

abbrev alH:List Int:=List.replicate 128 0
theorem alI:g8 alH=false:=by decide +kernel
theorem amf(n:Nat):oh (ahW n)=List.replicate n alH:=by
 unfold oh;refine List.ext_getElem x_19 fun i V h2=>?_;have hi:i<n:=by simpa using h2
 rw[List.getElem_map,List.getElem_range,List.getElem_replicate];unfold io;simp only[kD];rw[List.getElem?_replicate,if_pos hi];rfl
theorem amr:∀n,og (List.replicate n alH) []=[]
 |0=>rfl
 |n+1=>by
  rw[List.replicate_succ];unfold og;rw[if_neg];intro h;have:=(sW.1 h).1;rw[alI]at this;cases this
theorem ams:∀n,abF (List.replicate n alH)=0:=by
 intro n;unfold abF;induction n with
 |zero=>rfl
 |succ n ih=>
  rw[List.replicate_succ,List.foldl_cons,TD alI];exact ih
theorem amH{n:Nat}(V:1<=n)(h2:n<=600):m1 (ahW n)=0:=by
 have hd:=amq V h2;refine lg0 hd rfl ?_;rw[DP hd,adS hd,amf,amr,ams];simp;omega
theorem ajq{d:du}(hb:qK d):qK (m4 d).bT:=by
 unfold m4;split
 ·exact aiQ (aiR hb (TC (.cons x_3 x_3 .nil) x_8))
 exact x_66
theorem ajr{l:uW}(hb:qK l.bT):qK (afM l).bT:=by
 unfold afM;split
 ·exact aiQ hb
 exact x_66
theorem ajs{l:uW}{e:aV}(hc:aho l e=0):ik l.bT=true/\aI l.next 0 l.bT.cells.length=true/\aI l.dP 1 16000000=true/\co e=true/\¬(l.next=l.bT.cells.length\/600<=l.bT.bu.length):=by
 have V:ik l.bT=true:=by cases h:ik l.bT with|true=>rfl|false=>rw[al4 (.inl h)]at hc;cases hc
 have h2:aI l.next 0 l.bT.cells.length=true:=by cases h:aI l.next 0 l.bT.cells.length with|true=>rfl|false=>rw[al4 (.inr (.inl h))]at hc;cases hc
 have h3:aI l.dP 1 16000000=true:=by cases h:aI l.dP 1 16000000 with|true=>rfl|false=>rw[al4 (.inr (.inr (.inl h)))]at hc;cases hc
 have h4:co e=true:=by cases h:co e with|true=>rfl|false=>rw[al4 (.inr (.inr (.inr h)))]at hc;cases hc
 exact⟨V,h2,h3,h4,fun q=>by rw[al0 V h2 h3 h4 q]at hc;cases hc⟩
theorem aki{l:uW}{e:aV}(hc:aho l e=0):ik (ahu l e).bT=true:=by
 obtain⟨V,h2,h3,h4,h5⟩:=ajs hc;rw[aiw hc];have:=ahS.1 h2;exact ab7 V x_2 x_2 (TB (by show (rY e).length<=100;rw[TF];decide))
theorem ajt{l:uW}{e:aV}(hb:qK l.bT):qK (ahu l e).bT:=by
 by_cases hc:aho l e=0
 ·rw[aiw hc];exact aiR hb (TC (Zc (ajs hc).2.2.2.1) (by show (rY e).length<=100;rw[TF];decide))
 rw[ahz hc];exact x_66
structure LgI(n:Int)(l:uW):Prop where
 ok:ik l.bT=true
 by_:qK l.bT
 n0:0<=n
 n1:n<=11
theorem LgI.same{n:Int}{l:uW}(h:LgI n l)(hn:0<n):LgI (n-1) l:=⟨h.ok,h.by_,by omega,by have:=h.n1;omega⟩
theorem LgI.sync{n:Int}{l:uW}(h:LgI n l)(hn:0<n):LgI (n-1) (afM l):=⟨by rw[afS h.ok];exact(aiS h.ok).1,ajr h.by_,by omega,by have:=h.n1;omega⟩
theorem LgI.aiT{n:Int}{l:uW}{vA:List Int}(h:LgI n l)(hn:0<n)(hc:m1 (acU l.bT vA)=0):LgI (n-1) (m4 (acU l.bT vA)):=⟨by rcases aep (acU l.bT vA)with q|q;exact q.2.2;exact absurd hc q.1,ajq (aii h.ok h.by_).2.1,by omega,by have:=h.n1;omega⟩
theorem LgI.add{n:Int}{l:uW}{e:aV}(h:LgI n l)(hn:0<n)(hc:aho l e=0):LgI (n-1) (ahu l e):=⟨aki hc,ajt h.by_,by omega,by have:=h.n1;omega⟩

section
variable {P:Program}{L O:Nat->Prop}{w0:World}{N:Nat}{τ:Nat->AV}{H:Nat->AO}{Q:AQ}
theorem aJ2(ks os:List Nat){v:List AV}{b:List AO}{D:Type}(T:D->List (Nat×AV))(B:D->List (Nat×AO))(I:D->Prop){x y z:Code}
 (h:AW P L O w0 N x τ H (Q.andThen fun τ1 H1=>AW P L O w0 N y τ1 H1 (Q.andThen fun τ H=>∃d,I d/\iN (T d) τ/\fo (B d) H/\ge τ ks=v/\ge H os=b))) (h2:∀d,I d->AW P L O w0 N z (Cu (T d) (eh .bad ks v)) (Cv (B d) (eh .gone os b)) Q) (_:ge τ ks=v:=by exact nz) (_:ge H os=b:=by exact nz):AW P L O w0 N (.seq x (.seq y z)) τ H Q:=
 AW.seq (h.mono fun e τ1 H1 q=>by
  cases e<;>first|exact q|skip
  refine Xz (fun d=>T d++ks.zip v) (fun d=>B d++os.zip b) I (AW.mono q fun e τ' H' q=>?_) (fun d hI=>by rw[H5,H6];exact h2 d hI);cases e<;>first|exact q|(obtain⟨d',q1,q3,q4,q5,q6⟩:=q;exact⟨d',q1,iN.gJ q3 (AR q5),fo.gJ q4 (AS q6)⟩))
end
end Go.Proofs.YtflhgkmhmcfimaaGreat

