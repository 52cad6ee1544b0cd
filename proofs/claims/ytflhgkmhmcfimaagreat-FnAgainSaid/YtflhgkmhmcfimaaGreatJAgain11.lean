/- Texts of the proof of FnFnAgain, joined: EO8, EO9, EA5. -/
import Derived.Test.YtflhgkmhmcfimaaGreatJAgain10
import Derived.Test.YtflhgkmhmcfimaaGreatJAgain8
import Derived.Test.YtflhgkmhmcfimaaGreatJAgain3
namespace Go.Proofs.YtflhgkmhmcfimaaGreat
open Tryz
open Go.RowKit
set_option maxHeartbeats 16000000
set_option maxRecDepth 100000
set_option linter.unusedSimpArgs false
set_option linter.unusedVariables false
abbrev qX(v:Value)(b:List Int):AO:=.ai ⟨5,some v⟩ 1 (ah dF b)
theorem Sy{vs:List Value}{u:Value}{cs:List Cell}{k:Nat}(hk:k<cs.length)(hv:vs.length=k):fY (vs++[u]) (l9 (cs.take (k+1)))=fY vs (l9 (cs.take k))++[qX u cs[k].bytes]:=by
 rw[List.take_succ_eq_append_getElem hk,l9,List.map_append];grind[K8,List.length_take]
theorem Sz{A:List AO}{vs:List Value}{u:Value}{cs:List gq}{k:Nat}(hk:k<cs.length)(hv:vs.length=k):A++fY (vs++[u]) (oQ (cs.take (k+1)))=A++fY vs (oQ (cs.take k))++[qX u cs[k].bytes]:=by
 rw[List.take_succ_eq_append_getElem hk,oQ,List.map_append,List.append_assoc];exact congrArg (A++·) (K8 x_14)
theorem SA{vs:List Value}{u:Value}{cs:List gq}{k:Nat}(hk:k<cs.length)(hv:vs.length=k):lW vs (cs.take k)++[[.v (.int .i64 cs[k].at_),.v u]]=lW (vs++[u]) (cs.take (k+1)):=by
 grind[List.take_succ_eq_append_getElem,SB]
theorem adr{cs:List gq}{k:Nat}(hk:k<cs.length):oT (cs.take k)++[[.v (.int .i64 cs[k].at_),nQ cs[k].bytes]]=oT (cs.take (k+1)):=by
 rw[List.take_succ_eq_append_getElem hk];unfold oT;rw[List.map_append];rfl
theorem SC{vs:List Value}{ws:List gq}{k:Nat}(hv:vs.length=k)(hk:k<=ws.length):(lW vs (ws.take k)).length=k:=by grind[K9]
abbrev obC(vs:List Value)(d:du):List (Nat×AO):=[(1,.ai 195 1 (oR vs)),(2,.ai 192 2 (oT d.bu))]
def aer(d:du):AV->List (Nat×AO)->List AO->Prop:=fun y l1 F1=>∃vs:List Value,vs.length=d.cells.length/\y=Gn/\l1=obC vs d/\F1=fY vs (l9 d.cells)
structure DkS(d:du):Prop where
 lc:d.cells.length<=2000000
 lw:d.bu.length<=2000000
 bc:∀c∈d.cells,c.bytes.length<=2000000
 bw:∀w∈d.bu,w.bytes.length<=2000000
theorem acF{d:du}(h:ik d=true):DkS d:=⟨by have:=(wL h).1;omega,by have:=(wL h).1;omega,fun c hc=>by
 obtain⟨j,hj,rfl⟩:=List.getElem_of_mem hc;have:=PC h hj;omega,fun c hc=>by
 obtain⟨j,hj,rfl⟩:=List.getElem_of_mem hc;have:=Jk h hj;omega⟩
theorem x_37{p:Prop}(c:p:=by kernel_rfl):p:=c
theorem x_40{p:Prop}(c:p:=by first|(rw[List.length_append,jC,ach];omega)|(rw[jC];omega)|(rw[List.nil_append,SD gl NS];omega)):p:=c
theorem x_55{p:Prop}(c:p:=by intro r hr;simp at hr;subst hr;rfl):p:=c
theorem x_80{p:Prop}(c:p:=by exact ⟨rfl,rfl,mE,trivial⟩):p:=c
theorem x_117{p:Prop}(c:p:=by first|(simp[Ao,pH];done)|(simp[Ao,pH];omega)):p:=c
theorem aes(d:du)(hs:DkS d):GN prog 155 [mt d] [] ([]) (La d):=by
 refine GN.intro (rs:=[.cell 2 43 (some 2)]) func155 rfl ntmps155 x_8 x_80 rfl ?_;intro L O w0;refine sL<|ab (zX 2001 Z) Z<|ab (zA 2002 Du Z) Z<|nA<|ab (zA 2003 Du Z) Z<|Y<|aS<|aS ?_;refine AW.pi 1 2003 0 195 1 rfl x_3 rfl ?_;refine AW.pi 2 2003 1 192 2 rfl x_3 rfl ?_;refine aL<|lf 0 n9 Z<|bo oB Z<|ba po Z ?_;refine dC 10 (int (d.cells.length:Int)) (congrArg (fun n:Nat=>int (n:Int)) (fU _)) ?_;refine ae Z<|Y<|aB ?_;refine E8 (D:=Nat×List Value) [(1,.ptr 2001 _ 0),(2,.ptr 2002 _ 0),(3,.ptr 2003 _ 0),(9,c7),(10,c6)] [(2,.ai _ _ _),(2001,.box _ _ [c7,c7]),(2002,.box _ _ [vV _,vV _]),(2003,.box _ _ [.own _,.own _])] (fun a=>[(11,int (a.1:Int))]) (fun a=>[(1,.ai 195 1 (oR a.2))]) (fun a=>fY a.2 (l9 (d.cells.take a.1))) (fun a=>a.1<=d.cells.length/\a.2.length=a.1) (fun a=>d.cells.length-a.1) ((0,[])) (⟨Nat.zero_le _,rfl⟩) ⟨rfl,trivial⟩ ⟨rfl,trivial⟩ ⟨rfl,rfl,rfl,rfl,rfl,trivial⟩ ⟨rfl,rfl,rfl,rfl,trivial⟩ (by rw[List.take_zero];exact ki) ?_;intro ⟨k,vs⟩ hI;obtain⟨eN,gl⟩:=hI;replace eN:k<=d.cells.length:=eN;replace gl:vs.length=k:=gl;have ke:dS (fY vs (l9 (d.cells.take k))):=Ap;have jC:(fY vs (l9 (d.cells.take k))).length=k:=by rw[Aa (by rw[List.length_map,List.length_take];omega),List.length_map,List.length_take];omega
 refine sL<|ak Z<|Y<|aS<|cE rfl ?_ ?_
 ·intro V;refine aK<|gT<|aS<|aB<|aS ?_;have hk:k<d.cells.length:=by have h:=V;simp only[decide_eq_true_eq]at h;omega
  have oF:=hs.lc;refine aL<|li k xE Z (vw hk)<|d6 qN zn Z<|ab (zA 2005 CB Z) Z<|ab (zB 2005 E2 E3 Z) Z<|Y<|aF [7,9]<|pq 0 (qf 0 n9 Z)<|sq 1 (gC oB Z)<|vq 2 (rf 0 uB Z)<|vq 3 (jj kb Z) ?_;refine abx (i:=4) rfl x_37 (A2 (F:=fY vs (l9 (d.cells.take k))) [] [] [] (fY vs (l9 (d.cells.take k))).length func229 (acr d.cells[k].bytes (hs.bc _ (List.getElem_mem hk))) ki List.drop_length List.take_length (Nat.le_refl _) x_40 (fun _ _ _ _=>trivial) rfl rfl) (.inr rfl) rfl ?_;rintro _ _ ⟨xz2,oz2,Fz2,hz2,hF2,hM2,rfl,rfl⟩;obtain⟨u1,rfl,rfl,rfl⟩:=hz2;have abt:dS (fY vs (l9 (d.cells.take k))++[qX u1 d.cells[k].bytes]):=dS.gJ x_32 hF2;refine fTt ((fY vs (l9 (d.cells.take k))++[qX u1 d.cells[k].bytes])) [1,2,3,9,10,11,16,19] [1,2,2001,2002,2003,2005] ?_;refine vq 5 (rd (x:=.agg [vV _]) (cP rfl acN rfl rfl rfl) rfl)<|bn 6 rfl (zS 2021 [[.v u1]] xE CB rfl x_55) (.inr rfl)<|bn 7 rfl (zP 1 xE CB VT rfl x_18 x_117) (.inl rfl)<|vq 8 (rf 0 n9 rfl)<|bn 9 rfl (zB 2003 VF VG rfl) (.inl rfl)<|fD<|gB<|gT<|aL<|bg Z<|ae Z<|Y ?_;refine⟨(k+1,vs++[u1]),⟨hk,by rw[List.length_append,gl];rfl⟩,by show d.cells.length-(k+1)<d.cells.length-k;omega,x_11,⟨(congrArg (AO.ai 195 1) TG.symm),trivial⟩,⟨rfl,rfl,rfl,rfl,rfl,trivial⟩,⟨rfl,rfl,rfl,rfl,trivial⟩,(by rw[Sy hk gl];exact ki)⟩
 intro V;refine aE<|eT<|eT<|eB<|gT<|aS<|aS ?_;have dZ:k=d.cells.length:=by have h:=V;simp only[decide_eq_false_iff_not]at h;omega
 subst dZ;rw[List.take_length]at ke jC ⊢;refine aL<|lf 1 ru Z<|bo sk Z<|ba vT Z ?_;refine dC 27 (int (d.bu.length:Int)) (congrArg (fun n:Nat=>int (n:Int)) (pH _)) ?_;refine ae Z<|Y<|aB ?_;refine E8 (D:=Nat×List Value) [(2,.ptr 2002 _ 0),(3,.ptr 2003 _ 0),(26,c7),(27,c6)] [(1,.ai _ _ _),(2001,.box _ _ [c7,c7]),(2002,.box _ _ [vV _,vV _]),(2003,.box _ _ [.own _,.own _])] (fun a=>[(28,int (a.1:Int))]) (fun a=>[(2,.ai 192 2 (lW a.2 (d.bu.take a.1)))]) (fun a=>fY vs (l9 d.cells)++fY a.2 (oQ (d.bu.take a.1))) (fun a=>a.1<=d.bu.length/\a.2.length=a.1) (fun a=>d.bu.length-a.1) ((0,[])) (⟨Nat.zero_le _,rfl⟩) ⟨rfl,trivial⟩ ⟨rfl,trivial⟩ ⟨rfl,rfl,rfl,rfl,trivial⟩ ⟨rfl,rfl,rfl,rfl,trivial⟩ (by rw[List.take_zero,show fY [] (oQ [])=[]from rfl,List.append_nil];exact ki) ?_;intro ⟨j,us⟩ hI;obtain⟨ro,NS⟩:=hI;replace ro:j<=d.bu.length:=ro;replace NS:us.length=j:=NS;have aet:dS (fY vs (l9 d.cells)++fY us (oQ (d.bu.take j))):=ke.gJ Ap;have ach:(fY us (oQ (d.bu.take j))).length=j:=by rw[Aa (by rw[List.length_map,List.length_take];omega),List.length_map,List.length_take];omega
 have vX:=SC NS ro;refine sL<|ak Z<|Y<|aS<|cE rfl ?_ ?_
 ·intro h2;refine aK<|gT<|aS<|aB<|aS ?_;have hj:j<d.bu.length:=by have h:=h2;simp only[decide_eq_true_eq]at h;omega
  have hlw:=hs.lw;have oF:=hs.lc;refine aL<|li j uz Z (td hj)<|d6 kj AY Z<|ab (zA 2007 CA Z) Z ?_;refine xH ((fY vs (l9 d.cells)++fY us (oQ (d.bu.take j)))) [2,3,7,26,27,28,31] [1,2,2001,2002,2003,2007] ?_;refine ab (zB 2007 E0 E1 Z) Z<|Y<|aF [9,11]<|pq 0 (qf 1 ru Z)<|sq 1 (gC sk Z)<|pq 2 (qf 0 xG Z)<|sq 3 (aZ ac Z)<|vq 4 (rf 1 zm Z)<|vq 5 (jj kb Z) ?_;refine abx (i:=6) rfl x_37 (A2 (F:=(fY vs (l9 d.cells)++fY us (oQ (d.bu.take j)))) [] [] [] ((fY vs (l9 d.cells)++fY us (oQ (d.bu.take j)))).length func229 (acr d.bu[j].bytes (hs.bw _ (List.getElem_mem hj))) ki List.drop_length List.take_length (Nat.le_refl _) x_40 (fun _ _ _ _=>trivial) rfl rfl) (.inr rfl) rfl ?_;rintro _ _ ⟨xz4,oz4,Fz4,hz4,hF4,hM4,rfl,rfl⟩;obtain⟨u2,rfl,rfl,rfl⟩:=hz4;have ads:dS ((fY vs (l9 d.cells)++fY us (oQ (d.bu.take j)))++[qX u2 d.bu[j].bytes]):=dS.gJ x_32 hF4;refine vq 7 (rd (x:=.agg [c6,vV _]) (cP rfl acq rfl rfl rfl) rfl)<|bn 8 rfl (zS 2040 [[.v (.int .i64 d.bu[j].at_),.v u2]] uz CA rfl x_55) (.inr rfl)<|bn 9 rfl (zP 2 uz CA VS rfl x_18 x_117) (.inl rfl)<|vq 10 (rf 1 ru rfl)<|bn 11 rfl (zB 2003 VH VI rfl) (.inl rfl)<|fD<|gB<|gT<|aL<|bg Z<|ae Z<|Y ?_;refine⟨(j+1,us++[u2]),⟨hj,by rw[List.length_append,NS];rfl⟩,by show d.bu.length-(j+1)<d.bu.length-j;omega,x_11,⟨(congrArg (AO.ai 192 2) (SA hj NS)),trivial⟩,⟨rfl,rfl,rfl,rfl,trivial⟩,⟨rfl,rfl,rfl,rfl,trivial⟩,(by rw[Sz hj NS];exact ki)⟩
 intro h2;refine aE<|eT<|eT<|eB<|gT<|aS ?_;have Ji:j=d.bu.length:=by have h:=h2;simp only[decide_eq_false_iff_not]at h;omega
 subst Ji;rw[List.take_length]at aet ach ⊢;have aeu:dS (sY vs us d):=TJ;refine aL<|aP qm mE Z<|ab (zB 2002 Dv Dw Z) Z ?_;refine xH ((sY vs us d)) [2] [1,2,2001,2002,2003] ?_;refine Y<|aR ?_;skip;refine vW (F1:=(sY vs us d)) (Gn) (DS vs us d) ?_ (by have:=hs.lc;have:=hs.lw;unfold sY;rw[List.length_append];omega) rfl rfl ⟨rfl,rfl,trivial⟩ ki;exact⟨vs,us,gl,NS,rfl,rfl,rfl⟩
theorem aev(d:du)(hs:DkS d):GN prog 155 [mt d] [] ([]) (aer d):=by
 refine GN.intro (rs:=[.cell 2 43 (some 2)]) func155 rfl ntmps155 x_8 x_80 rfl ?_;intro L O w0;refine sL<|ab (zX 2001 Z) Z<|ab (zA 2002 Du Z) Z<|nA<|ab (zA 2003 Du Z) Z<|Y<|aS<|aS ?_;refine AW.pi 1 2003 0 195 1 rfl x_3 rfl ?_;refine AW.pi 2 2003 1 192 2 rfl x_3 rfl ?_;refine aL<|lf 0 n9 Z<|bo oB Z<|ba po Z ?_;refine dC 10 (int (d.cells.length:Int)) (congrArg (fun n:Nat=>int (n:Int)) (fU _)) ?_;refine ae Z<|Y<|aB ?_;refine E8 (D:=Nat×List Value) [(1,.ptr 2001 _ 0),(2,.ptr 2002 _ 0),(3,.ptr 2003 _ 0),(9,c7),(10,c6)] [(2,.ai _ _ _),(2001,.box _ _ [c7,c7]),(2002,.box _ _ [vV _,vV _]),(2003,.box _ _ [.own _,.own _])] (fun a=>[(11,int (a.1:Int))]) (fun a=>[(1,.ai 195 1 (oR a.2))]) (fun a=>fY a.2 (l9 (d.cells.take a.1))) (fun a=>a.1<=d.cells.length/\a.2.length=a.1) (fun a=>d.cells.length-a.1) ((0,[])) (⟨Nat.zero_le _,rfl⟩) ⟨rfl,trivial⟩ ⟨rfl,trivial⟩ ⟨rfl,rfl,rfl,rfl,rfl,trivial⟩ ⟨rfl,rfl,rfl,rfl,trivial⟩ (by rw[List.take_zero];exact ki) ?_;intro ⟨k,vs⟩ hI;obtain⟨eN,gl⟩:=hI;replace eN:k<=d.cells.length:=eN;replace gl:vs.length=k:=gl;have ke:dS (fY vs (l9 (d.cells.take k))):=Ap;have jC:(fY vs (l9 (d.cells.take k))).length=k:=by rw[Aa (by rw[List.length_map,List.length_take];omega),List.length_map,List.length_take];omega
 refine sL<|ak Z<|Y<|aS<|cE rfl ?_ ?_
 ·intro V;refine aK<|gT<|aS<|aB<|aS ?_;have hk:k<d.cells.length:=by have h:=V;simp only[decide_eq_true_eq]at h;omega
  have oF:=hs.lc;refine aL<|li k xE Z (vw hk)<|d6 qN zn Z<|ab (zA 2005 CB Z) Z<|ab (zB 2005 E2 E3 Z) Z<|Y<|aF [7,9]<|pq 0 (qf 0 n9 Z)<|sq 1 (gC oB Z)<|vq 2 (rf 0 uB Z)<|vq 3 (jj kb Z) ?_;refine abx (i:=4) rfl x_37 (A2 (F:=fY vs (l9 (d.cells.take k))) [] [] [] (fY vs (l9 (d.cells.take k))).length func229 (acr d.cells[k].bytes (hs.bc _ (List.getElem_mem hk))) ki List.drop_length List.take_length (Nat.le_refl _) x_40 (fun _ _ _ _=>trivial) rfl rfl) (.inr rfl) rfl ?_;rintro _ _ ⟨xz2,oz2,Fz2,hz2,hF2,hM2,rfl,rfl⟩;obtain⟨u1,rfl,rfl,rfl⟩:=hz2;have abt:dS (fY vs (l9 (d.cells.take k))++[qX u1 d.cells[k].bytes]):=dS.gJ x_32 hF2;refine fTt ((fY vs (l9 (d.cells.take k))++[qX u1 d.cells[k].bytes])) [1,2,3,9,10,11,16,19] [1,2,2001,2002,2003,2005] ?_;refine vq 5 (rd (x:=.agg [vV _]) (cP rfl acN rfl rfl rfl) rfl)<|bn 6 rfl (zS 2021 [[.v u1]] xE CB rfl x_55) (.inr rfl)<|bn 7 rfl (zP 1 xE CB VT rfl x_18 x_117) (.inl rfl)<|vq 8 (rf 0 n9 rfl)<|bn 9 rfl (zB 2003 VF VG rfl) (.inl rfl)<|fD<|gB<|gT<|aL<|bg Z<|ae Z<|Y ?_;refine⟨(k+1,vs++[u1]),⟨hk,by rw[List.length_append,gl];rfl⟩,by show d.cells.length-(k+1)<d.cells.length-k;omega,x_11,⟨(congrArg (AO.ai 195 1) TG.symm),trivial⟩,⟨rfl,rfl,rfl,rfl,rfl,trivial⟩,⟨rfl,rfl,rfl,rfl,trivial⟩,(by rw[Sy hk gl];exact ki)⟩
 intro V;refine aE<|eT<|eT<|eB<|gT<|aS<|aS ?_;have dZ:k=d.cells.length:=by have h:=V;simp only[decide_eq_false_iff_not]at h;omega
 subst dZ;rw[List.take_length]at ke jC ⊢;refine aL<|lf 1 ru Z<|bo sk Z<|ba vT Z ?_;refine dC 27 (int (d.bu.length:Int)) (congrArg (fun n:Nat=>int (n:Int)) (pH _)) ?_;refine ae Z<|Y<|aB ?_;refine E8 (D:=Nat) [(2,.ptr 2002 _ 0),(3,.ptr 2003 _ 0),(26,c7),(27,c6)] [(1,.ai _ _ _),(2001,.box _ _ [c7,c7]),(2002,.box _ _ [vV _,vV _]),(2003,.box _ _ [.own _,.own _])] (fun a=>[(28,int (a:Int))]) (fun a=>[(2,.ai 192 2 (oT (d.bu.take a)))]) (fun a=>fY vs (l9 d.cells)) (fun a=>a<=d.bu.length) (fun a=>d.bu.length-a) (0) (Nat.zero_le _) ⟨rfl,trivial⟩ ⟨rfl,trivial⟩ ⟨rfl,rfl,rfl,rfl,trivial⟩ ⟨rfl,rfl,rfl,rfl,trivial⟩ ki ?_;intro j hI;have ro:j<=d.bu.length:=hI;refine sL<|ak Z<|Y<|aS<|cE rfl ?_ ?_
 ·intro h2;refine aK<|gT<|aS<|aB<|aS ?_;have hj:j<d.bu.length:=by have h:=h2;simp only[decide_eq_true_eq]at h;omega
  have hlw:=hs.lw;have oF:=hs.lc;refine aL<|li j uz Z (td hj)<|d6 kj AY Z<|ab (zA 2007 CA Z) Z ?_;refine xH (fY vs (l9 d.cells)) [2,3,7,26,27,28,31] [1,2,2001,2002,2003,2007] ?_;refine ab (zB 2007 E0 E1 rfl) Z<|Y<|aF [9,11]<|pq 0 (qf 1 ru rfl)<|sq 1 (gC sk rfl)<|pq 2 (qf 0 xG rfl)<|sq 3 (aZ ac rfl)<|vq 4 (rf 1 zm rfl)<|vq 5 (jj kb rfl)<|bn 6 rfl (zC [] [] [] func229 (TV d.bu[j].bytes (hs.bw _ (List.getElem_mem hj))) (trivial) rfl rfl) (.inr rfl)<|vq 7 (rd (x:=kj) (cP rfl acq rfl rfl rfl) rfl)<|bn 8 rfl (zS 2040 [[.v (.int .i64 d.bu[j].at_),nQ d.bu[j].bytes]] uz CA rfl x_55) (.inr rfl)<|bn 9 rfl (zP 2 uz CA VS rfl x_18 x_117) (.inl rfl)<|vq 10 (rf 1 ru rfl)<|bn 11 rfl (zB 2003 VH VI rfl) (.inl rfl)<|fD<|gB<|gT<|aL<|bg Z<|ae Z<|Y ?_;refine⟨(j+1),hj,by show d.bu.length-(j+1)<d.bu.length-j;omega,x_11,⟨(congrArg (AO.ai 192 2) (adr hj)),trivial⟩,⟨rfl,rfl,rfl,rfl,trivial⟩,⟨rfl,rfl,rfl,rfl,trivial⟩,ki⟩
 intro h2;refine aE<|eT<|eT<|eB<|gT<|aS ?_;have Ji:j=d.bu.length:=by have h:=h2;simp only[decide_eq_false_iff_not]at h;omega
 subst Ji;rw[List.take_length];refine aL<|aP qm mE Z<|ab (zB 2002 Dv Dw Z) Z ?_;refine xH (fY vs (l9 d.cells)) [2] [1,2,2001,2002,2003] ?_;refine Y<|aR ?_;skip;refine vW (F1:=fY vs (l9 d.cells)) (Gn) (obC vs d) ?_ (by have:=hs.lc;have:=hs.lw;omega) rfl rfl ⟨rfl,rfl,trivial⟩ ki;exact⟨vs,gl,rfl,rfl,rfl⟩
theorem acV{H:Nat->AO}{F:List AO}{a b:Nat}{pa pb:Option Value}{vs us:List Value}{d:du}{s:Nat}(hT:Tl H F)(ha:H a=.ai ⟨195,pa⟩ 1 (oR vs))(hb:H b=.ai ⟨192,pb⟩ 2 (lW us d.bu))(hv:vs.length=d.cells.length)(hu:us.length=d.bu.length)(hF:∀i,i<(sY vs us d).length->F[s+i]? = (sY vs us d)[i]?):Reads H (.agg [.own a,.own b]) (mt d):=by
 have l1:(fY vs (l9 d.cells)).length=d.cells.length:=by rw[Aa (by simpa using hv),List.length_map]
 have l2:(fY us (oQ d.bu)).length=d.bu.length:=by rw[Aa (by simpa using hu),List.length_map]
 have k1:∀i,i<d.cells.length->F[s+i]? = (fY vs (l9 d.cells))[i]?:=fun i hi=>by
  rw[hF i (by unfold sY;rw[List.length_append];omega)];unfold sY;rw[List.getElem?_append_left x_2]
 have k2:∀i,i<d.bu.length->F[s+d.cells.length+i]? = (fY us (oQ d.bu))[i]?:=fun i hi=>by
  rw[Nat.add_assoc,hF (d.cells.length+i) (by unfold sY;rw[List.length_append];omega)];unfold sY;rw[List.getElem?_append_right x_2];congr 1;omega
 intro L ρ w c bY hx;exact Reads.agg (.cons (Reads.own ha (SF hT hv k1)) (.cons (Reads.own hb (SG hT hu k2)) .nil)) bY hx
theorem SD{vs us:List Value}{d:du}(hv:vs.length=d.cells.length)(hu:us.length=d.bu.length):(sY vs us d).length=d.cells.length+d.bu.length:=by
 grind[sY,Aa]
theorem aew{vs us:List Value}{u:Value}{d:du}{i:Nat}{b:List Int}(hu:us.length=d.bu.length):sY vs us d++[qX u b]=sY vs (us++[u]) (v6 d i b):=by
 unfold sY v6;rw[List.append_assoc];exact congrArg (fY vs (l9 d.cells)++·) (by unfold oQ;rw[List.map_append];exact(K8 (by simpa using hu)).symm)
theorem aex{us:List Value}{u:Value}{d:du}{i:Nat}{b:List Int}(hu:us.length=d.bu.length):lW us d.bu++[[.v (.int .i64 (i:Int)),.v u]]=lW (us++[u]) (v6 d i b).bu:=(SB (w:=⟨i,b⟩) hu).symm
theorem ab7{d:du}{i:Nat}{b:List Int}(hd:ik d=true)(hi:i<d.cells.length)(hw:d.bu.length<600)(hb:b.length=128):ik (v6 d i b)=true:=by
 obtain⟨V,h2,h3⟩:=wL hd;refine PB (by unfold v6;simp;omega) h2 ?_;show (d.bu++[(⟨(i:Int),b⟩:gq)]).all (kS d.cells.length)=true;rw[List.all_append,h3];unfold kS aI;simp[hb];omega
theorem SE{f:FuncId}{args:List AV}{d:du}(h:GN prog f args [] [] (La d)):GC prog f args [] (mt d) []:=
 (GX.frozen (Z:=fun y=>y=mt d) (show GX prog f args [] _ from h) fun x ob ⟨l1,F1,hs,hF,hM,e,⟨vs,us,hv,hu,e1,e2,e3⟩⟩=>by
   subst e e1 e2 e3;refine⟨mt d,?_,rfl⟩;have hT:Tl (bx (DS vs us d++je 1000000 (sY vs us d))) (sY vs us d):=by rw[Gm rfl];exact Tl.tl hF
   have l1:(fY vs (l9 d.cells)).length=d.cells.length:=by rw[Aa x_14,List.length_map]
   exact Still.agg (H:=bx (DS vs us d++je 1000000 (sY vs us d))) (.cons (Still.own (id:=1) (e:=⟨195,none⟩) (sz:=1) (rows:=oR vs) rfl (SF hT hv (s:=0) fun i hi=>by simp_all[sY,List.getElem?_append_left]))
    (.cons (Still.own (id:=2) (e:=⟨192,none⟩) (sz:=2) (rows:=lW us d.bu) rfl (SG hT hu (s:=d.cells.length) fun i hi=>by grind[sY])) .nil))).mono fun y o ⟨e1,e2⟩=>⟨e2,e1⟩
def adt(d:du):AV->List (Nat×AO)->List AO->Prop:=fun y l1 F1=>∃vs us:List Value,vs.length=d.cells.length/\us.length=d.bu.length/\y=.au [Gn,aD true]/\l1=DS vs us d/\F1=sY vs us d
theorem aey(d:du)(i:Nat)(b:List Int)(hd:ik d=true)(hi:i<d.cells.length)(hw:d.bu.length<600)(hb:b.length=128):GN prog 174 [mt d,int (i:Int),gV b] [] ([]) (adt (v6 d i b)):=by
 refine GN.intro (rs:=[.cell 6 43 (some 2),.tmp 7]) func174 rfl ntmps174 x_8 ⟨rfl,rfl,mE,rfl,trivial⟩ rfl ?_;intro L O w0;refine sL<|ab (zX 2003 Z) Z<|ab (zA 2006 Du Z) Z<|ar Z<|Y<|aS<|aS ?_;have gR:=(wL hd).1;refine aL<|aP nq mE Z<|ab (zC [] [] [] func91 (J' d) (trivial) Z Z) Z<|bJ 10 true Z (hd)<|ma Z<|Y<|aN Z<|aK<|gA<|aP nq mE Z ?_;refine A1 (A2 (F:=[]) [(1,1),(2,2)] [1,2] [] ([]).length func155 (aes d (acF hd)) ki List.drop_length List.take_length (Nat.le_refl _) (by first|(simp;done)|(simp[Aa, *];omega)) (fun _ _ _ _=>trivial) rfl rfl) rfl ?_;rintro _ _ ⟨xz1,oz1,Fz1,fa,hF1,hM1,rfl,rfl⟩;obtain⟨vs,us,gl,NS,rfl,rfl,rfl⟩:=fa;have E7:dS ([]++sY vs us d):=dS.gJ x_32 hF1;refine ab (zA 2008 Du Z) Z<|ab (zB 2008 Dv Dw Z) Z<|Y<|aS<|aF [7,9]<|pq 0 (qf 1 ru Z)<|sq 1 (gC sk Z)<|pq 2 (gL c6 Z)<|vq 3 (ng Z) ?_;refine abx (i:=4) rfl x_37 (A2 (F:=([]++sY vs us d)) [] [] [] (([]++sY vs us d)).length func229 (acr b x_2) ki List.drop_length List.take_length (Nat.le_refl _) x_40 (fun _ _ _ _=>trivial) rfl rfl) (.inr rfl) rfl ?_;rintro _ _ ⟨xz3,oz3,Fz3,hz3,hF3,hM3,rfl,rfl⟩;obtain⟨u3,rfl,rfl,rfl⟩:=hz3;have acg:dS (([]++sY vs us d)++[qX u3 b]):=dS.gJ x_32 hF3;refine fTt ((([]++sY vs us d)++[qX u3 b])) [6,7,8,16,17,19] [1,2,2003,2006,2008] ?_;refine vq 5 (rd (x:=.agg [c6,vV _]) (cP rfl acq rfl rfl rfl) rfl)<|bn 6 rfl (zS 2021 [[.v (.int .i64 (i:Int)),.v u3]] uz CA rfl x_55) (.inr rfl)<|bn 7 rfl (zP 2 uz CA VS rfl x_18 (by first|(simp[K9 NS];done)|(simp[K9 NS];omega))) (.inl rfl)<|vq 8 (rf 1 ru rfl)<|bn 9 rfl (zB 2008 VH VI rfl) (.inl rfl)<|fD<|gT<|aS<|aS ?_;rw[List.nil_append,aew (i:=i) (b:=b) NS];have afH:dS (sY vs (us++[u3]) (v6 d i b)):=TJ;refine AW.obj 2 (.ai 192 2 (lW (us++[u3]) (v6 d i b).bu)) (congrArg (AO.ai 192 2) (aex NS)) ?_;refine aL<|aP qm mE Z<|ab (zLN func91 (J' (v6 d i b)) rfl (.cons (acV (vs:=vs) (us:=us++[u3]) (d:=(v6 d i b)) (s:=0) ki rfl rfl gl (by rw[List.length_append,NS];unfold v6;rw[List.length_append];rfl) (fun j _=>by rw[Nat.zero_add])) .nil)) Z<|bJ 25 true rfl (ab7 hd hi hw hb)<|ma Z<|Y<|aN Z<|aK<|gA<|aP qm mE Z<|ab (zB 2006 Dv Dw rfl) Z<|cI Z<|Y<|aR ?_;skip;refine vW (F1:=(sY vs (us++[u3]) (v6 d i b))) (.au [Gn,aD true]) (DS vs (us++[u3]) (v6 d i b)) ?_ (by unfold sY v6;rw[List.length_append,Aa (by simpa using gl),Aa (by simpa using NS)];simp;omega) rfl rfl ⟨rfl,rfl,trivial⟩ ki;exact⟨vs,us++[u3],gl,by rw[List.length_append,NS];unfold v6;rw[List.length_append];rfl,rfl,rfl,rfl⟩
theorem aez{f:FuncId}{args:List AV}{d:du}(h:GN prog f args [] [] (adt d)):GC prog f args [] (.au [mt d,aD true]) []:=
 (GX.frozen (Z:=fun y=>y=.au [mt d,aD true]) (show GX prog f args [] _ from h) fun x ob ⟨l1,F1,hs,hF,hM,e,⟨vs,us,hv,hu,e1,e2,e3⟩⟩=>by
   subst e e1 e2 e3;refine⟨.au [mt d,aD true],?_,rfl⟩;have hT:Tl (bx (DS vs us d++je 1000000 (sY vs us d))) (sY vs us d):=by rw[Gm rfl];exact Tl.tl hF
   have l1:(fY vs (l9 d.cells)).length=d.cells.length:=by rw[Aa (by simpa using hv),List.length_map]
   exact Still.au (H:=bx (DS vs us d++je 1000000 (sY vs us d))) (.cons (Still.agg (.cons (Still.own (id:=1) (e:=⟨195,none⟩) (sz:=1) (rows:=oR vs) rfl (SF hT hv (s:=0) fun i hi=>by unfold sY;rw[Nat.zero_add,List.getElem?_append_left x_2]))
    (.cons (Still.own (id:=2) (e:=⟨192,none⟩) (sz:=2) (rows:=lW us d.bu) rfl (SG hT hu (s:=d.cells.length) fun i hi=>by unfold sY;rw[List.getElem?_append_right x_2];congr 1;omega)) .nil))) (.cons (Still.p _) .nil))).mono fun y o ⟨e1,e2⟩=>⟨e2,e1⟩
theorem aeA(d:du)(i:Nat)(b:List Int)(hd:ik d=true)(hi:i<d.cells.length)(hw:d.bu.length<600)(hb:b.length=128):GC prog 174 [mt d,int (i:Int),gV b] [] (.au [mt (v6 d i b),aD true]) []:=aez (aey d i b hd hi hw hb)
def abE(d:du)(k:Nat):List Cell:=(d.bu.take k).foldl abT d.cells
theorem aeB{d:du}{k:Nat}(hk:k<d.bu.length):abE d (k+1)=abT (abE d k) d.bu[k]:=by
 unfold abE;rw[List.take_succ_eq_append_getElem hk,List.foldl_append];rfl
theorem adu:∀(l:List gq) (cs:List Cell),(l.foldl abT cs).length=cs.length
 |[],_=>rfl
 |w::l,cs=>by rw[List.foldl_cons,adu l];exact List.length_set ..
theorem abW(d:du)(k:Nat):(abE d k).length=d.cells.length:=adu _ _
theorem acu{d:du}(h:ik d=true):abM d=⟨abE d d.bu.length,[]⟩:=by unfold abM abE;rw[if_pos h,List.take_length]
theorem aeC{vs:List Value}{bs:List (List Int)}{i:Nat}{u:Value}{b:List Int}(h:vs.length=bs.length):fY (vs.set i u) (bs.set i b)=(fY vs bs).set i (qX u b):=by
 unfold fY;refine List.ext_getElem? fun j=>?_;rw[List.getElem?_zipWith,List.getElem?_set,List.getElem?_set,List.getElem?_set,List.length_zipWith,<-h,Nat.min_self,List.getElem?_zipWith];by_cases q:i=j
 ·subst q;simp only[if_true];by_cases z:i<vs.length
  ·rw[if_pos z,if_pos z,if_pos z]
  rw[if_neg z,if_neg z,if_neg z]
 rw[if_neg q,if_neg q,if_neg q]
theorem adv{vs:List Value}{cs:List Cell}{w:gq}{u:Value}(h:vs.length=cs.length):(fY vs (l9 cs)).set w.at_.toNat (qX u w.bytes)=fY (vs.set w.at_.toNat u) (l9 (abT cs w)):=by
 unfold abT l9;rw[List.map_set];exact(aeC (by simpa using h)).symm
theorem aeD{vs:List Value}{i:Nat}{u:Value}:(oR vs).set i [.v u]=oR (vs.set i u):=by unfold oR;rw[List.map_set]
theorem acW{d:du}(h:ik d=true){j:Nat}(hj:j<d.bu.length):0<=d.bu[j].at_/\d.bu[j].at_.toNat<d.cells.length:=by
 have:=List.all_eq_true.1 (wL h).2.2 _ (List.getElem_mem hj);unfold kS aI at this;simp only[Bool.and_eq_true,decide_eq_true_eq]at this;omega
theorem aeE{vs:List Value}{cs:List Cell}:fY vs (l9 cs)=sY vs [] ⟨cs,[]⟩:=(List.append_nil _).symm
theorem aeF(d:du)(hd:ik d=true):GN prog 139 [mt d] [] ([]) (La (abM d)):=by
 refine GN.intro (rs:=[.cell 2 43 (some 2)]) func139 rfl ntmps139 x_8 x_80 rfl ?_;intro L O w0;refine sL<|ab (zX 2001 Z) Z<|ab (zA 2002 Du Z) Z<|Y<|aS<|aS ?_;have gR:=(wL hd).1;refine aL<|aP nq mE Z<|ab (zC [] [] [] func91 (J' d) (trivial) Z Z) Z<|bJ 7 true Z (hd)<|ma Z<|Y<|aN Z<|aK<|gA<|aP nq mE Z ?_;refine A1 (A2 (F:=[]) [(1,1),(2,2)] [1,2] [] ([]).length func155 (aev d (acF hd)) ki List.drop_length List.take_length (Nat.le_refl _) (by first|(simp;done)|(simp[Aa, *];omega)) (fun _ _ _ _=>trivial) rfl rfl) rfl ?_;rintro _ _ ⟨xz1,oz1,Fz1,fa,hF1,hM1,rfl,rfl⟩;obtain⟨vs,gl,rfl,rfl,rfl⟩:=fa;have E7:dS ([]++fY vs (l9 d.cells)):=dS.gJ x_32 hF1;refine ab (zA 2003 Du Z) Z<|ab (zB 2003 Dv Dw Z) Z<|Y<|aS<|aS ?_;rw[List.nil_append];have abs:dS (fY vs (l9 d.cells)):=Ap;refine aL<|lf 1 ru Z<|iO sk Z<|ba vT Z ?_;refine dC 14 (int (d.bu.length:Int)) (congrArg (fun n:Nat=>int (n:Int)) (pH _)) ?_;refine ae Z<|Y<|aB ?_;refine E8 (D:=Nat×List Value) [(2,.ptr 2002 _ 0),(3,.ptr 2003 _ 0),(13,.own _),(14,c6)] [(2,.ai _ _ _),(2001,.box _ _ [c7,c7]),(2002,.box _ _ [vV _,vV _]),(2003,.box _ _ [.own _,.own _])] (fun a=>[(15,int (a.1:Int))]) (fun a=>[(1,.ai 195 1 (oR a.2))]) (fun a=>fY a.2 (l9 (abE d a.1))) (fun a=>a.1<=d.bu.length/\a.2.length=d.cells.length) (fun a=>d.bu.length-a.1) ((0,vs)) (⟨Nat.zero_le _,gl⟩) ⟨rfl,trivial⟩ ⟨rfl,trivial⟩ ⟨rfl,rfl,rfl,rfl,trivial⟩ ⟨rfl,rfl,rfl,rfl,trivial⟩ (by rw[show abE d 0=d.cells from rfl];exact ki) ?_;intro ⟨k,vs⟩ hI;clear gl;obtain⟨eN,gl⟩:=hI;replace eN:k<=d.bu.length:=eN;replace gl:vs.length=d.cells.length:=gl;have ke:dS (fY vs (l9 (abE d k))):=Ap;have jC:(fY vs (l9 (abE d k))).length=d.cells.length:=by rw[Aa (by rw[List.length_map,abW];exact gl),List.length_map,abW]
 refine sL<|ak Z<|Y<|aS<|cE rfl ?_ ?_
 ·intro V;refine aK<|gT<|aS<|aB<|aS ?_;have hk:k<d.bu.length:=by have h:=V;simp only[decide_eq_true_eq]at h;omega
  have MQ:=acW hd hk;refine aL<|lq (rj k uz rfl (by rw[pH];exact hk))<|lq (rd (x:=kj) (dT rfl AY rfl rfl rfl (td hk) rfl) rfl)<|ab (zA 2005 CA rfl) rfl ?_;refine xH (fY vs (l9 (abE d k))) [2,3,5,13,14,15,18] [1,2,2001,2002,2003,2005] ?_;refine ab (zB 2005 E0 E1 Z) Z<|Y<|aF [9]<|pq 0 (qf 0 n9 Z)<|sq 1 (gC oB Z)<|pq 2 (qf 0 xG Z)<|sq 3 (aZ ac Z)<|vq 4 (rf 1 zm Z)<|vq 5 (jj kb Z) ?_;refine abx (i:=6) rfl x_37 (A2 (F:=fY vs (l9 (abE d k))) [] [] [] (fY vs (l9 (abE d k))).length func229 (acr d.bu[k].bytes (by rw[Jk hd hk];decide)) ki List.drop_length List.take_length (Nat.le_refl _) x_40 (fun _ _ _ _=>trivial) rfl rfl) (.inr rfl) rfl ?_;rintro _ _ ⟨xz3,oz3,Fz3,hz3,hF3,hM3,rfl,rfl⟩;obtain⟨u1,rfl,rfl,rfl⟩:=hz3;have acg:dS (fY vs (l9 (abE d k))++[qX u1 d.bu[k].bytes]):=dS.gJ x_32 hF3;refine vq 7 (rd (x:=.ptr 1 _ 0) (pu (i:=d.bu[k].at_.toNat) rfl xE rfl rfl rfl ?hn1 (by rw[Ao,gl];exact MQ.2)) rfl) ?_;case hn1=>exact(Int.toNat_of_nonneg MQ.1).symm
  refine vq 8 (rf 0 uB rfl)<|bn 9 rfl (zQ 1 [.v u1] Ih Ii rfl (TH (by rw[gl];exact MQ.2))) (.inl rfl)<|fD<|gB<|gT ?_;refine mi ((fY vs (l9 (abE d k))++[qX u1 d.bu[k].bytes])) [2,3,13,14,15] [1,2,2001,2002,2003,2005] ?_;refine AW.acX d.bu[k].at_.toNat rfl acg (by rw[jC];exact MQ.2) ?_;have vD:dS ((fY vs (l9 (abE d k))).set d.bu[k].at_.toNat (qX u1 d.bu[k].bytes)):=by rw[adv (by rw[abW];exact gl)];exact Ap
  refine aL<|bg Z<|ae Z<|Y ?_;refine⟨(k+1,vs.set d.bu[k].at_.toNat u1),⟨hk,by rw[List.length_set];exact gl⟩,by show d.bu.length-(k+1)<d.bu.length-k;omega,x_11,⟨(congrArg (AO.ai 195 1) aeD),trivial⟩,⟨rfl,rfl,rfl,rfl,trivial⟩,⟨rfl,rfl,rfl,rfl,trivial⟩,(by rw[aeB hk,<-adv (by rw[abW];exact gl)];exact ki)⟩
 intro V;refine aE<|eT<|eT<|eB<|gT<|aS ?_;have dZ:k=d.bu.length:=by have h:=V;simp only[decide_eq_false_iff_not]at h;omega
 subst dZ;refine aL<|lf 1 ru Z<|ab (zB 2003 VH VI Z) Z<|Y<|aS ?_;refine mi ((fY vs (l9 (abE d d.bu.length)))) [2,3] [1,2001,2002,2003] ?_;refine AW.pi 2 2003 1 192 2 rfl x_3 rfl ?_;rw[aeE];have aeu:dS (sY vs [] ⟨abE d d.bu.length,[]⟩):=TJ;refine aL<|aP qm mE Z<|ab (zB 2002 Dv Dw Z) Z<|Y<|aR ?_;rw[acu hd];refine vW (F1:=(sY vs [] ⟨abE d d.bu.length,[]⟩)) (Gn) (DS vs [] ⟨abE d d.bu.length,[]⟩) ?_ (by unfold sY;rw[List.length_append,jC];simp[fY];omega) rfl rfl ⟨rfl,rfl,trivial⟩ ki;exact⟨vs,[],by rw[abW];exact gl,rfl,rfl,rfl,rfl⟩

theorem lg1{d:du}(h:ik d=false\/d.bu.length≠0):m1 d=1:=by
 unfold m1;rcases h with h|h
 ·rw[h];rfl
 rw[show (ik d&&decide (d.bu.length=0))=false by simp[h]];rfl
theorem lg2{d:du}(h:ik d=true)(h0:d.bu.length=0)(h2:(dH d).length=d.cells.length\/16000000<=m2 d):m1 d=2:=by
 unfold m1;rw[h,h0,if_pos x_19,if_pos h2]
theorem lg0{d:du}(h:ik d=true)(h0:d.bu.length=0)(h2:¬((dH d).length=d.cells.length\/16000000<=m2 d)):m1 d=0:=by
 unfold m1;rw[h,h0,if_pos x_19,if_neg h2]
theorem abU{d:du}(h:m1 d≠0):m4 d=⟨⟨[],[]⟩,0,0⟩:=if_neg h
theorem acE{d:du}(h:m1 d=0):m4 d=⟨abM (v6 d (dH d).length (oq ⟨(dH d).length,m2 d+1,[66]⟩)),(dH d).length+1,m2 d+1⟩:=if_pos h
theorem ab1{d:du}(h:m1 d≠0):ab9 d=[]:=if_neg h
theorem acG{d:du}(h:m1 d=0):ab9 d=f8 d:=if_pos h
theorem al4{l:uW}{e:aV}(h:ik l.bT=false\/aI l.next 0 l.bT.cells.length=false\/aI l.dP 1 16000000=false\/co e=false):aho l e=1:=by
 unfold aho;rw[if_neg];rcases h with h|h|h|h<;>simp[h]
theorem al0{l:uW}{e:aV}(V:ik l.bT=true)(h2:aI l.next 0 l.bT.cells.length=true)(h3:aI l.dP 1 16000000=true)(h4:co e=true)(h5:l.next=l.bT.cells.length\/600<=l.bT.bu.length):aho l e=2:=by
 unfold aho;rw[V,h2,h3,h4,if_pos x_19,if_pos h5]
theorem amx{l:uW}{e:aV}(V:ik l.bT=true)(h2:aI l.next 0 l.bT.cells.length=true)(h3:aI l.dP 1 16000000=true)(h4:co e=true)(h5:¬(l.next=l.bT.cells.length\/600<=l.bT.bu.length)):aho l e=0:=by
 unfold aho;rw[V,h2,h3,h4,if_pos x_19,if_neg h5]
theorem ahz{l:uW}{e:aV}(h:aho l e≠0):ahu l e=⟨⟨[],[]⟩,0,0⟩:=if_neg h
theorem aiw{l:uW}{e:aV}(h:aho l e=0):ahu l e=⟨v6 l.bT l.next.toNat (oq ⟨l.next,l.dP,rY e⟩),l.next+1,l.dP⟩:=if_pos h
theorem afU{l:uW}(h:ik l.bT=false):afM l=⟨⟨[],[]⟩,0,0⟩:=if_neg x_137
theorem afS{l:uW}(h:ik l.bT=true):afM l=⟨abM l.bT,l.next,l.dP⟩:=if_pos h
theorem aeG(b:List Int):0<=(kP b).dP/\(kP b).dP<=16000000:=by
 cases h:g8 b with
 |true=>rw[dv h];have:=(qW.1 (oN.1 h).2.2.1).2.1;omega
 |false=>rw[TD h];exact⟨Int.le_refl _,by decide⟩
theorem adw:∀(l:List (List Int)) (t:Int),0<=t/\t<=16000000->0<=l.foldl (fun t b=>max t (kP b).dP) t/\l.foldl (fun t b=>max t (kP b).dP) t<=16000000
 |[],t,h=>h
 |b::l,t,h=>by rw[List.foldl_cons];exact adw l _ (by have:=aeG b;omega)
theorem acY(d:du):0<=m2 d/\m2 d<=16000000:=by
 unfold m2;split
 ·exact adw _ 0 x_3
 decide
theorem acD{d:du}(h:ik d=true):(dH d).length<=d.cells.length:=by
 rw[DP h];have:=PI (bs:=oh d) (acc:=[]);rw[Jl]at this;simpa using this
theorem Ka(d:du):(f8 d).length<=600:=by
 grind[Gl,Gk,f8]
theorem adx{d:du}(h:ik d=true)(h2:(dH d).length<d.cells.length)(h3:m2 d<16000000):i8 ⟨(dH d).length,m2 d+1,[66]⟩=true:=qW.2 (by
 have:=(wL h).1;have:=acY d;simp;omega)
theorem ahS{n a b:Int}:aI n a b=true↔a<=n/\n<=b:=by unfold aI;simp
theorem ajC{l:uW}{e:aV}(V:ik l.bT=true)(h2:aI l.next 0 l.bT.cells.length=true)(h3:aI l.dP 1 16000000=true)(h5:l.next≠l.bT.cells.length):i8 ⟨l.next,l.dP,rY e⟩=true:=qW.2 (by
 have:=(wL V).1;have:=ahS.1 h2;have:=ahS.1 h3;rw[TF];simp only;omega)
abbrev obL(vs us:List Value)(d:du)(es:List aV):List (Nat×AO):=[(1,.ai 195 1 (oR vs)),(2,.ai 192 2 (lW us d.bu)),(3,uT es)]
def aci(d:du):AV->List (Nat×AO)->List AO->Prop:=fun y l1 F1=>∃vs us:List Value,vs.length=(m4 d).bT.cells.length/\us.length=(m4 d).bT.bu.length/\y=.au [.agg [.own 1,.own 2,int (m4 d).next,int (m4 d).dP],.own 3,int (m1 d)]/\l1=obL vs us (m4 d).bT (ab9 d)/\F1=sY vs us (m4 d).bT
theorem x_17{p:Prop}(c:p:=by have h:=V;simp only[gt_iff_lt,decide_eq_true_eq]at h;omega):p:=c
theorem x_21{p:Prop}(c:p:=by have h:=h2;simp only[gt_iff_lt,decide_eq_true_eq]at h;omega):p:=c
theorem x_47{p:Prop}(c:p:=by have h:=h3;simp only[decide_eq_true_eq]at h;omega):p:=c
theorem x_48{p:Prop}(c:p:=by have h:=h2;simp only[decide_eq_true_eq]at h;omega):p:=c
theorem x_50{p:Prop}(c:p:=by have h:=V;simp only[decide_eq_true_eq]at h;omega):p:=c
theorem x_54{p:Prop}(c:p:=by rw[hc];decide):p:=c
theorem x_78{p:Prop}(c:p:=by have h:=h4;simp only[decide_eq_true_eq]at h;omega):p:=c
theorem aeH(d:du)(hb:qK d):GN prog 85 [mt d] [] ([]) (aci d):=by
 refine GN.intro (rs:=[.cell 2 45 (some 4),.tmp 3,.tmp 4]) func85 rfl ntmps85 x_8 ⟨rfl,rfl,EY,rfl,rfl,trivial⟩ rfl ?_;intro L O w0;refine sL<|ab (zX 2001 Z) Z<|ab (zA 2002 Nx Z) Z<|e9 Z<|ao Z<|Y<|aS<|sL<|aP nq mE Z<|ab (zC [] [] [] func91 (J' d) (trivial) Z Z) Z<|bX Z<|aQ Z ?_;refine AL.bool (t:=15) rfl ?_ ?_
 ·intro V;refine aa Z<|aa Z<|aa Z<|aa Z<|aU Z<|Y<|aY Z<|sL<|lq (rd (x:=.agg [vV _,vV _,c6,c6]) (cP Z abQ Z Z Z) Z)<|ab (zB 2002 Nv Nw Z) Z<|e9 Z<|ao Z<|Y ?_;refine AW.pi 1 2002 0 195 1 rfl x_3 rfl ?_;refine AW.pi 2 2002 1 192 2 rfl x_3 rfl ?_;refine AW.oP 3 3 81 7 rfl ?_;refine aR<|rT ?_;have hc:m1 d=1:=lg1 (by first|exact .inl x_28|exact .inr x_17);have hL:=abU (d:=d) x_54;have hE:=ab1 (d:=d) x_54;unfold aci;rw[hc,hL,hE];refine vW (F1:=[]) (.au [.agg [.own 1,.own 2,int 0,int 0],.own 3,int 1]) (obL [] [] ⟨[],[]⟩ []) ?_ x_3 rfl rfl ⟨rfl,rfl,rfl,trivial⟩ ki;exact⟨[],[],rfl,rfl,rfl,rfl,rfl⟩
 intro V;refine lf 1 ru Z<|bo sk Z<|ba vT Z ?_;refine dC 18 (int (d.bu.length:Int)) (congrArg (fun n:Nat=>int (n:Int)) (pH _)) ?_;refine ak Z<|bj Z<|Y<|cE rfl ?_ ?_
 ·intro h2;refine sL<|lq (rd (x:=.agg [vV _,vV _,c6,c6]) (cP Z abQ Z Z Z) Z)<|ab (zB 2002 Nv Nw Z) Z ?_;refine xH ([]) [1,2,3,4] [2001,2002] ?_;refine e9 Z<|ao Z<|Y ?_;refine AW.pi 1 2002 0 195 1 rfl x_3 rfl ?_;refine AW.pi 2 2002 1 192 2 rfl x_3 rfl ?_;refine AW.oP 3 3 81 7 rfl ?_;refine aR<|rT ?_;have hc:m1 d=1:=lg1 (by first|exact .inl x_38|exact .inr x_21|exact .inl x_28|exact .inr x_17);have hL:=abU (d:=d) x_54;have hE:=ab1 (d:=d) x_54;unfold aci;rw[hc,hL,hE];refine vW (F1:=[]) (.au [.agg [.own 1,.own 2,int 0,int 0],.own 3,int 1]) (obL [] [] ⟨[],[]⟩ []) ?_ x_3 rfl rfl ⟨rfl,rfl,rfl,trivial⟩ ki;exact⟨[],[],rfl,rfl,rfl,rfl,rfl⟩
 intro h2;refine aK<|gT<|aS ?_;have hd:ik d=true:=by first|(have h:=h2;simpa using h;done)|(have h:=V;simpa using h;done)
 have yz:d.bu.length=0:=by first|(have h:=h2;simp only[gt_iff_lt,decide_eq_false_iff_not]at h;omega;done)|(have h:=V;simp only[gt_iff_lt,decide_eq_false_iff_not]at h;omega;done)
 have hle:=acD hd;have gR:=(wL hd).1;obtain⟨Tv,ht1⟩:=acY d;refine aL<|aP nq mE Z<|ab (zC [] [] [] func93 (Kb d hb) (trivial) Z Z) Z<|cT (.au [c7,c6]) Z<|rF Z<|dE Z<|nv Z<|ao Z<|nA<|aP nq mE Z<|ab (zC [] [] [] func172 (aeI d hb) (trivial) Z Z) Z<|ao Z<|Y<|aS<|sL<|ae Z<|lf 0 n9 Z<|bo oB Z<|ba po Z ?_;refine dC 32 (int (d.cells.length:Int)) (congrArg (fun n:Nat=>int (n:Int)) (fU _)) ?_;refine ak Z<|aQ Z ?_;refine AL.bool (t:=34) rfl ?_ ?_
 ·intro h3;refine aa Z<|aa Z<|aU Z<|Y<|aY Z<|sL<|lq (rd (x:=.agg [vV _,vV _,c6,c6]) (cP Z abQ Z Z Z) Z)<|ab (zB 2002 Nv Nw Z) Z ?_;refine xH ([]) [1,2,3,4,6,7] [2001,2002] ?_;refine e9 Z<|ao Z<|Y ?_;refine AW.pi 1 2002 0 195 1 rfl x_3 rfl ?_;refine AW.pi 2 2002 1 192 2 rfl x_3 rfl ?_;refine AW.oP 3 3 81 7 rfl ?_;refine aR<|rT ?_;have hc:m1 d=2:=lg2 hd yz (by first|exact .inl x_47|exact .inr (by have h:=h3;simpa using h)|exact .inl x_48|exact .inr x_67|exact .inl x_50|exact .inr (by have h:=V;simpa using h));have hL:=abU (d:=d) x_54;have hE:=ab1 (d:=d) x_54;unfold aci;rw[hc,hL,hE];refine vW (F1:=[]) (.au [.agg [.own 1,.own 2,int 0,int 0],.own 3,int 2]) (obL [] [] ⟨[],[]⟩ []) ?_ x_3 rfl rfl ⟨rfl,rfl,rfl,trivial⟩ ki;exact⟨[],[],rfl,rfl,rfl,rfl,rfl⟩
 intro h3;refine ae Z<|ak Z<|bj Z<|Y<|cE rfl ?_ ?_
 ·intro h4;refine sL<|lq (rd (x:=.agg [vV _,vV _,c6,c6]) (cP Z abQ Z Z Z) Z)<|ab (zB 2002 Nv Nw Z) Z<|e9 Z<|ao Z<|Y ?_;refine AW.pi 1 2002 0 195 1 rfl x_3 rfl ?_;refine AW.pi 2 2002 1 192 2 rfl x_3 rfl ?_;refine AW.oP 3 3 81 7 rfl ?_;refine aR<|rT ?_;have hc:m1 d=2:=lg2 hd yz (by first|exact .inl x_78|exact .inr (by have h:=h4;simpa using h)|exact .inl x_47|exact .inr (by have h:=h3;simpa using h)|exact .inl x_48|exact .inr x_67|exact .inl x_50|exact .inr (by have h:=V;simpa using h));have hL:=abU (d:=d) x_54;have hE:=ab1 (d:=d) x_54;unfold aci;rw[hc,hL,hE];refine vW (F1:=[]) (.au [.agg [.own 1,.own 2,int 0,int 0],.own 3,int 2]) (obL [] [] ⟨[],[]⟩ []) ?_ x_3 rfl rfl ⟨rfl,rfl,rfl,trivial⟩ ki;exact⟨[],[],rfl,rfl,rfl,rfl,rfl⟩
 intro h4;refine aK<|gT<|aS ?_;have hn:¬((dH d).length=d.cells.length\/16000000<=m2 d):=by
  have V:=h3;have h2:=h4;simp only[ge_iff_le,decide_eq_false_iff_not]at V h2;omega
 have eI:(dH d).length<d.cells.length:=by omega
 have hS:=adx hd eI x_2;have hBl:(oq ⟨(dH d).length,m2 d+1,[66]⟩).length=128:=TB x_8;refine aL<|ae Z<|ae Z<|bg Z<|ab (zS 2043 (ah dF [66]) fh ie Z) Z<|lq (rd (x:=qu) (cP Z r9 Z Z Z) Z) ?_;refine AL.freeze 2043 rfl ?_;refine ab (zC [] [] [] func173 (T0 (⟨(dH d).length,m2 d+1,[66]⟩:fb)) (trivial) rfl rfl) rfl ?_;refine dC 45 (.au [gV (oq (⟨(dH d).length,m2 d+1,[66]⟩:fb)),aD true]) (Eq.trans (b:=AV.au [gV (r8 (⟨(dH d).length,m2 d+1,[66]⟩:fb)),aD (i8 (⟨(dH d).length,m2 d+1,[66]⟩:fb))]) rfl (by rw[At hS,hS])) ?_;refine xH ([]) [1,2,3,4,6,7,45] [2001,2002] ?_;refine cT (.au [c7,fy]) Z<|rF Z<|eU Z<|nv Z<|bv Z<|nA<|aP nq mE Z<|ae Z<|bm Z ?_;refine ab (zC [] [] [] func174 (aeA d (dH d).length (oq (⟨(dH d).length,m2 d+1,[66]⟩:fb)) hd eI x_2 hBl) (trivial) rfl rfl) Z<|cT (.au [nq,fy]) Z<|iB nq Z<|eU Z<|ab (zA 2010 Du rfl) Z<|ab (zB 2010 Dv Dw rfl) rfl ?_;refine xH ([]) [1,2,3,4,6,7,10,54] [2001,2002,2010] ?_;refine bv Z<|Y<|aS<|aF [9]<|sq 0 (dw nq mE rfl)<|pq 2 (gL c6 rfl)<|sq 3 (qV rfl (by unfold i64;omega))<|pq 4 (gL c6 rfl)<|sq 5 (qV rfl (by unfold i64;omega))<|sq 7 (dw nq mE rfl) ?_;refine abx (i:=1) rfl x_37 (A2 (F:=[]) [(1,1),(2,2)] [1,2] [] ([]).length func139 (aeF (v6 d (dH d).length (oq ⟨(dH d).length,m2 d+1,[66]⟩)) (ab7 hd eI x_2 hBl)) ki List.drop_length List.take_length (Nat.le_refl _) (x_19) (fun _ _ _ _=>trivial) rfl rfl) (.inr rfl) rfl ?_;rintro _ _ ⟨xz2,oz2,Fz2,hz2,hF2,hM2,rfl,rfl⟩;obtain⟨vs,us,gl,NS,rfl,rfl,rfl⟩:=hz2;have abt:dS ([]++sY vs us (abM (v6 d (dH d).length (oq ⟨(dH d).length,m2 d+1,[66]⟩)))):=dS.gJ x_32 hF2;refine sq 6 (rd (x:=qb) (cP Z abQ Z Z Z) Z)<|bn 8 Z (zC [(1,3)] [3] [] func33 (QU d hb) (trivial) Z Z) (.inr Z)<|bn 9 Z (zB 2002 Nv Nw Z) (.inl Z)<|vq 10 (tF Z)<|vq 11 (j8 Z)<|fD<|gT<|aR ?_;have hc:m1 d=0:=lg0 hd yz hn;have hL:=acE hc;have hE:=acG hc;have abu:dS (sY vs us (abM (v6 d (dH d).length (oq ⟨(dH d).length,m2 d+1,[66]⟩)))):=TJ;rw[List.nil_append];unfold aci;rw[hc,hL,hE];refine vW (F1:=(sY vs us (abM (v6 d (dH d).length (oq ⟨(dH d).length,m2 d+1,[66]⟩))))) (.au [.agg [.own 1,.own 2,int (((dH d).length:Int)+1),int (m2 d+1)],.own 3,int 0]) (obL vs us (abM (v6 d (dH d).length (oq ⟨(dH d).length,m2 d+1,[66]⟩))) (f8 d)) ?_ (by rw[SD gl NS,acu (ab7 hd eI x_2 hBl),abW];show d.cells.length+0<=_;omega) rfl rfl ⟨rfl,rfl,rfl,trivial⟩ ki;exact⟨vs,us,gl,NS,rfl,rfl,rfl⟩

abbrev Sf(x:aw)(l:List aO)(c:Int):AV:=.rp [.v (.int .i64 x.tick),.v (.int .i64 x.next),.v (.int .i64 x.aA),.ab 159 7 (ah aX x.ag),.ab 218 7 (ah go x.an),.ab 220 5 (ah iX x.aq),.ab 167 3 (ah ct l),.v (.int .i64 c)]
def d8(x:aw)(e:aV):Bool:=
 if x.next=1125899906842624 then true
 else if e.kind=1 then decide (1125899906842624<x.aA+e.af)
 else if e.kind=2 then decide (1125899906842624<e.af+e.ay)
 else if e.kind=3/\0<=eS x.ag e.ch then decide (1125899906842624<x.aA+(fz x.ag e.ch).loc-e.ay)
 else if e.kind=8 then decide (x.tick=1125899906842624)
 else false
def bk(n:Int):Prop:=-1125899906842624<=n/\n<=1125899906842624
structure kL(x:aw):Prop where
 tick:bk x.tick
 next:bk x.next
 aA:bk x.aA
 ag:∀c∈x.ag,bk c.loc/\bk c.aC/\bk c.cM/\bk c.base/\bk c.br
 an:∀h∈x.an,bk h.cW/\bk h.c9/\0<=h.jP/\h.jP<=1125899906842624/\0<=h.c9
 aq:∀c∈x.aq,bk c.af/\bk c.ay
 lc:x.ag.length<=20
 lh:x.an.length<=60
 li:x.aq.length<=20
structure m8(e:aV):Prop where
 af:bk e.af
 ay:bk e.ay
theorem dB{α:Type}{l:List α}{i:Nat}{c:α}(h:l[i]? = some c):c∈l:=List.mem_of_getElem? h
theorem kL.hs{x:aw}(h:kL x):qQ x.an:=⟨h.lh,fun y hy=>⟨(h.an y hy).2.2.2.2,(h.an y hy).2.1.2⟩⟩
def kO{α:Type}(f:α->α)(k:Nat)(l:List α):List α:=(l.take k).map f++l.drop k
theorem DL{α:Type}(f:α->α)(l:List α):kO f 0 l=l:=by rfl
theorem DM{α:Type}(f:α->α)(l:List α):kO f l.length l=l.map f:=by simp[kO]
theorem yr{α:Type}(f:α->α)(k:Nat)(l:List α)(h:k<=l.length):(kO f k l).length=l.length:=by grind[kO]
theorem tU{α:Type}(f:α->α){k:Nat}{l:List α}(h:k<l.length):(kO f k l)[k]? = some l[k]:=by
 unfold kO;grind
theorem BN{α:Type}(f:α->α){k:Nat}{l:List α}(h:k<l.length):(kO f k l).set k (f l[k])=kO f (k+1) l:=by
 unfold kO;rw[List.set_append_right _ _ x_74];simp only[List.length_map,List.length_take,Nat.min_eq_left (Nat.le_of_lt h),Nat.sub_self];grind[List.drop_eq_getElem_cons]
theorem Gd{α:Type}(f:α->α){k:Nat}{l:List α}(h:k<l.length)(hf:f l[k]=l[k]):kO f k l=kO f (k+1) l:=by
 grind[BN,tU,List.set_getElem_self]
theorem DN{α:Type}{enc:α->List Value}{l:List α}{c:α}{k:Nat}:((((ah enc l).drop 0).take (k-0))++ah enc [c])++(((ah enc l).drop k).take ((ah enc l).length-k))=ah enc (l.take k++[c]++l.drop k):=by
 simp[List.take_of_length_le,ah]
theorem Ge{α:Type}{enc:α->List Value}{l:List α}{k:Nat}:(((ah enc l).drop 0).take (k-0))++(((ah enc l).drop (k+1)).take ((ah enc l).length-(k+1)))=ah enc (l.take k++l.drop (k+1)):=by
 simp[List.take_of_length_le,ah]
def kx(h:eV):eV:={ h with jP:=min (h.jP+1) 1125899906842624 }
def l8(t:Int)(c:be):be:=if (t+1).tmod 5=0 then { c with cM:=lA c.cM } else c
def p'(x:aw):WR:=⟨{ x with tick:=x.tick+1,an:=x.an.map kx,ag:=x.ag.map (l8 x.tick) },[],0⟩
def lV(l:List be)(ch:Int):Nat:=l.findIdx fun d=>!decide (d.id<ch)
def ly(l:List be)(c:be):List be:=l.take (lV l c.id)++[c]++l.drop (lV l c.id)
theorem KZ{l:List be}{ch:Int}{k:Nat}(hk:k<=l.length)(h:∀j (h:j<l.length),j<k->l[j].id<ch)(h2:∀h:k<l.length,¬l[k].id<ch):lV l ch=k:=by
 unfold lV;grind
theorem Sg{l:List be}{ch:Int}{k:Nat}(hk:k<l.length)(bB:∀j (h:j<l.length),j<k->l[j].id<ch)(h2:l[k].id<ch):∀j (h:j<l.length),j<k+1->l[j].id<ch:=fun j hj eI=>by
 grind
def gO(x:aw)(e:aV):Int:=bE (decide (x.aA<e.af)) (bE (decide (0<=eS x.ag e.ch)||decide ((20:Int)<=(x.ag.length:Int))) 0 3) 4
def sJ(x:aw)(e:aV):WR:=if gO x e=0 then ⟨{ x with ag:=ly x.ag ⟨e.ch,e.af+e.ay,e.af,e.ay,0,0,0⟩,aA:=x.aA-e.af },bR (bR [] 6 e.ch e.af) 1 0 (-e.af),0⟩else ⟨x,[],gO x e⟩
theorem sK{x:aw}{e:aV}(h:gO x e≠0):sJ x e=⟨x,[],gO x e⟩:=if_neg h
theorem tK{x:aw}{e:aV}(h:gO x e=0):sJ x e=⟨{ x with ag:=ly x.ag ⟨e.ch,e.af+e.ay,e.af,e.ay,0,0,0⟩,aA:=x.aA-e.af },bR (bR [] 6 e.ch e.af) 1 0 (-e.af),0⟩:=if_pos h
theorem gP{n:Int}(h:bk n):dL n=true:=cJ.2 h
theorem jM{n:Int}(h:bk n):dL (-n)=true:=cJ.2 (by grind[bk])
theorem x_77{p:Prop}(c:p:=by have:=sm.aA;have:=es.af;have:=es.ay;unfold bk at *;unfold i64;omega):p:=c
theorem Sh(x:aw)(e:aV)(sm:kL x)(es:m8 e):GC prog 111 [cj x,ju e] [] (aD (d8 x e)) []:=by
 have hm:x.ag.length<=1000000000:=by have:=sm.lc;omega
 have mG:x.an.length<=1000000000:=by have:=sm.lh;omega
 have lr:x.aq.length<=1000000000:=by have:=sm.li;omega
 refine gi 4 func111 rfl ntmps111 rfl ?_;intro L O w0;refine sL<|ab (zX 2002 Z) Z<|ab (zX 2003 Z) Z<|ar Z<|nA<|aP h1 cu Z<|lf 2 dn Z<|aj ac Z ?_;rcases jt x.ag e.ch with⟨hi,ho⟩|⟨i,c,hi,hc,ho,hid⟩
 ·skip;refine ab (zL func125 (z2 x _ hm) Z) Z<|ao Z<|Y<|aS<|aB<|sL<|lf 1 mW Z<|aj ac Z<|ak Z<|bv Z<|Y<|cE rfl ?_ ?_
  ·intro V;refine sL<|cI Z<|Y<|aR<|rB<|rT ?_;refine az trivial ?_;grind[d8]
  intro V;refine sL<|lf 0 jz Z<|aj ac Z<|ak Z<|bv Z<|Y<|cE rfl ?_ ?_
  ·intro h2;refine sL<|lf 2 iW Z<|aj ac Z<|lf 4 bN Z<|aj ac Z ?_;refine eo rfl ⟨rfl,ce x_77⟩<|ak Z<|bv Z<|Y<|aR<|rB<|rT ?_;refine az trivial ?_;grind[d8]
  intro h2;refine sL<|lf 0 jz Z<|aj ac Z<|ak Z<|bv Z<|Y<|cE rfl ?_ ?_
  ·intro h3;refine sL<|lf 4 bN Z<|aj ac Z<|lT [3,4,29] [2002,2003] ?_;refine lf 5 fC Z<|aj ac Z ?_;refine eo rfl ⟨rfl,ce x_77⟩<|ak Z<|bv Z<|Y<|aR<|rB<|rT ?_;refine az trivial ?_;grind[d8]
  intro h3;refine sL<|lf 0 jz Z<|aj ac Z<|ak Z<|aQ Z ?_;refine AL.bool (t:=38) rfl ?_ ?_
  ·intro h4;refine ae Z<|ak Z<|bJ 40 false rfl (by grind[eW])<|bL Z<|ar Z<|Y<|aN Z<|sL<|lf 0 jz Z<|aj ac Z<|ak Z<|bv Z<|Y<|cE rfl ?_ ?_
   ·intro h5;refine sL<|lf 0 mB Z<|aj ac Z<|ak Z<|bv Z<|Y<|aR<|rB<|rT ?_;grind
   intro h5;refine aK<|gB<|gA<|ar Z<|Y<|aR ?_;refine az trivial ?_;grind[d8]
  intro h4;refine aa Z<|aa Z<|bL Z<|ar Z<|Y<|aN Z<|sL<|lf 0 jz Z<|aj ac Z<|ak Z<|bv Z<|Y<|cE rfl ?_ ?_
  ·intro h6;refine sL<|lf 0 mB Z<|aj ac Z<|lT [4,60] [2002,2003] ?_;refine ak Z<|bv Z<|Y<|aR<|rB<|rT ?_;refine az trivial ?_;grind[d8]
  intro h6;refine aK<|gB<|gA<|ar Z<|Y<|aR ?_;refine az trivial ?_;grind[d8]
 have bC:=sm.ag c (dB hc);refine ab (zL func125 (z2 x _ hm) Z) Z<|ao Z<|Y<|aS<|aB<|sL<|lf 1 mW Z<|aj ac Z<|ak Z<|bv Z<|Y<|cE rfl ?_ ?_
 ·intro h7;refine sL<|cI Z<|Y<|aR<|rB<|rT ?_;refine az trivial ?_;grind[d8]
 intro h7;refine sL<|lf 0 jz Z<|aj ac Z<|ak Z<|bv Z<|Y<|cE rfl ?_ ?_
 ·intro h8;refine sL<|lf 2 iW Z<|aj ac Z<|lf 4 bN Z<|aj ac Z ?_;refine eo rfl ⟨rfl,ce x_77⟩<|ak Z<|bv Z<|Y<|aR<|rB<|rT ?_;refine az trivial ?_;grind[d8]
 intro h8;refine sL<|lf 0 jz Z<|aj ac Z<|ak Z<|bv Z<|Y<|cE rfl ?_ ?_
 ·intro h9;refine sL<|lf 4 bN Z<|aj ac Z<|lf 5 fC Z<|aj ac Z ?_;refine eo rfl ⟨rfl,ce x_77⟩<|lT [4,32] [2002,2003] ?_;refine ak Z<|bv Z<|Y<|aR<|rB<|rT ?_;refine az trivial ?_;grind[d8]
 intro h9;refine sL<|lf 0 jz Z<|aj ac Z<|ak Z<|aQ Z ?_;refine AL.bool (t:=38) rfl ?_ ?_
 ·intro dh;refine ae Z<|ak Z<|bJ 40 true rfl (by rw[<-eW,hi];simp)<|aU Z<|cI Z<|Y<|aY Z<|aS<|aG 13 []<|tq 0 (rf 2 iW rfl)<|tq 1 (aZ ac rfl)<|tq 2 (rf 3 dr rfl)<|tq 3 (jj eg rfl)<|tq 4 (dW rfl)<|tq 5 (rd (x:=.rp _) (yt (i:=i) rfl cz rfl rfl ?hn1 (dk hc)) rfl) ?_;case hn1=>rw[<-eW];exact hi
  refine tq 6 (rd (x:=.rp _) (nM fH Z) Z)<|tq 7 (qU ac Z) ?_;refine tq 8 (iC rfl ⟨rfl,ce (by have:=bC.1;have:=sm.aA;have:=es.af;have:=es.ay;unfold bk at *;unfold i64;omega)⟩)<|yq 9 (rf 5 fC rfl)<|yq 10 (aZ ac rfl) ?_;refine yq 11 (iC rfl ⟨rfl,ce (by have:=bC.1;have:=sm.aA;have:=es.af;have:=es.ay;unfold bk at *;unfold i64;omega)⟩)<|yq 12 (dt rfl)<|yq 13 (fk rfl)<|gD<|gT<|aR<|rB<|rT ?_;refine az trivial ?_;grind[d8]
 intro dh;refine aa Z<|aa Z<|bL Z<|ar Z<|Y<|aN Z<|sL<|lf 0 jz Z<|aj ac Z<|ak Z<|bv Z<|lT [2,4,55] [2002,2003] ?_;refine Y<|cE rfl ?_ ?_
 ·intro gp;refine sL<|lf 0 mB Z<|aj ac Z<|ak Z<|bv Z<|Y<|aR<|rB<|rT ?_;refine az trivial ?_;grind[d8]
 intro gp;refine aK<|gB<|gA<|ar Z<|Y<|aR ?_;refine az trivial ?_;grind[d8]
theorem Si(x:aw)(l:List aO)(c:Int)(fI to:be)(e:aV)(sm:qQ x.an):GC prog 216 [Sf x l c,KX fI,KX to,ju e] [] (int (BE x.an fI to e.to e.af e.yes)) []:=by
 refine gi 8 func216 rfl ntmps216 rfl ?_;intro L O w0;refine sL<|ab (zX 2005 Z) Z<|ab (zX 2006 Z) Z<|ab (zX 2007 Z) Z<|ao Z<|nA<|ao Z<|ao Z<|ao Z<|ao Z<|Y<|aS<|sL<|cT (.rp _) Z<|lq (rd (x:=.rp _) (Sj Z Z) Z)<|lq (rd (x:=.rp _) (nM dR Z) Z)<|lq (rd (x:=.rp _) (nM eF Z) Z)<|DO fS Z<|ba jb Z<|ae Z<|Y<|aB ?_;refine aW [5,6,7,8,19,20] [2005,2006,2007] (D:=Nat) (fun k=>[(9,int (bG (rJ e.to) (x.an.take k))),(10,int (bG (dK e.to) (x.an.take k))),(11,int (bG (rL e.to) (x.an.take k))),(12,int (bG (rK e.to) (x.an.take k))),(21,int (k:Int))]) (fun k=>[]) (fun k=>k<=x.an.length) (fun k=>x.an.length-k) (0) (Nat.zero_le _) ⟨rfl,rfl,rfl,rfl,rfl,trivial⟩ trivial ?_;intro k hI;have b0:=sm.1;have b1:=sm.ez e.to k;have b2:=sm.all e.to k;have b3:=sm.KM e.to k;have b4:=sm.one e.to k;refine sL<|ak Z<|Y<|aS<|cE rfl ?_ ?_
 ·intro V;refine aK<|gT<|aS<|aB<|sL ?_;have hk:k<x.an.length:=by simpa[ap]using V
  have b5:=sm.at hk;refine li k f7 Z (bS hk)<|d6 nG kZ Z<|ab (zA 2014 iu Z) Z<|lT [5,6,7,8,9,10,11,12,14,19,20,21,24] [2005,2006,2007,2014] ?_;refine ab (zB 2014 nJ nL Z) Z<|Y<|aS<|sL<|lf 2 mJ Z<|aj ac Z<|lf 3 fK Z<|aj ac Z<|ak Z<|Y<|cE rfl ?_ ?_
  ·intro h2;refine aE<|eT<|eB<|gT<|aL<|bg Z<|ae Z<|Y ?_;refine⟨k+1,hk,by omega,⟨(congrArg int (rM hk (by simp_all[rJ])).symm),(congrArg int (rM hk (by simp_all[dK])).symm),(congrArg int (rM hk (by simp_all[rL])).symm),(congrArg int (rM hk (by simp_all[rK])).symm),(iq rfl),trivial⟩,trivial,rfl,rfl⟩
  intro h2;refine aK<|gA<|ae Z<|lf 4 kw Z<|aj ac Z<|bg Z<|ao Z<|nA<|ae Z<|bg Z<|ao Z<|nA<|lf 5 BF Z<|tT jN Z<|bX Z<|Y<|cE rfl ?_ ?_
  ·intro h3;refine sL<|ae Z<|lf 4 kw Z<|aj ac Z<|bg Z<|ao Z<|Y<|aL<|ae Z<|bg Z<|ao Z<|lN<|gB<|gT<|aL<|bg Z<|ae Z<|Y ?_;have he:x.an[k].out=e.to:=by simpa using h2
   have m':x.an[k].kept=false:=by simpa using h3
   refine⟨k+1,hk,by omega,⟨(Eq.trans (b:=int _) rfl (congrArg int (rN hk (by grind[rJ])))),x_95,(Eq.trans (b:=int _) rfl (congrArg int (rN hk (by grind[rL])))),x_94,(iq rfl),trivial⟩,trivial,rfl,rfl⟩
  intro h3;refine aK<|gB<|gT<|aL<|bg Z<|lT [5,6,7,8,9,10,11,12,19,20,21,45] [2005,2006,2007,2014] ?_;refine ae Z<|Y ?_;have he:x.an[k].out=e.to:=by simpa using h2
  have m':x.an[k].kept=true:=by simpa using h3
  refine⟨k+1,hk,by omega,⟨(congrArg int (rM hk (by grind[rJ])).symm),x_95,(congrArg int (rM hk (by grind[rL])).symm),x_94,(iq rfl),trivial⟩,trivial,rfl,rfl⟩
 intro V;refine aE<|eT<|eT<|eB<|gT<|aS<|aG 14 []<|tq 0 (rf 1 qS Z)<|tq 1 (aZ ac Z)<|tq 2 (dW Z)<|tq 3 (dW Z)<|tq 4 (dW Z)<|tq 5 (dW Z)<|tq 6 (rf 4 bN Z)<|tq 7 (aZ ac Z)<|tq 8 (rf 6 ms Z)<|tq 9 (aZ ac Z)<|yq 10 (rf 6 pw Z)<|yq 11 (uY jN Z)<|cm 12 Z (zL func267 (RY _ _) Z)<|gX [8,47,48,49,50,51,53,58] [2005,2006,2007] ?_;refine cm 13 Z (zL func266 (R0 _ _ _ _ _ _ _) Z)<|yq 14 (j8 Z)<|gD<|gT<|aR ?_;have dZ:k=x.an.length:=by have h:=V;simp only[ap,decide_eq_false_iff_not]at h;omega
 subst dZ;refine ax ?_ trivial;refine congrArg (fun n=>some (int n)) ?_;grind[BE]
theorem Sk(g u:Value)(x:aw)(sm:kL x):GC prog 118 [.ptr 0 0 0] (sT g u x [] 0) (.au []) (yp g (p' x)):=by
 have bh:=sm.lh;have bc:=sm.lc;refine GC.intro (rs:=[]) func118 rfl ntmps118 x_8 trivial ?_;intro L O w0;refine iQ 1 rfl ?_;refine sL<|aM Z<|lc Z<|lf 0 dR Z<|lf 0 mB Z<|aj ac Z ?_;refine eo rfl ⟨rfl,ce (by have:=sm.tick;grind[bk,i64])⟩<|lc Z<|lf 0 dR Z<|lf 0 mB Z<|ab (zB 0 ca cb rfl) Z<|Y<|aS<|sL<|aM Z<|lc Z<|lf 0 dR Z<|lf 4 eF Z<|iO fS Z<|ba jb Z<|ae Z<|Y<|aB ?_;refine aW [0,20] [0,1,3,4] (D:=Nat) (fun k=>[(21,int (k:Int))]) (fun k=>[(2,df (kO kx k x.an))]) (fun k=>k<=x.an.length) (fun k=>x.an.length-k) (0) (Nat.zero_le _) ⟨rfl,trivial⟩ ⟨(congrArg df (DL kx x.an).symm),trivial⟩ ?_;intro k hI;refine sL<|ak Z<|Y<|aS<|cE rfl ?_ ?_
 ·intro V;refine aK<|gT<|aS<|aB<|sL<|ae Z<|ao Z<|nA<|aM Z<|lc Z<|lf 0 dR Z<|lf 4 eF Z<|iO fS Z<|ae Z ?_;have hk:k<x.an.length:=by simpa[ap]using V
  have bQ:=sm.an _ (List.getElem_mem hk);refine lq (rj k f7 rfl (by grind[ap,yr]))<|lC Z<|Y<|aL<|aM Z<|aM Z<|lT [0,20,21,31,32] [0,1,2,3,4] ?_;refine lc Z<|lf 6 tV Z<|lq (rd (x:=c6) (dT Z ac Z Z Z (dk (tU kx hk)) Z) Z) ?_;refine eo rfl ⟨rfl,ce x_82⟩<|lq (rd (x:=c6) (Sl rfl rfl) rfl)<|lc Z<|lf 6 tV Z<|ab (zQ 2 [.v (.int .i64 (min (x.an[k].jP+1) 1125899906842624))] ca cb rfl (dk (tU kx hk))) Z<|lN<|gB<|gT ?_;refine AW.obj 2 (df (kO kx (k+1) x.an)) (Eq.trans (b:=AO.ai 218 7 ((ah go (kO kx k x.an)).set k ((go (kx x.an[k])).map PV.v))) rfl (congrArg (AO.ai 218 7) (lB.trans (congrArg (ah go) (BN kx hk))))) ?_;refine aL<|bg Z<|ae Z<|Y ?_;refine⟨k+1,hk,by omega,x_11,⟨rfl,trivial⟩,rfl,rfl⟩
 intro V;refine aE<|eT<|eT<|eB<|gA<|aM Z<|lc Z<|lf 0 dR Z<|lf 3 dr Z<|iO eg Z<|ba kJ Z<|ae Z<|Y<|aB ?_;have Gf:k=x.an.length:=by have h:=V;simp only[ap,decide_eq_false_iff_not]at h;omega
 refine AW.obj 2 (df (x.an.map kx)) (congrArg df (by rw[Gf,DM])) ?_;refine aW [0,46] [0,2,3,4] (D:=Nat) (fun j=>[(47,int (j:Int))]) (fun j=>[(1,.ai 159 7 (ah aX (kO (l8 x.tick) j x.ag)))]) (fun j=>j<=x.ag.length) (fun j=>x.ag.length-j) (0) (Nat.zero_le _) ⟨rfl,trivial⟩ ⟨(congrArg (fun l=>AO.ai 159 7 (ah aX l)) (DL (l8 x.tick) x.ag).symm),trivial⟩ ?_;intro j hI;refine sL<|ak Z<|Y<|aS<|cE rfl ?_ ?_
 ·intro h2;refine aK<|gT<|aS<|aB<|sL<|ae Z<|ao Z<|nA<|aM Z<|lc Z<|lf 0 dR Z<|lf 3 dr Z<|iO eg Z<|ae Z ?_;have hj:j<x.ag.length:=by simpa[ap]using h2
  have bC:=sm.ag _ (List.getElem_mem hj);refine lq (rj j cz rfl (by grind[ap,yr]))<|lC Z<|nA<|aM Z<|lc Z<|lT [0,5,46,47,58] [0,1,2,3,4] ?_;refine lf 0 dR Z<|lf 0 mB Z<|aj ac Z ?_;refine eo rfl ⟨rfl,by decide⟩<|ak Z<|Y<|cE rfl ?_ ?_
  ·intro h3;refine aL<|aM Z<|aM Z<|lc Z<|lf 6 ms Z<|lq (rd (x:=c6) (dT Z ac Z Z Z (dk (tU _ hj)) Z) Z)<|ab (zL func220 (R7 _) Z) Z<|lc Z<|lf 6 ms Z<|ab (zQ 1 [.v (.int .i64 (lA x.ag[j].cM))] ca cb Z (dk (tU _ hj))) Z<|lT [0,46,47] [0,1,2,3,4] ?_;refine lN<|gB<|gT ?_;refine AW.obj 1 (.ai 159 7 (ah aX (kO (l8 x.tick) (j+1) x.ag))) (Eq.trans (b:=AO.ai 159 7 ((ah aX (kO (l8 x.tick) j x.ag)).set j ((aX { x.ag[j]with cM:=lA x.ag[j].cM }).map PV.v))) rfl (congrArg (AO.ai 159 7) (lB.trans (congrArg (ah aX) (by rw[<-BN _ hj];simp_all[l8]))))) ?_;refine aL<|bg Z<|ae Z<|Y ?_;refine⟨j+1,hj,by omega,x_11,⟨rfl,trivial⟩,rfl,rfl⟩
  intro h3;refine aK<|gB<|gT<|aL<|bg Z<|ae Z<|Y ?_;refine⟨j+1,hj,by omega,x_11,⟨(congrArg (fun l=>AO.ai 159 7 (ah aX l)) (Gd (l8 x.tick) hj (if_neg x_14))),trivial⟩,rfl,rfl⟩
 intro h2;refine aE<|eT<|eT<|eB ?_;refine iZ ?_ ⟨rfl,(congrArg (fun l=>AO.ai 159 7 (ah aX l)) (by rw[show j=x.ag.length by grind[ap],DM];rfl)),rfl,rfl,rfl,trivial⟩;rfl
theorem x_42{p:Prop}(c:p:=by exact (cL.nil _ _).add (.inl x_3)):p:=c
theorem x_46{p:Prop}(c:p:=by exact ⟨(),trivial,trivial,⟨(congrArg (AO.ai 159 7) (DN.trans (congrArg (ah aX) (by grind[ly])))),rfl,trivial⟩,rfl,rfl⟩):p:=c
theorem x_111{p:Prop}(c:p:=by have:=es.af;have:=es.ay;have:=sm.aA;grind[bk,i64]):p:=c
theorem x_114{p:Prop}(c:p:=by exact Src.sub rfl rfl):p:=c
theorem x_124{p:Prop}(c:p:=by have:=es.af;grind[bk,i64]):p:=c
theorem Sm(g u:Value)(x:aw)(e:aV)(sm:kL x)(es:m8 e):GC prog 113 [.ptr 0 0 0,ju e] (sT g u x [] 0) (.au []) (yp g (sJ x e)):=by
 have hm:x.ag.length<=1000000000:=by have:=sm.lc;omega
 have mG:x.an.length<=1000000000:=by have:=sm.lh;omega
 have lr:x.aq.length<=1000000000:=by have:=sm.li;omega
 refine GC.intro (rs:=[]) func113 rfl ntmps113 x_8 trivial ?_;intro L O w0;refine iQ 1 rfl ?_;refine sL<|ab (zX 2003 Z) Z<|Y ?_;refine aJ [0,3] [1,2,3,4,2003] (D:=Unit) (fun jd=>[]) (fun jd=>[(0,cN g x.tick x.next x.aA (bE (decide (0<=eS x.ag e.ch)||decide ((20:Int)<=(x.ag.length:Int))) 0 3))]) (fun jd=>True) ?_ ?_
 ·refine aG 18 []<|tq 0 (cG Z)<|tq 1 (cG Z)<|tq 2 (rc Z)<|tq 3 (rf 0 dR Z)<|tq 4 (dw jG cu Z)<|yq 5 (rf 2 dn Z)<|yq 6 (aZ ac Z)<|cm 7 Z (zL func125 (z2 x _ hm) Z)<|yq 8 (dt Z)<|yq 9 (dx Z) ?_;refine AG.bool (t:=15) rfl ?_ ?_
  ·intro V;refine bt 10 Z<|bt 11 Z<|bt 12 Z<|bt 13 Z<|bt 14 Z<|bt 15 Z<|bt 16 Z<|yq 17 (bA Z) ?_;refine yl rfl (bF func211 (fJ ) x_16 rfl rfl)<|gT ?_;refine⟨(),trivial,trivial,⟨(Eq.trans (b:=cN g x.tick x.next x.aA _) rfl (congrArg (cN g x.tick x.next x.aA) (by rw[show decide (0<=eS x.ag e.ch)=true from V];rfl))),trivial⟩,rfl,rfl⟩
  intro V;refine yq 10 (cG Z)<|yq 11 (rc Z)<|yq 12 (rf 0 dR Z)<|yq 13 (rf 3 dr Z)<|yq 14 (gC eg Z)<|yq 15 (le kJ Z)<|yq 16 (dt Z)<|yq 17 (cv Z) ?_;refine yl rfl (bF func211 (fJ ) x_16 rfl rfl)<|gT ?_;refine⟨(),trivial,trivial,⟨(Eq.trans (b:=cN g x.tick x.next x.aA _) rfl (congrArg (cN g x.tick x.next x.aA) (by rw[show decide (0<=eS x.ag e.ch)=false from V];simp[ap]))),trivial⟩,rfl,rfl⟩
 intro jd hJ;refine aS<|aG 9 []<|tq 0 (cG Z)<|tq 1 (cG Z)<|tq 2 (rc Z)<|tq 3 (rf 0 dR Z)<|tq 4 (rf 2 iW Z)<|tq 5 (aZ ac Z)<|yq 6 (rf 4 bN Z)<|yq 7 (aZ ac Z)<|yq 8 (dt Z) ?_;refine yl rfl (bF func211 (fJ ) x_16 rfl rfl)<|gT<|aS<|sL<|aM Z<|lc Z<|lf 7 mK Z<|aj ac Z<|ak Z<|Y<|cE rfl ?_ ?_
 ·intro h2;refine aR<|rT ?_;have cQ:gO x e≠0:=by
   unfold gO;simpa[ap,<-eW]using h2
  rw[sK cQ];trivial
 intro h2;refine aK<|gT<|aS ?_;have cQ:gO x e=0:=by
  unfold gO;simpa[ap,<-eW]using h2
 refine aL<|ao Z<|Y<|aS<|aB ?_;refine aW [0,3] [0,1,2,3,4,2003] (D:=Nat) (fun k=>[(4,int (k:Int))]) (fun k=>[]) (fun k=>k<=x.ag.length/\∀j (h:j<x.ag.length),j<k->x.ag[j].id<e.ch) (fun k=>x.ag.length-k) (0) (⟨Nat.zero_le _,fun j _ h=>absurd h x_2⟩) ⟨rfl,trivial⟩ trivial ?_;intro k hI;obtain⟨eN,bB⟩:=hI;refine aS<|aS<|aG 21 []<|tq 0 (dW Z)<|yq 1 (cG Z)<|yq 2 (rc Z)<|yq 3 (rf 0 dR Z)<|yq 4 (rf 3 dr Z)<|yq 5 (gC eg Z)<|yq 6 (le kJ Z)<|yq 7 (dt Z)<|yq 8 (dx Z) ?_;refine AG.bool (t:=48) rfl ?_ ?_
 ·intro h3;refine tq 9 (cG Z)<|tq 10 (rc Z)<|tq 11 (rf 0 dR Z)<|tq 12 (rf 3 dr Z)<|tq 13 (gC eg Z)<|gX [0,3,4,48,53] [0,1,2,3,4,2003] ?_;refine tq 14 (dW rfl) ?_;have hk:k<x.ag.length:=by simpa[ap]using h3
  refine tq 15 (rj k cz rfl x_14)<|tq 16 (rf 0 kM rfl)<|tq 17 (rd (x:=c6) (dT rfl ac rfl rfl rfl (bS hk) rfl) rfl)<|yq 18 (rf 2 dn rfl)<|yq 19 (aZ ac rfl)<|yq 20 (dt rfl)<|yq 21 (cv rfl)<|gD<|gT<|cE rfl ?_ ?_
  ·intro h4;refine aK<|gT<|aB<|aL<|ae Z<|bg Z<|ao Z<|lN<|gB<|gT ?_;refine⟨k+1,⟨hk,Sg hk bB x_14⟩,by omega,x_11,trivial,rfl,rfl⟩
  intro h4;refine aE<|eT<|eT<|eB<|gT<|aS ?_;have wK:lV x.ag e.ch=k:=KZ eN bB (fun eI=>by grind);refine aL<|lf 2 dn Z<|aj ac Z<|lf 4 bN Z<|aj ac Z<|lf 5 fC Z<|aj ac Z ?_;refine eo rfl ⟨rfl,ce (by have:=es.af;have:=es.ay;grind[bk,i64])⟩<|lf 4 bN Z<|aj ac Z<|lf 5 fC Z<|aj ac Z<|lq (rd (x:=k7) (cP rfl BB rfl rfl rfl) rfl)<|ab (zA 2005 dy rfl) Z<|lT [0,3,4,5,75] [0,1,2,3,4,2003,2005] ?_;refine ab (zB 2005 lu lv Z) Z<|Y ?_;refine aJ [0,3] [2,3,4,2003,2005] (D:=Unit) (fun jd=>[]) (fun jd=>[(2084,.ai 159 7 (ah aX (ly x.ag ⟨e.ch,e.af+e.ay,e.af,e.ay,0,0,0⟩))),(0,.box 153 (some g) [int x.tick,int x.next,int x.aA,.own 2084,.own 2,.own 3,.own 4,int (gO x e)])]) (fun jd=>True) ?_ ?_
  ·refine aG 23 [2084]<|tq 0 (cG Z)<|tq 1 (cG Z)<|tq 2 (rc Z)<|tq 3 (rf 0 dR Z)<|tq 4 (rf 3 dr Z)<|tq 5 (gC eg Z)<|tq 6 (dW Z) ?_;refine tq 7 (rd (x:=.sub _ _ _) (tW (l:=0) (h:=k) rfl cz rfl rfl rfl ⟨_,rfl⟩ x_2 x_14) rfl)<|tq 9 (dw k7 fF rfl)<|tq 12 (cG rfl)<|tq 13 (rc rfl)<|tq 14 (rf 0 dR rfl)<|tq 15 (rf 3 dr rfl)<|tq 16 (gC eg rfl)<|tq 17 (dW rfl) ?_;refine tq 18 (rd (x:=.sub _ _ _) (tW (l:=k) (h:=_) rfl cz rfl rfl ⟨_,rfl⟩ rfl x_14 (Nat.le_refl _)) rfl) ?_;refine AG.two (i:=8) (j:=10) x_37 ?_ ?_
   ·refine oe.st (i:=8) rfl (qJ 2084 rfl rfl x_3 cz dy rfl x_3 rfl x_114 (by grind[maxLen]) (Nat.le_trans (Nat.mul_le_mul_left _ jL) x_14)) x_3 rfl ?_;refine gX [0,3,76,84,85,94] [0,1,2,3,4,2003,2005,2084] ?_;refine cm 10 rfl (zS 2086 (ah aX [⟨e.ch,e.af+e.ay,e.af,e.ay,0,0,0⟩]) cz dy rfl)<|cm 11 rfl (zP 2084 cz dy jL rfl x_18)<|cm 19 rfl (zP 2084 cz dy jL rfl x_114)<|yq 20 (rc rfl)<|yq 21 (rf 0 dR rfl)<|yq 22 (rf 3 dr rfl)<|yl rfl (zB 0 sM sN rfl)<|gT ?_;refine x_46
   refine oe.st (i:=10) rfl (BO 2086 (rows:=ah aX [⟨e.ch,e.af+e.ay,e.af,e.ay,0,0,0⟩]) rfl rfl x_3 cz dy rfl rfl rfl rfl (by intro r hr;simp[ah]at hr;subst hr;rfl) rfl x_3 x_3) x_3 rfl ?_;refine cm 8 rfl (qJ 2084 rfl rfl x_3 cz dy rfl x_3 rfl x_114 (by grind[maxLen]) (Nat.le_trans (Nat.mul_le_mul_left _ jL) x_14))<|cm 11 rfl (zP 2084 cz dy jL rfl x_18)<|cm 19 rfl (zP 2084 cz dy jL rfl x_114)<|yq 20 (rc rfl)<|yq 21 (rf 0 dR rfl)<|yq 22 (rf 3 dr rfl)<|yl rfl (zB 0 sM sN rfl)<|gT ?_;refine x_46
  intro jd hJ;refine aS ?_;refine AW.swap 2084 1 ?_;refine aT [0,3] [0,1,2,3,4,2003,2005] ?_;refine aG 11 []<|tq 0 (cG Z)<|tq 1 (rc Z)<|tq 2 (rf 0 dR Z)<|tq 3 (rf 2 iW Z)<|tq 4 (aZ ac Z)<|yq 5 (rf 4 bN Z)<|yq 6 (aZ ac Z) ?_;refine yq 7 (iC rfl ⟨rfl,ce x_111⟩)<|yq 8 (rc rfl)<|yq 9 (rf 0 dR rfl)<|yq 10 (rf 2 iW rfl)<|yl rfl (zB 0 ca cb rfl)<|gA<|aM Z<|lf 2 dn Z<|aj ac Z<|lf 4 bN Z<|aj ac rfl ?_;refine ab (bF func112 (lU ([]) 0 (LG.nil) x_3 _ _ _ (cL.nil _ _) (gP es.af)) x_16 rfl rfl) Z<|lT [0,3] [0,1,2,3,4,2003,2005] ?_;refine Y<|aL<|aM Z<|lf 4 bN Z<|aj ac Z<|lq (rd (x:=c6) (il rfl rfl (ce x_124)) rfl) ?_;refine ab (bF func112 (lU (bR [] 6 e.ch e.af) 1 (LG.nil.add (gP es.af)) x_3 _ _ _ x_42 (jM es.af)) x_16 rfl rfl) Z<|lN ?_;rw[tK cQ];refine iZ ?_ ⟨(Eq.trans (b:=cN g x.tick x.next (x.aA-e.af) _) rfl (congrArg (cN g x.tick x.next (x.aA-e.af)) cQ)),rfl,rfl,rfl,rfl,trivial⟩;rfl
 intro h3;refine ep 9 Z<|ep 10 Z<|ep 11 Z<|ep 12 Z<|ep 13 Z<|ep 14 Z<|ep 15 Z<|ep 16 Z<|ep 17 Z<|bt 18 Z<|bt 19 Z<|bt 20 Z<|yq 21 (kK Z)<|gD<|gT<|aN Z<|aE<|eT<|eT<|eB<|gT<|aS ?_;have wK:lV x.ag e.ch=k:=KZ eN bB (fun eI=>by grind[ap]);refine aL<|lf 2 dn Z<|aj ac Z<|lf 4 bN Z<|aj ac Z<|lf 5 fC Z<|aj ac Z ?_;refine eo rfl ⟨rfl,ce (by have:=es.af;have:=es.ay;grind[bk,i64])⟩<|lf 4 bN Z<|aj ac Z<|lf 5 fC Z<|aj ac Z<|lq (rd (x:=k7) (cP rfl BB rfl rfl rfl) rfl)<|ab (zA 2005 dy rfl) Z<|lT [0,3,4,5,75] [0,1,2,3,4,2003,2005] ?_;refine ab (zB 2005 lu lv Z) Z<|Y ?_;refine aJ [0,3] [2,3,4,2003,2005] (D:=Unit) (fun jd=>[]) (fun jd=>[(2084,.ai 159 7 (ah aX (ly x.ag ⟨e.ch,e.af+e.ay,e.af,e.ay,0,0,0⟩))),(0,.box 153 (some g) [int x.tick,int x.next,int x.aA,.own 2084,.own 2,.own 3,.own 4,int (gO x e)])]) (fun jd=>True) ?_ ?_
 ·refine aG 23 [2084]<|tq 0 (cG Z)<|tq 1 (cG Z)<|tq 2 (rc Z)<|tq 3 (rf 0 dR Z)<|tq 4 (rf 3 dr Z)<|tq 5 (gC eg Z)<|tq 6 (dW Z) ?_;refine tq 7 (rd (x:=.sub _ _ _) (tW (l:=0) (h:=k) rfl cz rfl rfl rfl ⟨_,rfl⟩ x_2 x_33) rfl)<|tq 9 (dw k7 fF rfl)<|tq 12 (cG rfl)<|tq 13 (rc rfl)<|tq 14 (rf 0 dR rfl)<|tq 15 (rf 3 dr rfl)<|tq 16 (gC eg rfl)<|tq 17 (dW rfl) ?_;refine tq 18 (rd (x:=.sub _ _ _) (tW (l:=k) (h:=_) rfl cz rfl rfl ⟨_,rfl⟩ rfl x_33 (Nat.le_refl _)) rfl) ?_;refine AG.two (i:=8) (j:=10) x_37 ?_ ?_
  ·refine oe.st (i:=8) rfl (qJ 2084 rfl rfl x_3 cz dy rfl x_3 rfl x_114 (by grind[maxLen]) (Nat.le_trans (Nat.mul_le_mul_left _ jL) x_14)) x_3 rfl ?_;refine gX [0,3,76,84,85,94] [0,1,2,3,4,2003,2005,2084] ?_;refine cm 10 rfl (zS 2086 (ah aX [⟨e.ch,e.af+e.ay,e.af,e.ay,0,0,0⟩]) cz dy rfl)<|cm 11 rfl (zP 2084 cz dy jL rfl x_18)<|cm 19 rfl (zP 2084 cz dy jL rfl x_114)<|yq 20 (rc rfl)<|yq 21 (rf 0 dR rfl)<|yq 22 (rf 3 dr rfl)<|yl rfl (zB 0 sM sN rfl)<|gT ?_;refine x_46
  refine oe.st (i:=10) rfl (BO 2086 (rows:=ah aX [⟨e.ch,e.af+e.ay,e.af,e.ay,0,0,0⟩]) rfl rfl x_3 cz dy rfl rfl rfl rfl (by intro r hr;simp[ah]at hr;subst hr;rfl) rfl x_3 x_3) x_3 rfl ?_;refine cm 8 rfl (qJ 2084 rfl rfl x_3 cz dy rfl x_3 rfl x_114 (by grind[maxLen]) (Nat.le_trans (Nat.mul_le_mul_left _ jL) x_14))<|cm 11 rfl (zP 2084 cz dy jL rfl x_18)<|cm 19 rfl (zP 2084 cz dy jL rfl x_114)<|yq 20 (rc rfl)<|yq 21 (rf 0 dR rfl)<|yq 22 (rf 3 dr rfl)<|yl rfl (zB 0 sM sN rfl)<|gT ?_;refine x_46
 intro jd hJ;refine aS ?_;refine AW.swap 2084 1 ?_;refine aT [0,3] [0,1,2,3,4,2003,2005] ?_;refine aG 11 []<|tq 0 (cG Z)<|tq 1 (rc Z)<|tq 2 (rf 0 dR Z)<|tq 3 (rf 2 iW Z)<|tq 4 (aZ ac Z)<|yq 5 (rf 4 bN Z)<|yq 6 (aZ ac Z) ?_;refine yq 7 (iC rfl ⟨rfl,ce x_111⟩)<|yq 8 (rc rfl)<|yq 9 (rf 0 dR rfl)<|yq 10 (rf 2 iW rfl)<|yl rfl (zB 0 ca cb rfl)<|gA<|aM Z<|lf 2 dn Z<|aj ac Z<|lf 4 bN Z<|aj ac rfl ?_;refine ab (bF func112 (lU ([]) 0 (LG.nil) x_3 _ _ _ (cL.nil _ _) (gP es.af)) x_16 rfl rfl) Z<|lT [0,3] [0,1,2,3,4,2003,2005] ?_;refine Y<|aL<|aM Z<|lf 4 bN Z<|aj ac Z<|lq (rd (x:=c6) (il rfl rfl (ce x_124)) rfl) ?_;refine ab (bF func112 (lU (bR [] 6 e.ch e.af) 1 (LG.nil.add (gP es.af)) x_3 _ _ _ x_42 (jM es.af)) x_16 rfl rfl) Z<|lN ?_;rw[tK cQ];refine iZ ?_ ⟨(Eq.trans (b:=cN g x.tick x.next (x.aA-e.af) _) rfl (congrArg (cN g x.tick x.next (x.aA-e.af)) cQ)),rfl,rfl,rfl,rfl,trivial⟩;rfl
end Go.Proofs.YtflhgkmhmcfimaaGreat

