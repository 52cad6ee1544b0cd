/- Texts of the proof of FnFnTaken, joined: EO9, EA5, EA6. -/
import Derived.Test.YtflhgkmhmcfimaaGreatJTaken10
import Derived.Test.YtflhgkmhmcfimaaGreatJTaken8
import Derived.Test.YtflhgkmhmcfimaaGreatJTaken3
namespace Go.Proofs.YtflhgkmhmcfimaaGreat
open Tryz
open Go.RowKit
set_option maxHeartbeats 16000000
set_option maxRecDepth 100000
set_option linter.unusedSimpArgs false
set_option linter.unusedVariables false
theorem lg1{d:du}(h:ik d=false\/d.bu.length≠0):m1 d=1:=by
 unfold m1;rcases h with h|h
 ·rw[h];rfl
 rw[show (ik d&&decide (d.bu.length=0))=false by simp[h]];rfl
theorem lg2{d:du}(h:ik d=true)(h0:d.bu.length=0)(h2:(dH d).length=d.cells.length\/16000000<=m2 d):m1 d=2:=by
 unfold m1;rw[h,h0,if_pos (by simp),if_pos h2]
theorem lg0{d:du}(h:ik d=true)(h0:d.bu.length=0)(h2:¬((dH d).length=d.cells.length\/16000000<=m2 d)):m1 d=0:=by
 unfold m1;rw[h,h0,if_pos (by simp),if_neg h2]
theorem abU{d:du}(h:m1 d≠0):m4 d=⟨⟨[],[]⟩,0,0⟩:=if_neg h
theorem acE{d:du}(h:m1 d=0):m4 d=⟨abM (v6 d (dH d).length (oq ⟨(dH d).length,m2 d+1,[66]⟩)),(dH d).length+1,m2 d+1⟩:=if_pos h
theorem ab1{d:du}(h:m1 d≠0):ab9 d=[]:=if_neg h
theorem acG{d:du}(h:m1 d=0):ab9 d=f8 d:=if_pos h
theorem ad1{l:uW}{e:aV}(h:ik l.bT=false\/aI l.next 0 l.bT.cells.length=false\/aI l.dP 1 16000000=false\/co e=false):aho l e=1:=by
 unfold aho;rw[if_neg];rcases h with h|h|h|h<;>simp[h]
theorem al0{l:uW}{e:aV}(V:ik l.bT=true)(h2:aI l.next 0 l.bT.cells.length=true)(h3:aI l.dP 1 16000000=true)(h4:co e=true)(h5:l.next=l.bT.cells.length\/600<=l.bT.bu.length):aho l e=2:=by
 unfold aho;rw[V,h2,h3,h4,if_pos (by simp),if_pos h5]
theorem ad0{l:uW}{e:aV}(V:ik l.bT=true)(h2:aI l.next 0 l.bT.cells.length=true)(h3:aI l.dP 1 16000000=true)(h4:co e=true)(h5:¬(l.next=l.bT.cells.length\/600<=l.bT.bu.length)):aho l e=0:=by
 unfold aho;rw[V,h2,h3,h4,if_pos (by simp),if_neg h5]
theorem ahz{l:uW}{e:aV}(h:aho l e≠0):ahu l e=⟨⟨[],[]⟩,0,0⟩:=if_neg h
theorem aiw{l:uW}{e:aV}(h:aho l e=0):ahu l e=⟨v6 l.bT l.next.toNat (oq ⟨l.next,l.dP,rY e⟩),l.next+1,l.dP⟩:=if_pos h
theorem afU{l:uW}(h:ik l.bT=false):afM l=⟨⟨[],[]⟩,0,0⟩:=if_neg (by simp[h])
theorem afS{l:uW}(h:ik l.bT=true):afM l=⟨abM l.bT,l.next,l.dP⟩:=if_pos h
theorem aeG(b:List Int):0<=(kP b).dP/\(kP b).dP<=16000000:=by
 cases h:g8 b with
 |true=>rw[dv h];have:=(qW.1 (oN.1 h).2.2.1).2.1;omega
 |false=>rw[TD h];exact⟨Int.le_refl _,by decide⟩
theorem adw:∀(l:List (List Int)) (t:Int),0<=t/\t<=16000000->0<=l.foldl (fun t b=>max t (kP b).dP) t/\l.foldl (fun t b=>max t (kP b).dP) t<=16000000
 |[],t,h=>h
 |b::l,t,h=>by rw[List.foldl_cons];exact adw l _ (by have:=aeG b;omega)
theorem acY(d:du):0<=m2 d/\m2 d<=16000000:=by
 unfold m2;split
 ·exact adw _ 0 (by decide)
 decide
theorem acD{d:du}(h:ik d=true):(dH d).length<=d.cells.length:=by
 rw[DP h];have:=PI (bs:=oh d) (acc:=[]);rw[Jl]at this;simpa using this
theorem Ka(d:du):(f8 d).length<=600:=by
 grind[Gl,Gk,f8]
theorem adx{d:du}(h:ik d=true)(h2:(dH d).length<d.cells.length)(h3:m2 d<16000000):i8 ⟨(dH d).length,m2 d+1,[66]⟩=true:=qW.2 (by
 have:=(wL h).1;have:=acY d;simp;omega)
theorem ahS{n a b:Int}:aI n a b=true↔a<=n/\n<=b:=by unfold aI;simp
theorem ajC{l:uW}{e:aV}(V:ik l.bT=true)(h2:aI l.next 0 l.bT.cells.length=true)(h3:aI l.dP 1 16000000=true)(h5:l.next≠l.bT.cells.length):i8 ⟨l.next,l.dP,rY e⟩=true:=qW.2 (by
 have:=(wL V).1;have:=ahS.1 h2;have:=ahS.1 h3;rw[TF];simp only;omega)
def ajg(l:uW)(c:Int):AV->List (Nat×AO)->List AO->Prop:=fun y l1 F1=>∃vs us:List Value,vs.length=l.bT.cells.length/\us.length=l.bT.bu.length/\y=.au [.agg [.own 1,.own 2,int l.next,int l.dP],int c]/\l1=DS vs us l.bT/\F1=sY vs us l.bT
theorem x_43{p:Prop}(c:p:=by have h:=h3;simp only[decide_eq_true_eq]at h;omega):p:=c
theorem x_44{p:Prop}(c:p:=by have h:=h2;simp only[decide_eq_true_eq]at h;omega):p:=c
theorem x_46{p:Prop}(c:p:=by have h:=V;simp only[decide_eq_true_eq]at h;omega):p:=c
theorem x_51{p:Prop}(c:p:=by rw[hc];decide):p:=c
theorem x_62{p:Prop}(c:p:=by have h:=h4;simp only[decide_eq_true_eq]at h;omega):p:=c
theorem x_93{p:Prop}(c:p:=by have h:=h5;simp only[ge_iff_le,decide_eq_true_eq]at h;omega):p:=c
theorem x_94{p:Prop}(c:p:=by have h:=h4;simp only[ge_iff_le,decide_eq_true_eq]at h;omega):p:=c
theorem x_95{p:Prop}(c:p:=by have h:=h3;simp only[ge_iff_le,decide_eq_true_eq]at h;omega):p:=c
theorem x_96{p:Prop}(c:p:=by have h:=h2;simp only[ge_iff_le,decide_eq_true_eq]at h;omega):p:=c
theorem x_100{p:Prop}(c:p:=by have h:=V;simp only[ge_iff_le,decide_eq_true_eq]at h;omega):p:=c
theorem x_117{p:Prop}(c:p:=by have h:=h5;simp only[decide_eq_true_eq]at h;omega):p:=c
theorem x_138{p:Prop}(c:p:=by have h:=h6;simp only[ge_iff_le,decide_eq_true_eq]at h;omega):p:=c
theorem x_147{p:Prop}(c:p:=by have h:=h6;simp only[decide_eq_true_eq]at h;omega):p:=c
theorem aj8(l:uW)(e:aV):GN prog 106 [G9 l,ju e] [] ([]) (ajg (ahu l e) (aho l e)):=by
 refine GN.intro (rs:=[.cell 4 45 (some 4),.tmp 5]) func106 rfl ntmps106 x_7 ⟨rfl,rfl,EY,rfl,trivial⟩ rfl ?_;intro L O w0;refine sL<|ab (zX 2002 Z) Z<|ab (zX 2003 Z) Z<|ab (zA 2004 Nx Z) Z<|ao Z<|Y<|aS<|sL<|lf 0 Bv Z<|aP (.agg [vL _ _ _,vL _ _ _]) mE Z<|ab (zC [] [] [] func91 (J' l.bT) (trivial) Z Z) Z<|bX Z<|aQ Z ?_;refine AL.bool (t:=16) rfl ?_ ?_
 ·intro V;refine aa Z<|aa Z<|aa Z<|aa Z<|aa Z<|aa Z<|aa Z<|aa Z<|aU Z<|bM Z<|aa Z<|aa Z<|aa Z<|aa Z<|aU Z<|bM Z<|aa Z<|aa Z<|aa Z<|aU Z<|Y<|aY Z<|sL<|lq (rd (x:=.agg [vV _,vV _,U _ _,U _ _]) (cP Z abQ Z Z Z) Z)<|ab (zB 2004 Nv Nw Z) Z ?_;refine xH ([]) [2,3,4,5] [2002,2003,2004] ?_;refine ao Z<|Y ?_;refine AW.pi 1 2004 0 195 1 rfl (by decide) rfl ?_;refine AW.pi 2 2004 1 192 2 rfl (by decide) rfl ?_;refine aR<|rT ?_;have hc:aho l e=1:=ad1 (by first|exact .inl x_19|exact .inr (.inl x_19)|exact .inr (.inr (.inl x_19))|exact .inr (.inr (.inr x_19)));have hL:=ahz (l:=l) (e:=e) x_51;rw[hc,hL];refine vW (F1:=[]) (.au [.agg [.own 1,.own 2,int 0,int 0],int 1]) (DS [] [] ⟨[],[]⟩) ?_ (by decide) rfl rfl ⟨rfl,rfl,trivial⟩ ki;exact⟨[],[],rfl,rfl,rfl,rfl,rfl⟩
 intro V;refine lf 2 wD Z<|aj ac Z<|lf 0 Bv Z<|lf 0 n9 Z<|bo oB Z<|ba po Z ?_;refine dC 22 (int (l.bT.cells.length:Int)) (congrArg (fun n:Nat=>int (n:Int)) (fU _)) ?_;refine ab (zL func92 (pp _ _ _) Z) Z<|bX Z<|bj Z<|aQ Z ?_;refine AL.bool (t:=26) rfl ?_ ?_
 ·intro h2;refine aa Z<|aa Z<|aa Z<|aa Z<|aU Z<|bM Z<|aa Z<|aa Z<|aa Z<|aU Z<|Y<|aY Z<|sL<|lq (rd (x:=.agg [vV _,vV _,U _ _,U _ _]) (cP Z abQ Z Z Z) Z)<|ab (zB 2004 Nv Nw Z) Z ?_;refine xH ([]) [2,3,4,5] [2002,2003,2004] ?_;refine ao Z<|Y ?_;refine AW.pi 1 2004 0 195 1 rfl (by decide) rfl ?_;refine AW.pi 2 2004 1 192 2 rfl (by decide) rfl ?_;refine aR<|rT ?_;have hc:aho l e=1:=ad1 (by first|exact .inl x_24|exact .inr (.inl x_24)|exact .inr (.inr (.inl x_24))|exact .inr (.inr (.inr x_24))|exact .inl x_19|exact .inr (.inl x_19)|exact .inr (.inr (.inl x_19))|exact .inr (.inr (.inr x_19)));have hL:=ahz (l:=l) (e:=e) x_51;rw[hc,hL];refine vW (F1:=[]) (.au [.agg [.own 1,.own 2,int 0,int 0],int 1]) (DS [] [] ⟨[],[]⟩) ?_ (by decide) rfl rfl ⟨rfl,rfl,trivial⟩ ki;exact⟨[],[],rfl,rfl,rfl,rfl,rfl⟩
 intro h2;refine lf 3 zW Z<|aj ac Z<|ab (zL func92 (pp _ _ _) Z) Z<|bX Z<|bj Z<|aQ Z ?_;refine AL.bool (t:=32) rfl ?_ ?_
 ·intro h3;refine aa Z<|aa Z<|aa Z<|aU Z<|Y<|aY Z<|sL<|lq (rd (x:=.agg [vV _,vV _,U _ _,U _ _]) (cP Z abQ Z Z Z) Z)<|ab (zB 2004 Nv Nw Z) Z<|ao Z<|Y ?_;refine AW.pi 1 2004 0 195 1 rfl (by decide) rfl ?_;refine AW.pi 2 2004 1 192 2 rfl (by decide) rfl ?_;refine aR<|rT ?_;have hc:aho l e=1:=ad1 (by first|exact .inl x_36|exact .inr (.inl x_36)|exact .inr (.inr (.inl x_36))|exact .inr (.inr (.inr x_36))|exact .inl x_24|exact .inr (.inl x_24)|exact .inr (.inr (.inl x_24))|exact .inr (.inr (.inr x_24))|exact .inl x_19|exact .inr (.inl x_19)|exact .inr (.inr (.inl x_19))|exact .inr (.inr (.inr x_19)));have hL:=ahz (l:=l) (e:=e) x_51;rw[hc,hL];refine vW (F1:=[]) (.au [.agg [.own 1,.own 2,int 0,int 0],int 1]) (DS [] [] ⟨[],[]⟩) ?_ (by decide) rfl rfl ⟨rfl,rfl,trivial⟩ ki;exact⟨[],[],rfl,rfl,rfl,rfl,rfl⟩
 intro h3;refine aP (.agg [U _ _,U _ _,U _ _,U _ _,U _ _,U _ _,vB _]) dD Z<|ab (zC [] [] [] func110 (Ps e) (trivial) Z Z) Z<|bX Z<|bj Z<|Y ?_;refine AW.cond rfl ?_ ?_
 ·intro h4;refine sL<|lq (rd (x:=.agg [vV _,vV _,U _ _,U _ _]) (cP Z abQ Z Z Z) Z)<|ab (zB 2004 Nv Nw Z) Z ?_;refine xH ([]) [2,3,4,5] [2002,2003,2004] ?_;refine ao Z<|Y ?_;refine AW.pi 1 2004 0 195 1 rfl (by decide) rfl ?_;refine AW.pi 2 2004 1 192 2 rfl (by decide) rfl ?_;refine aR<|rT ?_;have hc:aho l e=1:=ad1 (by first|exact .inl x_64|exact .inr (.inl x_64)|exact .inr (.inr (.inl x_64))|exact .inr (.inr (.inr x_64))|exact .inl x_36|exact .inr (.inl x_36)|exact .inr (.inr (.inl x_36))|exact .inr (.inr (.inr x_36))|exact .inl x_24|exact .inr (.inl x_24)|exact .inr (.inr (.inl x_24))|exact .inr (.inr (.inr x_24))|exact .inl x_19|exact .inr (.inl x_19)|exact .inr (.inr (.inl x_19))|exact .inr (.inr (.inr x_19)));have hL:=ahz (l:=l) (e:=e) x_51;rw[hc,hL];refine vW (F1:=[]) (.au [.agg [.own 1,.own 2,int 0,int 0],int 1]) (DS [] [] ⟨[],[]⟩) ?_ (by decide) rfl rfl ⟨rfl,rfl,trivial⟩ ki;exact⟨[],[],rfl,rfl,rfl,rfl,rfl⟩
 intro h4;refine aK<|gT<|aS<|aS ?_;have hd:ik l.bT=true:=by first|(have h:=h4;simpa using h;done)|(have h:=h3;simpa using h;done)|(have h:=h2;simpa using h;done)|(have h:=V;simpa using h;done)
 have hi:aI l.next 0 l.bT.cells.length=true:=by first|(have h:=h4;simpa using h;done)|(have h:=h3;simpa using h;done)|(have h:=h2;simpa using h;done)|(have h:=V;simpa using h;done)
 have hp:aI l.dP 1 16000000=true:=by first|(have h:=h4;simpa using h;done)|(have h:=h3;simpa using h;done)|(have h:=h2;simpa using h;done)|(have h:=V;simpa using h;done)
 have he:co e=true:=by first|(have h:=h4;simpa using h;done)|(have h:=h3;simpa using h;done)|(have h:=h2;simpa using h;done)|(have h:=V;simpa using h;done)
 have gR:=(wL hd).1;have LR:=ahS.1 hi;refine aL<|lf 2 wD Z<|aj ac Z<|lf 0 Bv Z<|lf 0 n9 Z<|bo oB Z<|ba po Z ?_;refine dC 43 (int (l.bT.cells.length:Int)) (congrArg (fun n:Nat=>int (n:Int)) (fU _)) ?_;refine ak Z<|aQ Z ?_;refine AL.bool (t:=45) rfl ?_ ?_
 ·intro h5;refine aa Z<|aa Z<|aa Z<|aa Z<|aa Z<|aU Z<|Y<|aY Z<|sL<|lq (rd (x:=.agg [vV _,vV _,U _ _,U _ _]) (cP Z abQ Z Z Z) Z)<|ab (zB 2004 Nv Nw Z) Z<|ao Z<|Y ?_;refine AW.pi 1 2004 0 195 1 rfl (by decide) rfl ?_;refine AW.pi 2 2004 1 192 2 rfl (by decide) rfl ?_;refine aR<|rT ?_;have hc:aho l e=2:=al0 hd hi hp he (by first|exact .inl x_117|exact .inr x_93|exact .inl x_62|exact .inr x_94|exact .inl x_43|exact .inr x_95|exact .inl x_44|exact .inr x_96|exact .inl x_46|exact .inr x_100);have hL:=ahz (l:=l) (e:=e) x_51;rw[hc,hL];refine vW (F1:=[]) (.au [.agg [.own 1,.own 2,int 0,int 0],int 2]) (DS [] [] ⟨[],[]⟩) ?_ (by decide) rfl rfl ⟨rfl,rfl,trivial⟩ ki;exact⟨[],[],rfl,rfl,rfl,rfl,rfl⟩
 intro h5;refine lf 0 Bv Z<|lf 1 ru Z<|bo sk Z<|ba vT Z ?_;refine dC 49 (int (l.bT.bu.length:Int)) (congrArg (fun n:Nat=>int (n:Int)) (pH _)) ?_;refine ak Z<|bj Z<|Y ?_;refine AW.cond rfl ?_ ?_
 ·intro h6;refine sL<|lq (rd (x:=.agg [vV _,vV _,U _ _,U _ _]) (cP Z abQ Z Z Z) Z)<|ab (zB 2004 Nv Nw Z) Z ?_;refine xH ([]) [2,3,4,5] [2002,2003,2004] ?_;refine ao Z<|Y ?_;refine AW.pi 1 2004 0 195 1 rfl (by decide) rfl ?_;refine AW.pi 2 2004 1 192 2 rfl (by decide) rfl ?_;refine aR<|rT ?_;have hc:aho l e=2:=al0 hd hi hp he (by first|exact .inl x_147|exact .inr x_138|exact .inl x_117|exact .inr x_93|exact .inl x_62|exact .inr x_94|exact .inl x_43|exact .inr x_95|exact .inl x_44|exact .inr x_96|exact .inl x_46|exact .inr x_100);have hL:=ahz (l:=l) (e:=e) x_51;rw[hc,hL];refine vW (F1:=[]) (.au [.agg [.own 1,.own 2,int 0,int 0],int 2]) (DS [] [] ⟨[],[]⟩) ?_ (by decide) rfl rfl ⟨rfl,rfl,trivial⟩ ki;exact⟨[],[],rfl,rfl,rfl,rfl,rfl⟩
 intro h6;refine aK<|gT<|aS ?_;have hn:¬(l.next=l.bT.cells.length\/600<=l.bT.bu.length):=by
  have V:=h5;have h2:=h6;simp only[ge_iff_le,decide_eq_false_iff_not]at V h2;omega
 have hS:=ajC (e:=e) hd hi hp (by omega);have hBl:(oq (⟨l.next,l.dP,rY e⟩:fb)).length=128:=TB (by rw[show ((⟨l.next,l.dP,rY e⟩:fb)).body=rY e from rfl,TF];decide);refine aL<|aP (.agg [U _ _,U _ _,U _ _,U _ _,U _ _,U _ _,vB _]) dD Z<|ab (zC [] [] [] func186 (Zh e) (trivial) Z Z) Z ?_;refine dC 55 (.au [gV (rY e),aD true]) (Eq.trans (b:=AV.au [gV (tB e),aD (co e)]) rfl (by rw[wo he,he])) ?_;refine cT (.au [vL _ _ _,vB _]) Z<|rF Z<|eU Z<|nv Z<|bv Z<|nA<|lf 2 wD Z<|aj ac Z<|lf 3 zW Z<|aj ac Z<|bm Z<|lq (rd (x:=.agg [U _ _,U _ _,vL _ _ _]) (cP Z r9 Z Z Z) Z) ?_;refine ab (zC [] [] [] func173 (T0 (⟨l.next,l.dP,rY e⟩:fb)) (trivial) rfl rfl) rfl ?_;refine dC 65 (.au [gV (oq (⟨l.next,l.dP,rY e⟩:fb)),aD true]) (Eq.trans (b:=AV.au [gV (r8 (⟨l.next,l.dP,rY e⟩:fb)),aD (i8 (⟨l.next,l.dP,rY e⟩:fb))]) rfl (by rw[At hS,hS])) ?_;refine xH ([]) [2,4,5,65] [2002,2003,2004] ?_;refine cT (.au [vL _ _ _,vB _]) Z<|rF Z<|eU Z<|nv Z<|bv Z<|nA<|lf 0 Bv Z<|aP (.agg [vL _ _ _,vL _ _ _]) mE Z<|lf 2 wD Z<|aj ac Z<|jK 72 ((l.next.toNat:Nat):Int) rfl (by omega)<|bm rfl ?_;refine A1 (A2 (F:=[]) [(1,1),(2,2)] [1,2] [] ([]).length func174 (aey l.bT l.next.toNat (oq (⟨l.next,l.dP,rY e⟩:fb)) hd (by omega) (by omega) hBl) ki List.drop_length List.take_length (Nat.le_refl _) ((by simp)) (fun _ _ _ _=>trivial) rfl rfl) rfl ?_;rintro _ _ ⟨xz1,oz1,Fz1,fa,hF1,hM1,rfl,rfl⟩;obtain⟨vs,us,gl,NS,rfl,rfl,rfl⟩:=fa;have E7:dS ([]++sY vs us (v6 l.bT l.next.toNat (oq (⟨l.next,l.dP,rY e⟩:fb)))):=dS.gJ x_67 hF1;refine cT (.au [.agg [.own _,.own _],vB true]) Z<|iB (.agg [.own _,.own _]) Z<|iB (vB true) Z<|ab (zA 2010 Du Z) Z ?_;refine xH (([]++sY vs us (v6 l.bT l.next.toNat (oq (⟨l.next,l.dP,rY e⟩:fb))))) [2,4,5,10,75,76] [1,2,2002,2003,2004,2010] ?_;refine ab (zB 2010 Dv Dw Z) Z<|cI Z<|nA<|aP (.agg [.own _,.own _]) mE Z<|lf 2 wD Z<|aj ac Z<|bg Z<|lf 3 zW Z<|aj ac Z<|lq (rd (x:=.agg [.own _,.own _,U _ _,U _ _]) (cP Z abQ Z Z Z) Z)<|ab (zB 2004 Nv Nw Z) Z<|ao Z<|Y<|aR ?_;have hc:aho l e=0:=ad0 hd hi hp he hn;have hL:=aiw hc;have abu:dS (sY vs us (v6 l.bT l.next.toNat (oq (⟨l.next,l.dP,rY e⟩:fb)))):=TJ;rw[List.nil_append,hc,hL];refine vW (F1:=(sY vs us (v6 l.bT l.next.toNat (oq (⟨l.next,l.dP,rY e⟩:fb))))) (.au [.agg [.own 1,.own 2,int (l.next+1),int l.dP],int 0]) (DS vs us (v6 l.bT l.next.toNat (oq (⟨l.next,l.dP,rY e⟩:fb)))) ?_ (by rw[SD gl NS];unfold v6;simp;omega) rfl rfl ⟨rfl,rfl,trivial⟩ ki;exact⟨vs,us,gl,NS,rfl,rfl,rfl⟩

abbrev Sf(x:aw)(l:List aO)(c:Int):AV:=.rp [.v (.int .i64 x.tick),.v (.int .i64 x.next),.v (.int .i64 x.aA),.ab 159 7 (ah aX x.ag),.ab 218 7 (ah go x.an),.ab 220 5 (ah iX x.aq),.ab 167 3 (ah ct l),.v (.int .i64 c)]
def d8(x:aw)(e:aV):Bool:=
 if x.next=1125899906842624 then true
 else if e.kind=1 then decide (1125899906842624<x.aA+e.af)
 else if e.kind=2 then decide (1125899906842624<e.af+e.ay)
 else if e.kind=3/\0<=eS x.ag e.ch then decide (1125899906842624<x.aA+(fz x.ag e.ch).loc-e.ay)
 else if e.kind=8 then decide (x.tick=1125899906842624)
 else false
def bk(n:Int):Prop:=-1125899906842624<=n/\n<=1125899906842624
structure kL(x:aw):Prop where
 tick:bk x.tick
 next:bk x.next
 aA:bk x.aA
 ag:∀c∈x.ag,bk c.loc/\bk c.aC/\bk c.cM/\bk c.base/\bk c.br
 an:∀h∈x.an,bk h.cW/\bk h.c9/\0<=h.jP/\h.jP<=1125899906842624/\0<=h.c9
 aq:∀c∈x.aq,bk c.af/\bk c.ay
 lc:x.ag.length<=20
 lh:x.an.length<=60
 li:x.aq.length<=20
structure m8(e:aV):Prop where
 af:bk e.af
 ay:bk e.ay
theorem dB{α:Type}{l:List α}{i:Nat}{c:α}(h:l[i]? = some c):c∈l:=List.mem_of_getElem? h
theorem kL.hs{x:aw}(h:kL x):qQ x.an:=⟨h.lh,fun y hy=>⟨(h.an y hy).2.2.2.2,(h.an y hy).2.1.2⟩⟩
def kO{α:Type}(f:α->α)(k:Nat)(l:List α):List α:=(l.take k).map f++l.drop k
theorem DL{α:Type}(f:α->α)(l:List α):kO f 0 l=l:=by rfl
theorem DM{α:Type}(f:α->α)(l:List α):kO f l.length l=l.map f:=by simp[kO]
theorem yr{α:Type}(f:α->α)(k:Nat)(l:List α)(h:k<=l.length):(kO f k l).length=l.length:=by grind[kO]
theorem tU{α:Type}(f:α->α){k:Nat}{l:List α}(h:k<l.length):(kO f k l)[k]? = some l[k]:=by
 unfold kO;grind
theorem BN{α:Type}(f:α->α){k:Nat}{l:List α}(h:k<l.length):(kO f k l).set k (f l[k])=kO f (k+1) l:=by
 unfold kO;rw[List.set_append_right _ _ x_80];simp only[List.length_map,List.length_take,Nat.min_eq_left (Nat.le_of_lt h),Nat.sub_self];grind[List.drop_eq_getElem_cons]
theorem Gd{α:Type}(f:α->α){k:Nat}{l:List α}(h:k<l.length)(hf:f l[k]=l[k]):kO f k l=kO f (k+1) l:=by
 grind[BN,tU,List.set_getElem_self]
theorem DN{α:Type}{enc:α->List Value}{l:List α}{c:α}{k:Nat}:((((ah enc l).drop 0).take (k-0))++ah enc [c])++(((ah enc l).drop k).take ((ah enc l).length-k))=ah enc (l.take k++[c]++l.drop k):=by
 simp[List.take_of_length_le,ah]
theorem Ge{α:Type}{enc:α->List Value}{l:List α}{k:Nat}:(((ah enc l).drop 0).take (k-0))++(((ah enc l).drop (k+1)).take ((ah enc l).length-(k+1)))=ah enc (l.take k++l.drop (k+1)):=by
 simp[List.take_of_length_le,ah]
def kx(h:eV):eV:={ h with jP:=min (h.jP+1) 1125899906842624 }
def l8(t:Int)(c:be):be:=if (t+1).tmod 5=0 then { c with cM:=lA c.cM } else c
def p'(x:aw):WR:=⟨{ x with tick:=x.tick+1,an:=x.an.map kx,ag:=x.ag.map (l8 x.tick) },[],0⟩
def lV(l:List be)(ch:Int):Nat:=l.findIdx fun d=>!decide (d.id<ch)
def ly(l:List be)(c:be):List be:=l.take (lV l c.id)++[c]++l.drop (lV l c.id)
theorem KZ{l:List be}{ch:Int}{k:Nat}(hk:k<=l.length)(h:∀j (h:j<l.length),j<k->l[j].id<ch)(h2:∀h:k<l.length,¬l[k].id<ch):lV l ch=k:=by
 unfold lV;grind
theorem Sg{l:List be}{ch:Int}{k:Nat}(hk:k<l.length)(bB:∀j (h:j<l.length),j<k->l[j].id<ch)(h2:l[k].id<ch):∀j (h:j<l.length),j<k+1->l[j].id<ch:=fun j hj eI=>by
 grind
def gO(x:aw)(e:aV):Int:=bE (decide (x.aA<e.af)) (bE (decide (0<=eS x.ag e.ch)||decide ((20:Int)<=(x.ag.length:Int))) 0 3) 4
def sJ(x:aw)(e:aV):WR:=if gO x e=0 then ⟨{ x with ag:=ly x.ag ⟨e.ch,e.af+e.ay,e.af,e.ay,0,0,0⟩,aA:=x.aA-e.af },bR (bR [] 6 e.ch e.af) 1 0 (-e.af),0⟩else ⟨x,[],gO x e⟩
theorem sK{x:aw}{e:aV}(h:gO x e≠0):sJ x e=⟨x,[],gO x e⟩:=if_neg h
theorem tK{x:aw}{e:aV}(h:gO x e=0):sJ x e=⟨{ x with ag:=ly x.ag ⟨e.ch,e.af+e.ay,e.af,e.ay,0,0,0⟩,aA:=x.aA-e.af },bR (bR [] 6 e.ch e.af) 1 0 (-e.af),0⟩:=if_pos h
theorem gP{n:Int}(h:bk n):dL n=true:=cJ.2 h
theorem jM{n:Int}(h:bk n):dL (-n)=true:=cJ.2 (by grind[bk])
theorem x_77{p:Prop}(c:p:=by have:=sm.aA;have:=es.af;have:=es.ay;unfold bk at *;unfold i64;omega):p:=c
theorem Sh(x:aw)(e:aV)(sm:kL x)(es:m8 e):GC prog 111 [cj x,ju e] [] (aD (d8 x e)) []:=by
 have hm:x.ag.length<=1000000000:=by have:=sm.lc;omega
 have mG:x.an.length<=1000000000:=by have:=sm.lh;omega
 have lr:x.aq.length<=1000000000:=by have:=sm.li;omega
 refine gi 4 func111 rfl ntmps111 rfl ?_;intro L O w0;refine sL<|ab (zX 2002 Z) Z<|ab (zX 2003 Z) Z<|ar Z<|nA<|aP (.agg [U _ _,U _ _,U _ _,vL _ _ _,vL _ _ _,vL _ _ _]) cu Z<|lf 2 dn Z<|aj ac Z ?_;rcases jt x.ag e.ch with⟨hi,ho⟩|⟨i,c,hi,hc,ho,hid⟩
 ·skip;refine ab (zL func125 (z2 x _ hm) Z) Z<|ao Z<|Y<|aS<|aB<|sL<|lf 1 mW Z<|aj ac Z<|ak Z<|bv Z<|Y ?_;refine AW.cond rfl ?_ ?_
  ·intro V;refine sL<|cI Z<|Y<|aR<|rB<|rT ?_;refine az trivial ?_;grind[d8]
  intro V;refine sL<|lf 0 jz Z<|aj ac Z<|ak Z<|bv Z<|Y ?_;refine AW.cond rfl ?_ ?_
  ·intro h2;refine sL<|lf 2 iW Z<|aj ac Z<|lf 4 bN Z<|aj ac Z ?_;refine eo rfl ⟨rfl,ce x_77⟩<|ak Z<|bv Z<|Y<|aR<|rB<|rT ?_;refine az trivial ?_;grind[d8]
  intro h2;refine sL<|lf 0 jz Z<|aj ac Z<|ak Z<|bv Z<|Y ?_;refine AW.cond rfl ?_ ?_
  ·intro h3;refine sL<|lf 4 bN Z<|aj ac Z<|lT [3,4,29] [2002,2003] ?_;refine lf 5 fC Z<|aj ac Z ?_;refine eo rfl ⟨rfl,ce x_77⟩<|ak Z<|bv Z<|Y<|aR<|rB<|rT ?_;refine az trivial ?_;grind[d8]
  intro h3;refine sL<|lf 0 jz Z<|aj ac Z<|ak Z<|aQ Z ?_;refine AL.bool (t:=38) rfl ?_ ?_
  ·intro h4;refine ae Z<|ak Z<|bJ 40 false rfl (by grind[eW])<|bL Z<|ar Z<|Y<|aN Z<|sL<|lf 0 jz Z<|aj ac Z<|ak Z<|bv Z<|Y ?_;refine AW.cond rfl ?_ ?_
   ·intro h5;refine sL<|lf 0 mB Z<|aj ac Z<|ak Z<|bv Z<|Y<|aR<|rB<|rT ?_;grind
   intro h5;refine aK<|gB<|gA<|ar Z<|Y<|aR ?_;refine az trivial ?_;grind[d8]
  intro h4;refine aa Z<|aa Z<|bL Z<|ar Z<|Y<|aN Z<|sL<|lf 0 jz Z<|aj ac Z<|ak Z<|bv Z<|Y ?_;refine AW.cond rfl ?_ ?_
  ·intro h6;refine sL<|lf 0 mB Z<|aj ac Z<|lT [4,60] [2002,2003] ?_;refine ak Z<|bv Z<|Y<|aR<|rB<|rT ?_;refine az trivial ?_;grind[d8]
  intro h6;refine aK<|gB<|gA<|ar Z<|Y<|aR ?_;refine az trivial ?_;grind[d8]
 have bC:=sm.ag c (dB hc);refine ab (zL func125 (z2 x _ hm) Z) Z<|ao Z<|Y<|aS<|aB<|sL<|lf 1 mW Z<|aj ac Z<|ak Z<|bv Z<|Y ?_;refine AW.cond rfl ?_ ?_
 ·intro h7;refine sL<|cI Z<|Y<|aR<|rB<|rT ?_;refine az trivial ?_;grind[d8]
 intro h7;refine sL<|lf 0 jz Z<|aj ac Z<|ak Z<|bv Z<|Y ?_;refine AW.cond rfl ?_ ?_
 ·intro h8;refine sL<|lf 2 iW Z<|aj ac Z<|lf 4 bN Z<|aj ac Z ?_;refine eo rfl ⟨rfl,ce x_77⟩<|ak Z<|bv Z<|Y<|aR<|rB<|rT ?_;refine az trivial ?_;grind[d8]
 intro h8;refine sL<|lf 0 jz Z<|aj ac Z<|ak Z<|bv Z<|Y ?_;refine AW.cond rfl ?_ ?_
 ·intro h9;refine sL<|lf 4 bN Z<|aj ac Z<|lf 5 fC Z<|aj ac Z ?_;refine eo rfl ⟨rfl,ce x_77⟩<|lT [4,32] [2002,2003] ?_;refine ak Z<|bv Z<|Y<|aR<|rB<|rT ?_;refine az trivial ?_;grind[d8]
 intro h9;refine sL<|lf 0 jz Z<|aj ac Z<|ak Z<|aQ Z ?_;refine AL.bool (t:=38) rfl ?_ ?_
 ·intro dh;refine ae Z<|ak Z<|bJ 40 true rfl (by rw[<-eW,hi];simp)<|aU Z<|cI Z<|Y<|aY Z<|aS<|aG 13 []<|tq 0 (rf 2 iW rfl)<|tq 1 (aZ ac rfl)<|tq 2 (rf 3 dr rfl)<|tq 3 (jj eg rfl)<|tq 4 (dW rfl)<|tq 5 (rd (x:=.rp _) (yt (i:=i) rfl cz rfl rfl ?hn1 (dk hc)) rfl) ?_;case hn1=>rw[<-eW];exact hi
  refine tq 6 (rd (x:=.rp _) (nM fH Z) Z)<|tq 7 (qU ac Z) ?_;refine tq 8 (iC rfl ⟨rfl,ce (by have:=bC.1;have:=sm.aA;have:=es.af;have:=es.ay;unfold bk at *;unfold i64;omega)⟩)<|yq 9 (rf 5 fC rfl)<|yq 10 (aZ ac rfl) ?_;refine yq 11 (iC rfl ⟨rfl,ce (by have:=bC.1;have:=sm.aA;have:=es.af;have:=es.ay;unfold bk at *;unfold i64;omega)⟩)<|yq 12 (dt rfl)<|yq 13 (fk rfl)<|gD<|gT<|aR<|rB<|rT ?_;refine az trivial ?_;grind[d8]
 intro dh;refine aa Z<|aa Z<|bL Z<|ar Z<|Y<|aN Z<|sL<|lf 0 jz Z<|aj ac Z<|ak Z<|bv Z<|lT [2,4,55] [2002,2003] ?_;refine Y ?_;refine AW.cond rfl ?_ ?_
 ·intro gp;refine sL<|lf 0 mB Z<|aj ac Z<|ak Z<|bv Z<|Y<|aR<|rB<|rT ?_;refine az trivial ?_;grind[d8]
 intro gp;refine aK<|gB<|gA<|ar Z<|Y<|aR ?_;refine az trivial ?_;grind[d8]
theorem Si(x:aw)(l:List aO)(c:Int)(fI to:be)(e:aV)(sm:qQ x.an):GC prog 216 [Sf x l c,KX fI,KX to,ju e] [] (int (BE x.an fI to e.to e.af e.yes)) []:=by
 refine gi 8 func216 rfl ntmps216 rfl ?_;intro L O w0;refine sL<|ab (zX 2005 Z) Z<|ab (zX 2006 Z) Z<|ab (zX 2007 Z) Z<|ao Z<|nA<|ao Z<|ao Z<|ao Z<|ao Z<|Y<|aS<|sL<|cT (.rp _) Z<|lq (rd (x:=.rp _) (Sj Z Z) Z)<|lq (rd (x:=.rp _) (nM dR Z) Z)<|lq (rd (x:=.rp _) (nM eF Z) Z)<|DO fS Z<|ba jb Z<|ae Z<|Y<|aB ?_;refine aW [5,6,7,8,19,20] [2005,2006,2007] (D:=Nat) (fun k=>[(9,int (bG (rJ e.to) (x.an.take k))),(10,int (bG (dK e.to) (x.an.take k))),(11,int (bG (rL e.to) (x.an.take k))),(12,int (bG (rK e.to) (x.an.take k))),(21,int (k:Int))]) (fun k=>[]) (fun k=>k<=x.an.length) (fun k=>x.an.length-k) (0) (Nat.zero_le _) ⟨rfl,rfl,rfl,rfl,rfl,trivial⟩ trivial ?_;intro k hI;have b0:=sm.1;have b1:=sm.ez e.to k;have b2:=sm.all e.to k;have b3:=sm.KM e.to k;have b4:=sm.one e.to k;refine sL<|ak Z<|Y<|aS ?_;refine AW.cond rfl ?_ ?_
 ·intro V;refine aK<|gT<|aS<|aB<|sL ?_;have hk:k<x.an.length:=by simpa[ap]using V
  have b5:=sm.at hk;refine li k f7 Z (bS hk)<|d6 (.agg [U _ _,U _ _,U _ _,U _ _,U _ _,vB _,U _ _]) kZ Z<|ab (zA 2014 iu Z) Z<|lT [5,6,7,8,9,10,11,12,14,19,20,21,24] [2005,2006,2007,2014] ?_;refine ab (zB 2014 nJ nL Z) Z<|Y<|aS<|sL<|lf 2 mJ Z<|aj ac Z<|lf 3 fK Z<|aj ac Z<|ak Z<|Y ?_;refine AW.cond rfl ?_ ?_
  ·intro h2;refine aE<|eT<|eB<|gT<|aL<|bg Z<|ae Z<|Y ?_;refine⟨k+1,hk,by omega,⟨(congrArg int (rM hk (by simp_all[rJ])).symm),(congrArg int (rM hk (by simp_all[dK])).symm),(congrArg int (rM hk (by simp_all[rL])).symm),(congrArg int (rM hk (by simp_all[rK])).symm),(iq rfl),trivial⟩,trivial,rfl,rfl⟩
  intro h2;refine aK<|gA<|ae Z<|lf 4 kw Z<|aj ac Z<|bg Z<|ao Z<|nA<|ae Z<|bg Z<|ao Z<|nA<|lf 5 BF Z<|tT jN Z<|bX Z<|Y ?_;refine AW.cond rfl ?_ ?_
  ·intro h3;refine sL<|ae Z<|lf 4 kw Z<|aj ac Z<|bg Z<|ao Z<|Y<|aL<|ae Z<|bg Z<|ao Z<|lN<|gB<|gT<|aL<|bg Z<|ae Z<|Y ?_;have he:x.an[k].out=e.to:=by simpa using h2
   have m':x.an[k].kept=false:=by simpa using h3
   refine⟨k+1,hk,by omega,⟨(Eq.trans (b:=int _) rfl (congrArg int (rN hk (by grind[rJ])))),x_102,(Eq.trans (b:=int _) rfl (congrArg int (rN hk (by grind[rL])))),x_101,(iq rfl),trivial⟩,trivial,rfl,rfl⟩
  intro h3;refine aK<|gB<|gT<|aL<|bg Z<|lT [5,6,7,8,9,10,11,12,19,20,21,45] [2005,2006,2007,2014] ?_;refine ae Z<|Y ?_;have he:x.an[k].out=e.to:=by simpa using h2
  have m':x.an[k].kept=true:=by simpa using h3
  refine⟨k+1,hk,by omega,⟨(congrArg int (rM hk (by grind[rJ])).symm),x_102,(congrArg int (rM hk (by grind[rL])).symm),x_101,(iq rfl),trivial⟩,trivial,rfl,rfl⟩
 intro V;refine aE<|eT<|eT<|eB<|gT<|aS<|aG 14 []<|tq 0 (rf 1 qS Z)<|tq 1 (aZ ac Z)<|tq 2 (dW Z)<|tq 3 (dW Z)<|tq 4 (dW Z)<|tq 5 (dW Z)<|tq 6 (rf 4 bN Z)<|tq 7 (aZ ac Z)<|tq 8 (rf 6 ms Z)<|tq 9 (aZ ac Z)<|yq 10 (rf 6 pw Z)<|yq 11 (uY jN Z)<|cm 12 Z (zL func267 (RY _ _) Z)<|gX [8,47,48,49,50,51,53,58] [2005,2006,2007] ?_;refine cm 13 Z (zL func266 (R0 _ _ _ _ _ _ _) Z)<|yq 14 (j8 Z)<|gD<|gT<|aR ?_;have dZ:k=x.an.length:=by have h:=V;simp only[ap,decide_eq_false_iff_not]at h;omega
 subst dZ;refine ax ?_ trivial;refine congrArg (fun n=>some (int n)) ?_;grind[BE]
theorem Sk(g u:Value)(x:aw)(sm:kL x):GC prog 118 [.ptr 0 0 0] (sT g u x [] 0) (.au []) (yp g (p' x)):=by
 have bh:=sm.lh;have bc:=sm.lc;refine GC.intro (rs:=[]) func118 rfl ntmps118 x_7 trivial ?_;intro L O w0;refine iQ 1 rfl ?_;refine sL<|aM Z<|lc Z<|lf 0 dR Z<|lf 0 mB Z<|aj ac Z ?_;refine eo rfl ⟨rfl,ce (by have:=sm.tick;grind[bk,i64])⟩<|lc Z<|lf 0 dR Z<|lf 0 mB Z<|ab (zB 0 ca cb rfl) Z<|Y<|aS<|sL<|aM Z<|lc Z<|lf 0 dR Z<|lf 4 eF Z<|iO fS Z<|ba jb Z<|ae Z<|Y<|aB ?_;refine aW [0,20] [0,1,3,4] (D:=Nat) (fun k=>[(21,int (k:Int))]) (fun k=>[(2,df (kO kx k x.an))]) (fun k=>k<=x.an.length) (fun k=>x.an.length-k) (0) (Nat.zero_le _) ⟨rfl,trivial⟩ ⟨(congrArg df (DL kx x.an).symm),trivial⟩ ?_;intro k hI;refine sL<|ak Z<|Y<|aS ?_;refine AW.cond rfl ?_ ?_
 ·intro V;refine aK<|gT<|aS<|aB<|sL<|ae Z<|ao Z<|nA<|aM Z<|lc Z<|lf 0 dR Z<|lf 4 eF Z<|iO fS Z<|ae Z ?_;have hk:k<x.an.length:=by simpa[ap]using V
  have bQ:=sm.an _ (List.getElem_mem hk);refine lq (rj k f7 rfl (by grind[ap,yr]))<|lC Z<|Y<|aL<|aM Z<|aM Z<|lT [0,20,21,31,32] [0,1,2,3,4] ?_;refine lc Z<|lf 6 tV Z<|lq (rd (x:=U _ _) (dT Z ac Z Z Z (dk (tU kx hk)) Z) Z) ?_;refine eo rfl ⟨rfl,ce x_82⟩<|lq (rd (x:=U _ _) (Sl rfl rfl) rfl)<|lc Z<|lf 6 tV Z<|ab (zQ 2 [.v (.int .i64 (min (x.an[k].jP+1) 1125899906842624))] ca cb rfl (dk (tU kx hk))) Z<|lN<|gB<|gT ?_;refine AW.obj 2 (df (kO kx (k+1) x.an)) (Eq.trans (b:=AO.ai 218 7 ((ah go (kO kx k x.an)).set k ((go (kx x.an[k])).map PV.v))) rfl (congrArg (AO.ai 218 7) (lB.trans (congrArg (ah go) (BN kx hk))))) ?_;refine aL<|bg Z<|ae Z<|Y ?_;refine⟨k+1,hk,by omega,x_10,⟨rfl,trivial⟩,rfl,rfl⟩
 intro V;refine aE<|eT<|eT<|eB<|gA<|aM Z<|lc Z<|lf 0 dR Z<|lf 3 dr Z<|iO eg Z<|ba kJ Z<|ae Z<|Y<|aB ?_;have Gf:k=x.an.length:=by have h:=V;simp only[ap,decide_eq_false_iff_not]at h;omega
 refine AW.obj 2 (df (x.an.map kx)) (congrArg df (by rw[Gf,DM])) ?_;refine aW [0,46] [0,2,3,4] (D:=Nat) (fun j=>[(47,int (j:Int))]) (fun j=>[(1,.ai 159 7 (ah aX (kO (l8 x.tick) j x.ag)))]) (fun j=>j<=x.ag.length) (fun j=>x.ag.length-j) (0) (Nat.zero_le _) ⟨rfl,trivial⟩ ⟨(congrArg (fun l=>AO.ai 159 7 (ah aX l)) (DL (l8 x.tick) x.ag).symm),trivial⟩ ?_;intro j hI;refine sL<|ak Z<|Y<|aS ?_;refine AW.cond rfl ?_ ?_
 ·intro h2;refine aK<|gT<|aS<|aB<|sL<|ae Z<|ao Z<|nA<|aM Z<|lc Z<|lf 0 dR Z<|lf 3 dr Z<|iO eg Z<|ae Z ?_;have hj:j<x.ag.length:=by simpa[ap]using h2
  have bC:=sm.ag _ (List.getElem_mem hj);refine lq (rj j cz rfl (by grind[ap,yr]))<|lC Z<|nA<|aM Z<|lc Z<|lT [0,5,46,47,58] [0,1,2,3,4] ?_;refine lf 0 dR Z<|lf 0 mB Z<|aj ac Z ?_;refine eo rfl ⟨rfl,by decide⟩<|ak Z<|Y ?_;refine AW.cond rfl ?_ ?_
  ·intro h3;refine aL<|aM Z<|aM Z<|lc Z<|lf 6 ms Z<|lq (rd (x:=U _ _) (dT Z ac Z Z Z (dk (tU _ hj)) Z) Z)<|ab (zL func220 (R7 _) Z) Z<|lc Z<|lf 6 ms Z<|ab (zQ 1 [.v (.int .i64 (lA x.ag[j].cM))] ca cb Z (dk (tU _ hj))) Z<|lT [0,46,47] [0,1,2,3,4] ?_;refine lN<|gB<|gT ?_;refine AW.obj 1 (.ai 159 7 (ah aX (kO (l8 x.tick) (j+1) x.ag))) (Eq.trans (b:=AO.ai 159 7 ((ah aX (kO (l8 x.tick) j x.ag)).set j ((aX { x.ag[j]with cM:=lA x.ag[j].cM }).map PV.v))) rfl (congrArg (AO.ai 159 7) (lB.trans (congrArg (ah aX) (by rw[<-BN _ hj];simp_all[l8]))))) ?_;refine aL<|bg Z<|ae Z<|Y ?_;refine⟨j+1,hj,by omega,x_10,⟨rfl,trivial⟩,rfl,rfl⟩
  intro h3;refine aK<|gB<|gT<|aL<|bg Z<|ae Z<|Y ?_;refine⟨j+1,hj,by omega,x_10,⟨(congrArg (fun l=>AO.ai 159 7 (ah aX l)) (Gd (l8 x.tick) hj (if_neg (by grind)))),trivial⟩,rfl,rfl⟩
 intro h2;refine aE<|eT<|eT<|eB ?_;refine iZ ?_ ⟨rfl,(congrArg (fun l=>AO.ai 159 7 (ah aX l)) (by rw[show j=x.ag.length by grind[ap],DM];rfl)),rfl,rfl,rfl,trivial⟩;rfl
theorem x_15{p:Prop}(c:p:=by exact (cL.nil _ _).add (.inl (by decide))):p:=c
theorem x_40{p:Prop}(c:p:=by exact ⟨(),trivial,trivial,⟨(congrArg (AO.ai 159 7) (DN.trans (congrArg (ah aX) (by grind[ly])))),rfl,trivial⟩,rfl,rfl⟩):p:=c
theorem x_116{p:Prop}(c:p:=by have:=es.af;have:=es.ay;have:=sm.aA;grind[bk,i64]):p:=c
theorem x_120{p:Prop}(c:p:=by exact Src.sub rfl rfl):p:=c
theorem x_130{p:Prop}(c:p:=by have:=es.af;grind[bk,i64]):p:=c
theorem Sm(g u:Value)(x:aw)(e:aV)(sm:kL x)(es:m8 e):GC prog 113 [.ptr 0 0 0,ju e] (sT g u x [] 0) (.au []) (yp g (sJ x e)):=by
 have hm:x.ag.length<=1000000000:=by have:=sm.lc;omega
 have mG:x.an.length<=1000000000:=by have:=sm.lh;omega
 have lr:x.aq.length<=1000000000:=by have:=sm.li;omega
 refine GC.intro (rs:=[]) func113 rfl ntmps113 x_7 trivial ?_;intro L O w0;refine iQ 1 rfl ?_;refine sL<|ab (zX 2003 Z) Z<|Y ?_;refine aJ [0,3] [1,2,3,4,2003] (D:=Unit) (fun jd=>[]) (fun jd=>[(0,cN g x.tick x.next x.aA (bE (decide (0<=eS x.ag e.ch)||decide ((20:Int)<=(x.ag.length:Int))) 0 3))]) (fun jd=>True) ?_ ?_
 ·refine aG 18 []<|tq 0 (cG Z)<|tq 1 (cG Z)<|tq 2 (rc Z)<|tq 3 (rf 0 dR Z)<|tq 4 (dw (.agg [U _ _,U _ _,U _ _,.own _,.own _,.own _]) cu Z)<|yq 5 (rf 2 dn Z)<|yq 6 (aZ ac Z)<|cm 7 Z (zL func125 (z2 x _ hm) Z)<|yq 8 (dt Z)<|yq 9 (dx Z) ?_;refine AG.bool (t:=15) rfl ?_ ?_
  ·intro V;refine bt 10 Z<|bt 11 Z<|bt 12 Z<|bt 13 Z<|bt 14 Z<|bt 15 Z<|bt 16 Z<|yq 17 (bA Z) ?_;refine yl rfl (bF func211 (fJ _ _ _ _ _ _ _ _ _ _ _ _ _ _ _ _ _ _ _ ) x_13 rfl rfl)<|gT ?_;refine⟨(),trivial,trivial,⟨(Eq.trans (b:=cN g x.tick x.next x.aA _) rfl (congrArg (cN g x.tick x.next x.aA) (by rw[show decide (0<=eS x.ag e.ch)=true from V];rfl))),trivial⟩,rfl,rfl⟩
  intro V;refine yq 10 (cG Z)<|yq 11 (rc Z)<|yq 12 (rf 0 dR Z)<|yq 13 (rf 3 dr Z)<|yq 14 (gC eg Z)<|yq 15 (le kJ Z)<|yq 16 (dt Z)<|yq 17 (cv Z) ?_;refine yl rfl (bF func211 (fJ _ _ _ _ _ _ _ _ _ _ _ _ _ _ _ _ _ _ _ ) x_13 rfl rfl)<|gT ?_;refine⟨(),trivial,trivial,⟨(Eq.trans (b:=cN g x.tick x.next x.aA _) rfl (congrArg (cN g x.tick x.next x.aA) (by rw[show decide (0<=eS x.ag e.ch)=false from V];simp[ap]))),trivial⟩,rfl,rfl⟩
 intro jd hJ;refine aS<|aG 9 []<|tq 0 (cG Z)<|tq 1 (cG Z)<|tq 2 (rc Z)<|tq 3 (rf 0 dR Z)<|tq 4 (rf 2 iW Z)<|tq 5 (aZ ac Z)<|yq 6 (rf 4 bN Z)<|yq 7 (aZ ac Z)<|yq 8 (dt Z) ?_;refine yl rfl (bF func211 (fJ _ _ _ _ _ _ _ _ _ _ _ _ _ _ _ _ _ _ _ ) x_13 rfl rfl)<|gT<|aS<|sL<|aM Z<|lc Z<|lf 7 mK Z<|aj ac Z<|ak Z<|Y ?_;refine AW.cond rfl ?_ ?_
 ·intro h2;refine aR<|rT ?_;have cQ:gO x e≠0:=by
   unfold gO;simpa[ap,<-eW]using h2
  rw[sK cQ];trivial
 intro h2;refine aK<|gT<|aS ?_;have cQ:gO x e=0:=by
  unfold gO;simpa[ap,<-eW]using h2
 refine aL<|ao Z<|Y<|aS<|aB ?_;refine aW [0,3] [0,1,2,3,4,2003] (D:=Nat) (fun k=>[(4,int (k:Int))]) (fun k=>[]) (fun k=>k<=x.ag.length/\∀j (h:j<x.ag.length),j<k->x.ag[j].id<e.ch) (fun k=>x.ag.length-k) (0) x_20 ⟨rfl,trivial⟩ trivial ?_;intro k hI;obtain⟨eN,bB⟩:=hI;refine aS<|aS<|aG 21 []<|tq 0 (dW Z)<|yq 1 (cG Z)<|yq 2 (rc Z)<|yq 3 (rf 0 dR Z)<|yq 4 (rf 3 dr Z)<|yq 5 (gC eg Z)<|yq 6 (le kJ Z)<|yq 7 (dt Z)<|yq 8 (dx Z) ?_;refine AG.bool (t:=48) rfl ?_ ?_
 ·intro h3;refine tq 9 (cG Z)<|tq 10 (rc Z)<|tq 11 (rf 0 dR Z)<|tq 12 (rf 3 dr Z)<|tq 13 (gC eg Z)<|gX [0,3,4,48,53] [0,1,2,3,4,2003] ?_;refine tq 14 (dW rfl) ?_;have hk:k<x.ag.length:=by simpa[ap]using h3
  refine tq 15 (rj k cz rfl (by grind))<|tq 16 (rf 0 kM rfl)<|tq 17 (rd (x:=U _ _) (dT rfl ac rfl rfl rfl (bS hk) rfl) rfl)<|yq 18 (rf 2 dn rfl)<|yq 19 (aZ ac rfl)<|yq 20 (dt rfl)<|yq 21 (cv rfl)<|gD<|gT ?_;refine AW.cond rfl ?_ ?_
  ·intro h4;refine aK<|gT<|aB<|aL<|ae Z<|bg Z<|ao Z<|lN<|gB<|gT ?_;refine⟨k+1,⟨hk,Sg hk bB (by grind)⟩,by omega,x_10,trivial,rfl,rfl⟩
  intro h4;refine aE<|eT<|eT<|eB<|gT<|aS ?_;have wK:lV x.ag e.ch=k:=KZ eN bB (fun eI=>by grind);refine aL<|lf 2 dn Z<|aj ac Z<|lf 4 bN Z<|aj ac Z<|lf 5 fC Z<|aj ac Z ?_;refine eo rfl ⟨rfl,ce (by have:=es.af;have:=es.ay;grind[bk,i64])⟩<|lf 4 bN Z<|aj ac Z<|lf 5 fC Z<|aj ac Z<|lq (rd (x:=.agg [U _ _,U _ _,U _ _,U _ _,U _ _,U _ _,U _ _]) (cP rfl BB rfl rfl rfl) rfl)<|ab (zA 2005 dy rfl) Z<|lT [0,3,4,5,75] [0,1,2,3,4,2003,2005] ?_;refine ab (zB 2005 lu lv Z) Z<|Y ?_;refine aJ [0,3] [2,3,4,2003,2005] (D:=Unit) (fun jd=>[]) (fun jd=>[(2084,.ai 159 7 (ah aX (ly x.ag ⟨e.ch,e.af+e.ay,e.af,e.ay,0,0,0⟩))),(0,.box 153 (some g) [int x.tick,int x.next,int x.aA,.own 2084,.own 2,.own 3,.own 4,int (gO x e)])]) (fun jd=>True) ?_ ?_
  ·refine aG 23 [2084]<|tq 0 (cG Z)<|tq 1 (cG Z)<|tq 2 (rc Z)<|tq 3 (rf 0 dR Z)<|tq 4 (rf 3 dr Z)<|tq 5 (gC eg Z)<|tq 6 (dW Z) ?_;refine tq 7 (rd (x:=.sub _ _ _) (tW (l:=0) (h:=k) rfl cz rfl rfl rfl ⟨_,rfl⟩ (by omega) (by grind)) rfl)<|tq 9 (dw (.agg [U _ _,U _ _,U _ _,U _ _,U _ _,U _ _,U _ _]) fF rfl)<|tq 12 (cG rfl)<|tq 13 (rc rfl)<|tq 14 (rf 0 dR rfl)<|tq 15 (rf 3 dr rfl)<|tq 16 (gC eg rfl)<|tq 17 (dW rfl) ?_;refine tq 18 (rd (x:=.sub _ _ _) (tW (l:=k) (h:=_) rfl cz rfl rfl ⟨_,rfl⟩ rfl (by grind) (Nat.le_refl _)) rfl) ?_;refine AG.two (i:=8) (j:=10) x_37 ?_ ?_
   ·refine oe.st (i:=8) rfl (qJ 2084 rfl rfl (by decide) cz dy rfl (by decide) rfl x_120 (by grind[maxLen]) (Nat.le_trans (Nat.mul_le_mul_left _ jL) (by grind))) (by decide) rfl ?_;refine gX [0,3,76,84,85,94] [0,1,2,3,4,2003,2005,2084] ?_;refine cm 10 rfl (zS 2086 (ah aX [⟨e.ch,e.af+e.ay,e.af,e.ay,0,0,0⟩]) cz dy rfl)<|cm 11 rfl (zP 2084 cz dy jL rfl x_14)<|cm 19 rfl (zP 2084 cz dy jL rfl x_120)<|yq 20 (rc rfl)<|yq 21 (rf 0 dR rfl)<|yq 22 (rf 3 dr rfl)<|yl rfl (zB 0 sM sN rfl)<|gT ?_;refine x_40
   refine oe.st (i:=10) rfl (BO 2086 (rows:=ah aX [⟨e.ch,e.af+e.ay,e.af,e.ay,0,0,0⟩]) rfl rfl (by decide) cz dy rfl rfl rfl rfl (by intro r hr;simp[ah]at hr;subst hr;rfl) rfl (by decide) (by decide)) (by decide) rfl ?_;refine cm 8 rfl (qJ 2084 rfl rfl (by decide) cz dy rfl (by decide) rfl x_120 (by grind[maxLen]) (Nat.le_trans (Nat.mul_le_mul_left _ jL) (by grind)))<|cm 11 rfl (zP 2084 cz dy jL rfl x_14)<|cm 19 rfl (zP 2084 cz dy jL rfl x_120)<|yq 20 (rc rfl)<|yq 21 (rf 0 dR rfl)<|yq 22 (rf 3 dr rfl)<|yl rfl (zB 0 sM sN rfl)<|gT ?_;refine x_40
  intro jd hJ;refine aS ?_;refine AW.swap 2084 1 ?_;refine aT [0,3] [0,1,2,3,4,2003,2005] ?_;refine aG 11 []<|tq 0 (cG Z)<|tq 1 (rc Z)<|tq 2 (rf 0 dR Z)<|tq 3 (rf 2 iW Z)<|tq 4 (aZ ac Z)<|yq 5 (rf 4 bN Z)<|yq 6 (aZ ac Z) ?_;refine yq 7 (iC rfl ⟨rfl,ce x_116⟩)<|yq 8 (rc rfl)<|yq 9 (rf 0 dR rfl)<|yq 10 (rf 2 iW rfl)<|yl rfl (zB 0 ca cb rfl)<|gA<|aM Z<|lf 2 dn Z<|aj ac Z<|lf 4 bN Z<|aj ac rfl ?_;refine ab (bF func112 (lU _ _ _ _ _ _ _ _ _ _ _ _ _ _ ([]) 0 (LG.nil) (by decide) _ _ _ (cL.nil _ _) (gP es.af)) x_13 rfl rfl) Z<|lT [0,3] [0,1,2,3,4,2003,2005] ?_;refine Y<|aL<|aM Z<|lf 4 bN Z<|aj ac Z<|lq (rd (x:=U _ _) (il rfl rfl (ce x_130)) rfl) ?_;refine ab (bF func112 (lU _ _ _ _ _ _ _ _ _ _ _ _ _ _ (bR [] 6 e.ch e.af) 1 (LG.nil.add (gP es.af)) (by decide) _ _ _ x_15 (jM es.af)) x_13 rfl rfl) Z<|lN ?_;rw[tK cQ];refine iZ ?_ ⟨(Eq.trans (b:=cN g x.tick x.next (x.aA-e.af) _) rfl (congrArg (cN g x.tick x.next (x.aA-e.af)) cQ)),rfl,rfl,rfl,rfl,trivial⟩;rfl
 intro h3;refine ep 9 Z<|ep 10 Z<|ep 11 Z<|ep 12 Z<|ep 13 Z<|ep 14 Z<|ep 15 Z<|ep 16 Z<|ep 17 Z<|bt 18 Z<|bt 19 Z<|bt 20 Z<|yq 21 (kK Z)<|gD<|gT<|aN Z<|aE<|eT<|eT<|eB<|gT<|aS ?_;have wK:lV x.ag e.ch=k:=KZ eN bB (fun eI=>by grind[ap]);refine aL<|lf 2 dn Z<|aj ac Z<|lf 4 bN Z<|aj ac Z<|lf 5 fC Z<|aj ac Z ?_;refine eo rfl ⟨rfl,ce (by have:=es.af;have:=es.ay;grind[bk,i64])⟩<|lf 4 bN Z<|aj ac Z<|lf 5 fC Z<|aj ac Z<|lq (rd (x:=.agg [U _ _,U _ _,U _ _,U _ _,U _ _,U _ _,U _ _]) (cP rfl BB rfl rfl rfl) rfl)<|ab (zA 2005 dy rfl) Z<|lT [0,3,4,5,75] [0,1,2,3,4,2003,2005] ?_;refine ab (zB 2005 lu lv Z) Z<|Y ?_;refine aJ [0,3] [2,3,4,2003,2005] (D:=Unit) (fun jd=>[]) (fun jd=>[(2084,.ai 159 7 (ah aX (ly x.ag ⟨e.ch,e.af+e.ay,e.af,e.ay,0,0,0⟩))),(0,.box 153 (some g) [int x.tick,int x.next,int x.aA,.own 2084,.own 2,.own 3,.own 4,int (gO x e)])]) (fun jd=>True) ?_ ?_
 ·refine aG 23 [2084]<|tq 0 (cG Z)<|tq 1 (cG Z)<|tq 2 (rc Z)<|tq 3 (rf 0 dR Z)<|tq 4 (rf 3 dr Z)<|tq 5 (gC eg Z)<|tq 6 (dW Z) ?_;refine tq 7 (rd (x:=.sub _ _ _) (tW (l:=0) (h:=k) rfl cz rfl rfl rfl ⟨_,rfl⟩ (by omega) x_31) rfl)<|tq 9 (dw (.agg [U _ _,U _ _,U _ _,U _ _,U _ _,U _ _,U _ _]) fF rfl)<|tq 12 (cG rfl)<|tq 13 (rc rfl)<|tq 14 (rf 0 dR rfl)<|tq 15 (rf 3 dr rfl)<|tq 16 (gC eg rfl)<|tq 17 (dW rfl) ?_;refine tq 18 (rd (x:=.sub _ _ _) (tW (l:=k) (h:=_) rfl cz rfl rfl ⟨_,rfl⟩ rfl x_31 (Nat.le_refl _)) rfl) ?_;refine AG.two (i:=8) (j:=10) x_37 ?_ ?_
  ·refine oe.st (i:=8) rfl (qJ 2084 rfl rfl (by decide) cz dy rfl (by decide) rfl x_120 (by grind[maxLen]) (Nat.le_trans (Nat.mul_le_mul_left _ jL) (by grind))) (by decide) rfl ?_;refine gX [0,3,76,84,85,94] [0,1,2,3,4,2003,2005,2084] ?_;refine cm 10 rfl (zS 2086 (ah aX [⟨e.ch,e.af+e.ay,e.af,e.ay,0,0,0⟩]) cz dy rfl)<|cm 11 rfl (zP 2084 cz dy jL rfl x_14)<|cm 19 rfl (zP 2084 cz dy jL rfl x_120)<|yq 20 (rc rfl)<|yq 21 (rf 0 dR rfl)<|yq 22 (rf 3 dr rfl)<|yl rfl (zB 0 sM sN rfl)<|gT ?_;refine x_40
  refine oe.st (i:=10) rfl (BO 2086 (rows:=ah aX [⟨e.ch,e.af+e.ay,e.af,e.ay,0,0,0⟩]) rfl rfl (by decide) cz dy rfl rfl rfl rfl (by intro r hr;simp[ah]at hr;subst hr;rfl) rfl (by decide) (by decide)) (by decide) rfl ?_;refine cm 8 rfl (qJ 2084 rfl rfl (by decide) cz dy rfl (by decide) rfl x_120 (by grind[maxLen]) (Nat.le_trans (Nat.mul_le_mul_left _ jL) (by grind)))<|cm 11 rfl (zP 2084 cz dy jL rfl x_14)<|cm 19 rfl (zP 2084 cz dy jL rfl x_120)<|yq 20 (rc rfl)<|yq 21 (rf 0 dR rfl)<|yq 22 (rf 3 dr rfl)<|yl rfl (zB 0 sM sN rfl)<|gT ?_;refine x_40
 intro jd hJ;refine aS ?_;refine AW.swap 2084 1 ?_;refine aT [0,3] [0,1,2,3,4,2003,2005] ?_;refine aG 11 []<|tq 0 (cG Z)<|tq 1 (rc Z)<|tq 2 (rf 0 dR Z)<|tq 3 (rf 2 iW Z)<|tq 4 (aZ ac Z)<|yq 5 (rf 4 bN Z)<|yq 6 (aZ ac Z) ?_;refine yq 7 (iC rfl ⟨rfl,ce x_116⟩)<|yq 8 (rc rfl)<|yq 9 (rf 0 dR rfl)<|yq 10 (rf 2 iW rfl)<|yl rfl (zB 0 ca cb rfl)<|gA<|aM Z<|lf 2 dn Z<|aj ac Z<|lf 4 bN Z<|aj ac rfl ?_;refine ab (bF func112 (lU _ _ _ _ _ _ _ _ _ _ _ _ _ _ ([]) 0 (LG.nil) (by decide) _ _ _ (cL.nil _ _) (gP es.af)) x_13 rfl rfl) Z<|lT [0,3] [0,1,2,3,4,2003,2005] ?_;refine Y<|aL<|aM Z<|lf 4 bN Z<|aj ac Z<|lq (rd (x:=U _ _) (il rfl rfl (ce x_130)) rfl) ?_;refine ab (bF func112 (lU _ _ _ _ _ _ _ _ _ _ _ _ _ _ (bR [] 6 e.ch e.af) 1 (LG.nil.add (gP es.af)) (by decide) _ _ _ x_15 (jM es.af)) x_13 rfl rfl) Z<|lN ?_;rw[tK cQ];refine iZ ?_ ⟨(Eq.trans (b:=cN g x.tick x.next (x.aA-e.af) _) rfl (congrArg (cN g x.tick x.next (x.aA-e.af)) cQ)),rfl,rfl,rfl,rfl,trivial⟩;rfl

structure sO(x:aw):Prop where
 sm:kL x
 ids:x.ag.Pairwise fun a b=>a.id≠b.id
 jF:x.an.Pairwise fun a b=>a.key≠b.key
 Jv:x.aq.Pairwise fun a b=>a.key≠b.key
 y':∀h∈x.an,0<=eS x.ag h.gh/\0<=eS x.ag h.out/\h.gh≠h.out
 P0:∀h∈x.aq,0<=eS x.ag h.fI/\0<=eS x.ag h.to/\h.fI≠h.to
def cC(l:List be)(ch:Int)(f:be->be):List be:=l.map fun c=>if c.id=ch then f c else c
def ny(l:List be)(ch:Int):List be:=l.filter fun c=>!(c.id==ch)
def jS(l:List eV)(key:Int):List eV:=l.filter fun c=>!(c.key==key)
def jA(l:List gz)(key:Int):List gz:=l.filter fun c=>!(c.key==key)
theorem OX{α:Type}{g:α->Int}{l:List α}(jU:l.Pairwise fun a b=>g a≠g b){i j:Nat}{c d:α}(hc:l[i]? = some c)(hd:l[j]? = some d)(h:g c=g d):i=j:=by
 obtain⟨V,rfl⟩:=List.getElem?_eq_some_iff.1 hc;obtain⟨h2,rfl⟩:=List.getElem?_eq_some_iff.1 hd;grind[List.pairwise_iff_getElem]
theorem FD{l:List be}(jU:l.Pairwise fun a b=>a.id≠b.id){i:Nat}{c:be}(hc:l[i]? = some c)(f:be->be):l.set i (f c)=cC l c.id f:=by
 apply List.ext_getElem?;intro j;unfold cC;rw[List.getElem?_map,List.getElem?_set];have hi:=(List.getElem?_eq_some_iff.1 hc).1;by_cases e:i=j
 ·grind
 rw[if_neg e];cases hj:l[j]? with
 |none=>rfl
 |some d=>
  have:d.id≠c.id:=fun q=>e (OX (g:=fun c=>c.id) jU hc hj q.symm);grind
theorem ZX{l:List be}(jU:l.Pairwise fun a b=>a.id≠b.id){ch:Int}{f:be->be}(hf:∀c,(f c).id=c.id):(cC l ch f).Pairwise fun a b=>a.id≠b.id:=by
 grind[cC]
theorem ZY{l:List be}{ch:Int}{f:be->be}{j:Nat}{d:be}(hd:l[j]? = some d)(bO:d.id≠ch):(cC l ch f)[j]? = some d:=by
 grind[cC]
theorem ZZ{l:List be}(jU:l.Pairwise fun a b=>a.id≠b.id){i j:Nat}{c d:be}(hc:l[i]? = some c)(hd:l[j]? = some d)(bO:c.id≠d.id)(f g:be->be)(hf:∀c,(f c).id=c.id):(l.set i (f c)).set j (g d)=cC (cC l c.id f) d.id g:=by
 rw[FD jU hc f];exact FD (ZX jU hf) (ZY hd (Ne.symm bO)) g
theorem jy{α:Type}{l:List α}{i j:Nat}{d:α}(hd:l[j]? = some d)(bO:i≠j)(x:α):(l.set i x)[j]? = some d:=by grind
theorem ww{α:Type}{l:List α}{i:Nat}{d:α}(hd:l[i]? = some d)(x:α):(l.set i x)[i]? = some x:=List.getElem?_set_self (List.getElem?_eq_some_iff.1 hd).1
theorem px{l:List be}(jU:l.Pairwise fun a b=>a.id≠b.id){i j:Nat}{c d:be}{a b:Int}(hc:l[i]? = some c)(hd:l[j]? = some d)(hid:c.id=a)(lz:d.id=b)(bO:a≠b)(f g:be->be)(hf:∀c,(f c).id=c.id):(l.set i (f c)).set j (g d)=cC (cC l a f) b g:=by
 grind[ZZ]
theorem tP{l:List be}{i j:Nat}{c d:be}(hc:l[i]? = some c)(hd:l[j]? = some d)(bO:c.id≠d.id):i≠j:=fun e=>by
 grind
theorem erase_filter{α:Type}{g:α->Int}{l:List α}(jU:l.Pairwise fun a b=>g a≠g b):∀ {i:Nat} {c:α},l[i]? = some c->l.take i++l.drop (i+1)=l.filter fun d=>!(g d==g c):=by
 induction l with
 |nil=>simp
 |cons a l ih=>
  intro i c h;rw[List.pairwise_cons]at jU;cases i with
  |zero=>
   grind[List.filter_eq_self]
  |succ i=>
   grind
def tO(l:List be)(ch:Int)(c:Int):Int:=if eS l ch=-1 then bE true c 6 else c
theorem j9{l:List be}{ch c:Int}(h:eS l ch=-1):tO l ch c=bE true c 6:=if_pos h
theorem ka{l:List be}{ch c:Int}{i:Nat}(h:eS l ch=(i:Int)):tO l ch c=c:=if_neg (by omega)
def ir(x:aw)(e:aV):Int:=bE (decide ((fz x.ag e.ch).loc<e.ay)) (bE (oG x e.ch) (tO x.ag e.ch 0) 7) 8
def zZ(x:aw)(e:aV):WR:=⟨{ x with ag:=ny x.ag e.ch,aA:=x.aA+((fz x.ag e.ch).loc-e.ay) },bR (bR (bR [] 1 0 ((fz x.ag e.ch).loc-e.ay)) 5 0 e.ay) 6 e.ch (-(fz x.ag e.ch).loc),0⟩
def rH(x:aw)(e:aV):WR:=if ir x e=0 then zZ x e else ⟨x,[],ir x e⟩
theorem tM{x:aw}{e:aV}(h:ir x e≠0):rH x e=⟨x,[],ir x e⟩:=if_neg h
theorem yf{x:aw}{e:aV}(h:ir x e=0):rH x e=zZ x e:=if_pos h
def cn(x:aw)(e:aV):Int:=eM e.af (kG (fz x.ag e.to).base (fz x.ag e.to).br e.af)
def gZ(x:aw)(e:aV):Bool:=!mz (fz x.ag e.to).base (fz x.ag e.to).br e.af||!gI e.af (kG (fz x.ag e.to).base (fz x.ag e.to).br e.af)
def im(x:aw)(e:aV):Int:=bE (decide ((60:Int)<=(x.an.length:Int))) (tO x.ag e.to (tO x.ag e.ch (bE (nD x e.key) 0 9))) 14
def dz(x:aw)(e:aV):Int:=bE (decide ((fz x.ag e.to).loc<e.af)) (bE (decide ((fz x.ag e.ch).aC<cn x e)) (bE (gZ x e) (im x e) 10) 11) 12
def ib(x:aw)(e:aV):Int:=BE x.an (fz x.ag e.ch) (fz x.ag e.to) e.to e.af e.yes
def gg(x:aw)(e:aV):Int:=if dz x e=0 then bE (decide (ib x e=0)) (dz x e) 13 else dz x e
def mI(x:aw)(e:aV):WR:=⟨{ x with an:=x.an++[⟨e.key,e.ch,e.to,cn x e,e.af,decide (ib x e=2),0⟩],ag:=cC (cC x.ag e.ch fun c=>{ c with aC:=c.aC-cn x e }) e.to fun c=>{ c with loc:=c.loc-e.af } },bR (bR [] 6 e.to (-e.af)) 8 e.to e.af,0⟩
def sP(x:aw)(e:aV):WR:=if gg x e=0 then mI x e else ⟨x,[],gg x e⟩
theorem jm{x:aw}{e:aV}(h:gg x e≠0):sP x e=⟨x,[],gg x e⟩:=if_neg h
theorem sR{x:aw}{e:aV}(h:gg x e=0):sP x e=mI x e:=if_pos h
theorem lQ(a b:Int):bk (eM a b):=by
 rcases h:gI a b with _|_
 ·grind[YV,bk]
 rw[ye h];unfold gI at h;rw[Bool.and_eq_true,cY]at h;grind[bk]
theorem x_119{p:Prop}(c:p:=by have:=bC.1;have:=es.af;have:=es.ay;grind[bk,i64]):p:=c
theorem x_136{p:Prop}(c:p:=by have:=bC.1;have:=es.af;have:=es.ay;have:=sm.aA;grind[bk,i64]):p:=c
theorem Z0(g u:Value)(x:aw)(e:aV)(fi:sO x)(es:m8 e)(tL:0<=e.ay):GC prog 114 [.ptr 0 0 0,ju e] (sT g u x [] 0) (.au []) (yp g (rH x e)):=by
 have sm:=fi.sm;have hm:x.ag.length<=1000000000:=by have:=sm.lc;omega
 have mG:x.an.length<=1000000000:=by have:=sm.lh;omega
 have lr:x.aq.length<=1000000000:=by have:=sm.li;omega
 refine GC.intro (rs:=[]) func114 rfl ntmps114 x_7 trivial ?_;intro L O w0;refine sL<|ab (zX 2003 Z) Z<|nA<|aM Z<|lf 2 dn Z<|aj ac Z ?_;rcases jt x.ag e.ch with⟨hi,ho⟩|⟨i,c,hi,hc,ho,hid⟩
 ·skip;refine ab (zC [(0,0),(1,1),(2,2),(3,3),(4,4),(2017,2017)] [2,3,4,2017] [0,1] func115 (wJ _ _ x _ _ _ hm hi) x_4 rfl rfl) Z<|lc Z<|aP (.agg [U _ _,U _ _,U _ _,U _ _,U _ _,U _ _,U _ _]) fF Z<|ab (zA 2004 dy rfl) Z<|ab (zB 2004 lu lv rfl) Z<|Y<|aS<|aG 8 []<|tq 0 (cG rfl)<|tq 1 (cG rfl)<|tq 2 (rc rfl)<|tq 3 (rf 0 dR rfl)<|tq 4 (dw (.agg [U _ _,U _ _,U _ _,.own _,.own _,.own _]) cu rfl)<|yq 5 (rf 2 dn rfl)<|yq 6 (aZ ac rfl)<|cm 7 rfl (zL func212 (KN x _ mG lr) rfl)<|gX [0,3,4,12,19] [0,1,2,3,4,2003,2004,2017] ?_;refine yl rfl (et func211 (fJ _ _ _ _ _ _ _ _ _ _ _ _ _ _ _ _ _ _ _ ) x_4 rfl rfl)<|gA<|aM Z<|lf 5 fC Z<|aj ac Z<|lf 2 fH Z<|aj ac Z<|ak rfl ?_;refine ab (et func211 (fJ _ _ _ _ _ _ _ _ _ _ _ _ _ _ _ _ _ _ _ ) x_4 rfl rfl) Z<|Y<|aS<|sL<|aM Z<|lc Z<|lf 7 mK Z<|aj ac Z<|ak Z<|bJ 32 true rfl (by grind[dI,mp])<|Y ?_;refine iQ 1 rfl ?_;refine aY Z<|aR<|rT ?_;have cQ:ir x e≠0:=by unfold ir;rw[j9 hi];exact dI (dI (mp (by decide)))
  rw[tM cQ];refine ax ?_ ⟨(Eq.trans (b:=cN g x.tick x.next x.aA _) rfl (congrArg (cN g x.tick x.next x.aA) (by grind[ir,j9]))),rfl,rfl,rfl,rfl,trivial⟩;rfl
 have bC:=sm.ag c (dB hc);refine ab (et func115 (rP _ _ x _ _ _ hm _ _ hi hc) x_4 rfl rfl) Z<|lT [0,3,9] [0,1,2,3,4,2003] ?_;refine lc Z<|lq (rd (x:=.agg [U _ _,U _ _,U _ _,U _ _,U _ _,U _ _,U _ _]) (dT Z fF Z Z Z (dk hc) Z) Z)<|ab (zA 2004 dy Z) Z<|ab (zB 2004 lu lv Z) Z<|Y<|aS<|aG 8 []<|tq 0 (cG Z)<|tq 1 (cG Z)<|tq 2 (rc Z)<|tq 3 (rf 0 dR Z)<|tq 4 (dw (.agg [U _ _,U _ _,U _ _,.own _,.own _,.own _]) cu Z)<|yq 5 (rf 2 dn Z)<|yq 6 (aZ ac Z)<|cm 7 Z (zL func212 (KN x _ mG lr) Z) ?_;refine yl rfl (et func211 (fJ _ _ _ _ _ _ _ _ _ _ _ _ _ _ _ _ _ _ _ ) x_4 rfl rfl)<|gA<|aM Z<|lf 5 fC Z<|aj ac Z<|lf 2 fH Z<|aj ac Z<|ak rfl ?_;refine ab (et func211 (fJ _ _ _ _ _ _ _ _ _ _ _ _ _ _ _ _ _ _ _ ) x_4 rfl rfl) Z<|lT [0,3,4] [0,1,2,3,4,2003,2004] ?_;refine Y<|aS<|sL<|aM Z<|lc Z<|lf 7 mK Z<|aj ac Z<|ak Z<|Y ?_;refine iQ 1 rfl ?_;refine AW.cond rfl ?_ ?_
 ·intro V;refine aR<|rT ?_;have cQ:ir x e≠0:=by unfold ir;rw[ka hi,ho];simpa using V
  rw[tM cQ];refine ax ?_ ⟨(Eq.trans (b:=cN g x.tick x.next x.aA _) rfl (congrArg (cN g x.tick x.next x.aA) (by grind[ir,ka]))),rfl,rfl,rfl,rfl,trivial⟩;rfl
 intro V;refine aK<|gT<|aS ?_;have cQ:ir x e=0:=by
  unfold ir;rw[ka hi,ho];simpa using V
 refine aG 7 []<|tq 0 (cG Z)<|tq 1 (rc Z)<|tq 2 (rf 0 dR Z)<|tq 3 (dw (.agg [U _ _,U _ _,U _ _,.own _,.own _,.own _]) cu Z)<|yq 4 (rf 2 dn Z)<|yq 5 (aZ ac Z)<|cm 6 Z (zL func125 (z2 x _ hm) Z)<|vO 39 (i:Int) Z hi<|yq 7 (j8 Z)<|gD<|gT<|aS<|aG 21 [2048]<|tq 0 (cG Z)<|tq 1 (cG Z)<|tq 2 (rc Z)<|tq 3 (rf 0 dR Z)<|tq 4 (rf 3 dr Z)<|tq 5 (gC eg Z)<|tq 6 (dW Z) ?_;have ul:=(List.getElem?_eq_some_iff.1 hc).1;refine tq 7 (rd (x:=.sub _ _ _) (tW (l:=0) (h:=i) rfl cz rfl rfl rfl ⟨_,rfl⟩ (by omega) (by rw[ap];omega)) rfl)<|tq 9 (cG rfl)<|tq 10 (rc rfl)<|tq 11 (rf 0 dR rfl)<|tq 12 (rf 3 dr rfl)<|tq 13 (gC eg rfl)<|tq 14 (dW rfl) ?_;refine tq 15 (iC rfl ⟨rfl,ce x_82⟩)<|vO 55 ((i+1:Nat):Int) rfl (by omega) ?_;refine tq 16 (rd (x:=.sub _ _ _) (tW (l:=i+1) (h:=_) rfl cz rfl rfl ⟨_,rfl⟩ rfl (by rw[ap];omega) (Nat.le_refl _)) rfl)<|cm 8 rfl (qJ 2048 rfl rfl (by decide) cz dy rfl (by decide) rfl x_120 (by grind[maxLen]) (Nat.le_trans (Nat.mul_le_mul_left _ jL) (by grind)))<|gX [0,3,4,40,48,56] [0,1,2,3,4,2003,2004,2048] ?_;refine cm 17 Z (zP 2048 cz dy jL Z (Src.sub Z Z))<|yq 18 (rc Z)<|yq 19 (rf 0 dR Z)<|yq 20 (rf 3 dr Z)<|yl Z (zB 0 sM sN Z)<|gT ?_;refine AW.obj 2048 (.ai 159 7 (ah aX (ny x.ag e.ch))) ((congrArg (AO.ai 159 7) (Ge.trans (congrArg (ah aX) (by rw[erase_filter (g:=fun c=>c.id) fi.ids hc,hid];rfl))))) ?_;refine aS ?_;refine AW.swap 2048 1 ?_;refine aT [0,3,4] [0,1,2,3,4,2003,2004] ?_;refine aG 14 []<|tq 0 (cG Z)<|tq 1 (rc Z)<|tq 2 (rf 0 dR Z)<|tq 3 (rf 2 iW Z)<|tq 4 (aZ ac Z)<|tq 5 (rf 2 fH Z)<|tq 6 (aZ ac Z)<|yq 7 (rf 5 fC Z)<|yq 8 (aZ ac Z) ?_;refine yq 9 (iC rfl ⟨rfl,ce x_119⟩) ?_;refine yq 10 (iC rfl ⟨rfl,ce x_136⟩)<|yq 11 (rc rfl)<|yq 12 (rf 0 dR rfl)<|yq 13 (rf 2 iW rfl)<|yl rfl (zB 0 ca cb rfl)<|gA<|aM Z<|lf 2 fH Z<|aj ac Z<|lf 5 fC Z<|aj ac rfl ?_;refine eo rfl ⟨rfl,ce x_119⟩ ?_;have tN:¬c.loc<e.ay/\0<=e.ay:=⟨fun q=>by
  grind[mp],tL⟩
 refine ab (bF func112 (lU _ _ _ _ _ _ _ _ _ _ _ _ _ _ ([]) 0 (LG.nil) (by decide) _ _ _ (cL.nil _ _) (gP (by grind[bk]))) x_13 rfl rfl) Z<|lT [0,3,4] [0,1,2,3,4,2003,2004] ?_;refine nA<|aM Z<|lf 5 fC Z<|aj ac Z ?_;refine ab (bF func112 (lU _ _ _ _ _ _ _ _ _ _ _ _ _ _ (bR [] 1 0 (c.loc-e.ay)) 1 (LG.nil.add (gP (by grind[bk]))) (by decide) _ _ _ x_15 (gP es.ay)) x_13 rfl rfl) Z<|Y<|aL<|aM Z<|lf 2 dn Z<|aj ac Z<|lf 2 fH Z<|aj ac Z<|lq (rd (x:=U _ _) (il rfl rfl (ce (by grind[bk,i64]))) rfl) ?_;refine ab (bF func112 (lU _ _ _ _ _ _ _ _ _ _ _ _ _ _ (bR (bR [] 1 0 (c.loc-e.ay)) 5 0 e.ay) 2 ((LG.nil.add (gP (by grind[bk]))).add (gP es.ay)) (by decide) _ _ _ (((cL.nil _ _).add (.inl (by decide))).add (.inl (by decide))) (jM bC.1)) x_13 rfl rfl) Z<|lN ?_;rw[yf cQ];unfold zZ;rw[ho];refine iZ ?_ ⟨(Eq.trans (b:=cN g x.tick x.next (x.aA+(c.loc-e.ay)) _) rfl (congrArg (cN g x.tick x.next (x.aA+(c.loc-e.ay))) (by grind))),rfl,rfl,rfl,rfl,trivial⟩;rfl
theorem x_39{p:Prop}(c:p:=by exact Eq.trans (b:=int _) rfl (congrArg int (by grind[cn]))):p:=c
theorem x_61{p:Prop}(c:p:=by exact congrArg (AO.ai ⟨159,some u⟩ 7) lB):p:=c
theorem x_76{p:Prop}(c:p:=by exact Eq.trans (b:=cN g x.tick x.next x.aA _) rfl (congrArg (cN g x.tick x.next x.aA) (by unfold dz;rw[ho,hp]))):p:=c
theorem x_141{p:Prop}(c:p:=by exact congrArg (cN g x.tick x.next x.aA) (by unfold dz;rw[ho,hp])):p:=c
theorem Z1(g u:Value)(x:aw)(e:aV)(fi:sO x)(es:m8 e)(bO:e.ch≠e.to):GC prog 116 [.ptr 0 0 0,ju e] (sT g u x [] 0) (.au []) (yp g (sP x e)):=by
 have sm:=fi.sm;have hm:x.ag.length<=1000000000:=by have:=sm.lc;omega
 have mG:x.an.length<=1000000000:=by have:=sm.lh;omega
 have lr:x.aq.length<=1000000000:=by have:=sm.li;omega
 refine GC.intro (rs:=[]) func116 rfl ntmps116 x_7 trivial ?_;intro L O w0;refine sL<|ab (zX 2003 Z) Z<|Y<|aS<|aG 8 []<|tq 0 (cG Z)<|tq 1 (cG Z)<|tq 2 (rc Z)<|tq 3 (rf 0 dR Z)<|tq 4 (dw (.agg [U _ _,U _ _,U _ _,.own _,.own _,.own _]) cu Z)<|yq 5 (rf 1 gE Z)<|yq 6 (aZ ac Z)<|cm 7 Z (zL func213 (KP x _ mG lr) Z) ?_;refine yl rfl (et func211 (fJ _ _ _ _ _ _ _ _ _ _ _ _ _ _ _ _ _ _ _ ) x_4 rfl rfl)<|gA<|aM Z<|lf 2 dn Z<|aj ac rfl ?_;rcases jt x.ag e.ch with⟨hi,ho⟩|⟨i,c,hi,hc,ho,hid⟩
 ·skip;refine ab (zC [(0,0),(1,1),(2,2),(3,3),(4,4),(2017,2017)] [2,3,4,2017] [0,1] func115 (wJ _ _ x _ _ _ hm hi) x_4 rfl rfl) Z<|lT [0,3,23] [0,1,2,3,4,2003,2017] ?_;refine lC Z<|nA<|aM Z<|lf 3 fK Z<|aj ac Z ?_;rcases jt x.ag e.to with⟨hj,hp⟩|⟨j,d,hj,hd,hp,lz⟩
  ·skip;refine ab (zC [(0,0),(1,1),(2,2),(3,3),(4,4),(2017,2018)] [2,3,4,2018] [0,1] func115 (wJ _ _ x _ _ _ hm hj) x_4 rfl rfl) Z<|lC Z<|nA<|aM Z<|aM Z<|lc Z<|lf 0 dR Z<|lf 4 eF Z<|iO fS Z<|ba jb Z<|ak rfl ?_;refine ab (et func211 (fJ _ _ _ _ _ _ _ _ _ _ _ _ _ _ _ _ _ _ _ ) x_4 rfl rfl) Z<|lT [0,3,4,5] [0,1,2,3,4,2003,2017,2018] ?_;refine Y<|aS<|aG 15 []<|tq 0 (cG Z)<|tq 1 (rc Z)<|tq 2 (rf 4 nE Z)<|tq 3 (aZ ac Z)<|tq 4 (cG Z)<|tq 5 (rc Z)<|tq 6 (rf 5 mH Z)<|tq 7 (aZ ac Z)<|yq 8 (rf 4 bN Z)<|yq 9 (aZ ac Z)<|cm 10 Z (zL func214 (Ft _ _ _) Z)<|yq 11 (sj (.au [U _ _,vB _]) Z)<|tq 12 (Cy Z)<|tq 13 (Cz Z)<|yq 14 (j8 Z)<|yq 15 (fk Z)<|gD<|gA<|lf 4 bN Z<|aj ac Z<|ae Z<|ab (zL func215 (uM _ _) Z) Z<|lT [0,3,4,5,7,55] [0,1,2,3,4,2003,2017,2018] ?_;refine cT (.au [U _ _,vB _]) Z<|dE Z<|eU Z<|ao Z<|bv Z<|Y ?_;refine aJ [0,3,4,5] [1,2,3,4,2003,2017,2018] (D:=Unit) (fun jd=>[(8,int (cn x e))]) (fun jd=>[(0,cN g x.tick x.next x.aA (bE (gZ x e) (im x e) 10))]) (fun jd=>True) ?_ ?_
   ·refine aL<|aM Z<|aQ Z<|bX Z<|aQ Z ?_;refine AL.bool (t:=61) rfl ?_ ?_
    ·intro V;refine aa Z<|aa Z<|aU Z ?_;refine ab (et func211 (fJ _ _ _ _ _ _ _ _ _ _ _ _ _ _ _ _ _ _ _ ) x_4 rfl rfl) Z<|Y ?_;refine⟨(),trivial,⟨x_39,trivial⟩,⟨(Eq.trans (b:=cN g x.tick x.next x.aA _) rfl (congrArg (cN g x.tick x.next x.aA) (by grind[gZ,im,j9,ap]))),trivial⟩,rfl,rfl⟩
    intro V;refine aQ Z<|bX Z<|bj Z ?_;refine ab (et func211 (fJ _ _ _ _ _ _ _ _ _ _ _ _ _ _ _ _ _ _ _ ) x_4 rfl rfl) Z<|lT [0,3,4,5,8] [0,1,2,3,4,2003,2017,2018] ?_;refine Y ?_;refine⟨(),trivial,⟨x_39,trivial⟩,⟨(Eq.trans (b:=cN g x.tick x.next x.aA _) rfl (congrArg (cN g x.tick x.next x.aA) (by grind[gZ,im,j9,ap]))),trivial⟩,rfl,rfl⟩
   intro jd hJ;have hz:im x e≠0:=by
    unfold im;rw[j9 hj,j9 hi];exact dI (mp (by decide))
   have fa:dz x e≠0:=dI (dI (dI hz));refine sL<|aM Z<|aM Z<|lc Z<|lf 3 ic Z<|aj ac Z<|ae Z<|ak Z ?_;refine ab (et func211 (fJ _ _ _ _ _ _ _ _ _ _ _ _ _ _ _ _ _ _ _ ) x_4 rfl rfl) Z<|Y<|aS<|aG 8 []<|tq 0 (cG rfl)<|tq 1 (cG rfl)<|tq 2 (rc rfl)<|tq 3 (rf 2 fH rfl)<|tq 4 (aZ ac rfl)<|yq 5 (rf 4 bN rfl)<|yq 6 (aZ ac rfl)<|yq 7 (dt rfl) ?_;refine yl rfl (et func211 (fJ _ _ _ _ _ _ _ _ _ _ _ _ _ _ _ _ _ _ _ ) x_4 rfl rfl)<|gT ?_;refine AW.obj 0 (cN g x.tick x.next x.aA (dz x e)) ((Eq.trans (b:=cN g x.tick x.next x.aA _) rfl (congrArg (cN g x.tick x.next x.aA) (by unfold dz;rw[ho,hp])))) ?_;refine sL<|ao Z<|Y<|aS<|sL<|aM Z<|lc Z<|lf 7 mK Z<|aj ac Z<|ak Z<|bJ 87 false rfl (decide_eq_false fa)<|Y<|aN Z<|aK<|gT<|aS<|sL<|aM Z<|lc Z<|lf 7 mK Z<|aj ac Z<|ak Z<|bJ 105 true rfl (by rw[decide_eq_false fa];rfl)<|Y ?_;refine aY rfl ?_;refine iQ 1 rfl ?_;refine aR<|rT ?_;have cQ:gg x e=dz x e:=if_neg fa;have wx:gg x e≠0:=by rw[cQ];exact fa
   rw[jm wx,cQ];trivial
  have ck:=sm.ag d (dB hd);refine ab (et func115 (rP _ _ x _ _ _ hm _ _ hj hd) x_4 rfl rfl) Z<|lT [0,3,4,27] [0,1,2,3,4,2003,2017] ?_;refine lC Z<|nA<|aM Z<|aM Z<|lc Z<|lf 0 dR Z<|lf 4 eF Z<|iO fS Z<|ba jb Z<|ak Z ?_;refine ab (et func211 (fJ _ _ _ _ _ _ _ _ _ _ _ _ _ _ _ _ _ _ _ ) x_4 rfl rfl) Z<|Y<|aS<|aG 15 []<|tq 0 (cG rfl)<|tq 1 (rc rfl)<|tq 2 (rf 4 nE rfl)<|tq 3 (rd (x:=U _ _) (dT rfl ac rfl rfl rfl (dk hd) rfl) rfl)<|tq 4 (cG rfl)<|tq 5 (rc rfl)<|tq 6 (rf 5 mH rfl)<|tq 7 (rd (x:=U _ _) (dT rfl ac rfl rfl rfl (dk hd) rfl) rfl)<|yq 8 (rf 4 bN rfl)<|yq 9 (aZ ac rfl)<|cm 10 rfl (zL func214 (Ft _ _ _) rfl)<|gX [0,3,4,5,48] [0,1,2,3,4,2003,2017] ?_;refine yq 11 (sj (.au [U _ _,vB _]) Z)<|tq 12 (Cy Z)<|tq 13 (Cz Z)<|yq 14 (j8 Z)<|yq 15 (fk Z)<|gD<|gA<|lf 4 bN Z<|aj ac Z<|ae Z<|ab (zL func215 (uM _ _) Z) Z<|cT (.au [U _ _,vB _]) Z<|dE Z<|eU Z<|ao Z<|bv Z<|Y ?_;refine aJ [0,3,4,5] [1,2,3,4,2003,2017] (D:=Unit) (fun jd=>[(8,int (cn x e))]) (fun jd=>[(0,cN g x.tick x.next x.aA (bE (gZ x e) (im x e) 10))]) (fun jd=>True) ?_ ?_
  ·refine aL<|aM Z<|aQ Z<|bX Z<|aQ Z ?_;refine AL.bool (t:=61) rfl ?_ ?_
   ·intro h2;refine aa Z<|aa Z<|aU Z ?_;refine ab (et func211 (fJ _ _ _ _ _ _ _ _ _ _ _ _ _ _ _ _ _ _ _ ) x_4 rfl rfl) Z<|lT [0,3,4,5,8] [0,1,2,3,4,2003,2017] ?_;refine Y ?_;refine⟨(),trivial,⟨x_39,trivial⟩,⟨(Eq.trans (b:=cN g x.tick x.next x.aA _) rfl (congrArg (cN g x.tick x.next x.aA) (by grind[gZ,im,j9,ka,ap]))),trivial⟩,rfl,rfl⟩
   intro h2;refine aQ Z<|bX Z<|bj Z ?_;refine ab (et func211 (fJ _ _ _ _ _ _ _ _ _ _ _ _ _ _ _ _ _ _ _ ) x_4 rfl rfl) Z<|Y ?_;refine⟨(),trivial,⟨x_39,trivial⟩,⟨(Eq.trans (b:=cN g x.tick x.next x.aA _) rfl (congrArg (cN g x.tick x.next x.aA) (by grind[gZ,im,j9,ka,ap]))),trivial⟩,rfl,rfl⟩
  intro jd hJ;have hz:im x e≠0:=by
   unfold im;rw[ka hj,j9 hi];exact dI (mp (by decide))
  have fa:dz x e≠0:=dI (dI (dI hz));refine sL<|aM Z<|aM Z<|lc Z<|lf 3 ic Z<|aj ac Z<|ae Z<|ak Z ?_;refine ab (et func211 (fJ _ _ _ _ _ _ _ _ _ _ _ _ _ _ _ _ _ _ _ ) x_4 rfl rfl) Z<|Y<|aS<|aG 8 []<|tq 0 (cG rfl)<|tq 1 (cG rfl)<|tq 2 (rc rfl)<|tq 3 (rf 2 fH rfl)<|tq 4 (rd (x:=U _ _) (dT rfl ac rfl rfl rfl (dk hd) rfl) rfl)<|yq 5 (rf 4 bN rfl)<|yq 6 (aZ ac rfl)<|yq 7 (dt rfl) ?_;refine yl rfl (et func211 (fJ _ _ _ _ _ _ _ _ _ _ _ _ _ _ _ _ _ _ _ ) x_4 rfl rfl)<|gT ?_;refine AW.obj 0 (cN g x.tick x.next x.aA (dz x e)) ((Eq.trans (b:=cN g x.tick x.next x.aA _) rfl (congrArg (cN g x.tick x.next x.aA) (by unfold dz;rw[ho,hp])))) ?_;refine sL<|ao Z<|Y<|aS<|sL<|aM Z<|lc Z<|lf 7 mK Z<|aj ac Z<|ak Z<|bJ 87 false rfl (decide_eq_false fa)<|Y<|aN Z<|aK<|gT<|aS<|sL<|aM Z<|lc Z<|lf 7 mK Z<|aj ac Z<|ak Z<|bJ 105 true rfl (by rw[decide_eq_false fa];rfl)<|Y ?_;refine aY rfl ?_;refine iQ 1 rfl ?_;refine aR<|rT ?_;have cQ:gg x e=dz x e:=if_neg fa;have wx:gg x e≠0:=by rw[cQ];exact fa
  rw[jm wx,cQ];trivial
 have bC:=sm.ag c (dB hc);refine ab (et func115 (rP _ _ x _ _ _ hm _ _ hi hc) x_4 rfl rfl) Z<|lT [0,3,23] [0,1,2,3,4,2003] ?_;refine lC Z<|nA<|aM Z<|lf 3 fK Z<|aj ac Z ?_;rcases jt x.ag e.to with⟨hj,hp⟩|⟨j,d,hj,hd,hp,lz⟩
 ·skip;refine ab (zC [(0,0),(1,1),(2,2),(3,3),(4,4),(2017,2018)] [2,3,4,2018] [0,1] func115 (wJ _ _ x _ _ _ hm hj) x_4 rfl rfl) Z<|lC Z<|nA<|aM Z<|aM Z<|lc Z<|lf 0 dR Z<|lf 4 eF Z<|iO fS Z<|ba jb Z<|ak rfl ?_;refine ab (et func211 (fJ _ _ _ _ _ _ _ _ _ _ _ _ _ _ _ _ _ _ _ ) x_4 rfl rfl) Z<|lT [0,3,4,5] [0,1,2,3,4,2003,2018] ?_;refine Y<|aS<|aG 15 []<|tq 0 (cG Z)<|tq 1 (rc Z)<|tq 2 (rf 4 nE Z)<|tq 3 (aZ ac Z)<|tq 4 (cG Z)<|tq 5 (rc Z)<|tq 6 (rf 5 mH Z)<|tq 7 (aZ ac Z)<|yq 8 (rf 4 bN Z)<|yq 9 (aZ ac Z)<|cm 10 Z (zL func214 (Ft _ _ _) Z)<|yq 11 (sj (.au [U _ _,vB _]) Z)<|tq 12 (Cy Z)<|tq 13 (Cz Z)<|yq 14 (j8 Z)<|yq 15 (fk Z)<|gD<|gA<|lf 4 bN Z<|aj ac Z<|ae Z<|ab (zL func215 (uM _ _) Z) Z<|lT [0,3,4,5,7,55] [0,1,2,3,4,2003,2018] ?_;refine cT (.au [U _ _,vB _]) Z<|dE Z<|eU Z<|ao Z<|bv Z<|Y ?_;refine aJ [0,3,4,5] [1,2,3,4,2003,2018] (D:=Unit) (fun jd=>[(8,int (cn x e))]) (fun jd=>[(0,cN g x.tick x.next x.aA (bE (gZ x e) (im x e) 10))]) (fun jd=>True) ?_ ?_
  ·refine aL<|aM Z<|aQ Z<|bX Z<|aQ Z ?_;refine AL.bool (t:=61) rfl ?_ ?_
   ·intro h3;refine aa Z<|aa Z<|aU Z ?_;refine ab (et func211 (fJ _ _ _ _ _ _ _ _ _ _ _ _ _ _ _ _ _ _ _ ) x_4 rfl rfl) Z<|Y ?_;refine⟨(),trivial,⟨x_39,trivial⟩,⟨(Eq.trans (b:=cN g x.tick x.next x.aA _) rfl (congrArg (cN g x.tick x.next x.aA) (by grind[gZ,im,ka,j9,ap]))),trivial⟩,rfl,rfl⟩
   intro h3;refine aQ Z<|bX Z<|bj Z ?_;refine ab (et func211 (fJ _ _ _ _ _ _ _ _ _ _ _ _ _ _ _ _ _ _ _ ) x_4 rfl rfl) Z<|lT [0,3,4,5,8] [0,1,2,3,4,2003,2018] ?_;refine Y ?_;refine⟨(),trivial,⟨x_39,trivial⟩,⟨(Eq.trans (b:=cN g x.tick x.next x.aA _) rfl (congrArg (cN g x.tick x.next x.aA) (by grind[gZ,im,ka,j9,ap]))),trivial⟩,rfl,rfl⟩
  intro jd hJ;have hz:im x e≠0:=by
   unfold im;rw[j9 hj,ka hi];exact dI (mp (by decide))
  have fa:dz x e≠0:=dI (dI (dI hz));refine sL<|aM Z<|aM Z<|lc Z<|lf 3 ic Z<|lq (rd (x:=U _ _) (dT Z ac Z Z Z (dk hc) Z) Z)<|ae Z<|ak Z ?_;refine ab (et func211 (fJ _ _ _ _ _ _ _ _ _ _ _ _ _ _ _ _ _ _ _ ) x_4 rfl rfl) Z<|Y<|aS<|aG 8 []<|tq 0 (cG rfl)<|tq 1 (cG rfl)<|tq 2 (rc rfl)<|tq 3 (rf 2 fH rfl)<|tq 4 (aZ ac rfl)<|yq 5 (rf 4 bN rfl)<|yq 6 (aZ ac rfl)<|yq 7 (dt rfl) ?_;refine yl rfl (et func211 (fJ _ _ _ _ _ _ _ _ _ _ _ _ _ _ _ _ _ _ _ ) x_4 rfl rfl)<|gT ?_;refine AW.obj 0 (cN g x.tick x.next x.aA (dz x e)) ((Eq.trans (b:=cN g x.tick x.next x.aA _) rfl (congrArg (cN g x.tick x.next x.aA) (by unfold dz;rw[ho,hp])))) ?_;refine sL<|ao Z<|Y<|aS<|sL<|aM Z<|lc Z<|lf 7 mK Z<|aj ac Z<|ak Z<|bJ 87 false rfl (decide_eq_false fa)<|Y<|aN Z<|aK<|gT<|aS<|sL<|aM Z<|lc Z<|lf 7 mK Z<|aj ac Z<|ak Z<|bJ 105 true rfl (by rw[decide_eq_false fa];rfl)<|Y ?_;refine aY rfl ?_;refine iQ 1 rfl ?_;refine aR<|rT ?_;have cQ:gg x e=dz x e:=if_neg fa;have wx:gg x e≠0:=by rw[cQ];exact fa
  rw[jm wx,cQ];trivial
 have ck:=sm.ag d (dB hd);refine ab (et func115 (rP _ _ x _ _ _ hm _ _ hj hd) x_4 rfl rfl) Z<|lT [0,3,4,27] [0,1,2,3,4,2003] ?_;refine lC Z<|nA<|aM Z<|aM Z<|lc Z<|lf 0 dR Z<|lf 4 eF Z<|iO fS Z<|ba jb Z<|ak Z ?_;refine ab (et func211 (fJ _ _ _ _ _ _ _ _ _ _ _ _ _ _ _ _ _ _ _ ) x_4 rfl rfl) Z<|Y<|aS<|aG 15 []<|tq 0 (cG rfl)<|tq 1 (rc rfl)<|tq 2 (rf 4 nE rfl)<|tq 3 (rd (x:=U _ _) (dT rfl ac rfl rfl rfl (dk hd) rfl) rfl)<|tq 4 (cG rfl)<|tq 5 (rc rfl)<|tq 6 (rf 5 mH rfl)<|tq 7 (rd (x:=U _ _) (dT rfl ac rfl rfl rfl (dk hd) rfl) rfl)<|yq 8 (rf 4 bN rfl)<|yq 9 (aZ ac rfl)<|cm 10 rfl (zL func214 (Ft _ _ _) rfl)<|gX [0,3,4,5,48] [0,1,2,3,4,2003] ?_;refine yq 11 (sj (.au [U _ _,vB _]) Z)<|tq 12 (Cy Z)<|tq 13 (Cz Z)<|yq 14 (j8 Z)<|yq 15 (fk Z)<|gD<|gA<|lf 4 bN Z<|aj ac Z<|ae Z<|ab (zL func215 (uM _ _) Z) Z<|cT (.au [U _ _,vB _]) Z<|dE Z<|eU Z<|ao Z<|bv Z<|Y ?_;refine aJ [0,3,4,5] [1,2,3,4,2003] (D:=Unit) (fun jd=>[(8,int (cn x e))]) (fun jd=>[(0,cN g x.tick x.next x.aA (bE (gZ x e) (im x e) 10))]) (fun jd=>True) ?_ ?_
 ·refine aL<|aM Z<|aQ Z<|bX Z<|aQ Z ?_;refine AL.bool (t:=61) rfl ?_ ?_
  ·intro h4;refine aa Z<|aa Z<|aU Z ?_;refine ab (et func211 (fJ _ _ _ _ _ _ _ _ _ _ _ _ _ _ _ _ _ _ _ ) x_4 rfl rfl) Z<|lT [0,3,4,5,8] [0,1,2,3,4,2003] ?_;refine Y ?_;refine⟨(),trivial,⟨x_39,trivial⟩,⟨(Eq.trans (b:=cN g x.tick x.next x.aA _) rfl (congrArg (cN g x.tick x.next x.aA) (by grind[gZ,im,ka,ap]))),trivial⟩,rfl,rfl⟩
  intro h4;refine aQ Z<|bX Z<|bj Z ?_;refine ab (et func211 (fJ _ _ _ _ _ _ _ _ _ _ _ _ _ _ _ _ _ _ _ ) x_4 rfl rfl) Z<|Y ?_;refine⟨(),trivial,⟨x_39,trivial⟩,⟨(Eq.trans (b:=cN g x.tick x.next x.aA _) rfl (congrArg (cN g x.tick x.next x.aA) (by grind[gZ,im,ka,ap]))),trivial⟩,rfl,rfl⟩
 intro jd hJ;refine sL<|aM Z<|aM Z<|lc Z<|lf 3 ic Z<|lq (rd (x:=U _ _) (dT Z ac Z Z Z (dk hc) Z) Z)<|ae Z<|ak Z ?_;refine ab (et func211 (fJ _ _ _ _ _ _ _ _ _ _ _ _ _ _ _ _ _ _ _ ) x_4 rfl rfl) Z<|Y<|aS<|aG 8 []<|tq 0 (cG rfl)<|tq 1 (cG rfl)<|tq 2 (rc rfl)<|tq 3 (rf 2 fH rfl)<|tq 4 (rd (x:=U _ _) (dT rfl ac rfl rfl rfl (dk hd) rfl) rfl)<|yq 5 (rf 4 bN rfl)<|yq 6 (aZ ac rfl)<|yq 7 (dt rfl) ?_;refine yl rfl (et func211 (fJ _ _ _ _ _ _ _ _ _ _ _ _ _ _ _ _ _ _ _ ) x_4 rfl rfl)<|gT ?_;refine AW.obj 0 (cN g x.tick x.next x.aA (dz x e)) ((Eq.trans (b:=cN g x.tick x.next x.aA _) rfl (congrArg (cN g x.tick x.next x.aA) (by grind[dz])))) ?_;refine sL<|ao Z<|Y<|aS<|sL<|aM Z<|lc Z<|lf 7 mK Z<|aj ac Z<|ak Z<|Y ?_;refine AW.cond rfl ?_ ?_
 ·intro h5;refine aS<|aG 9 []<|tq 0 (cG Z)<|tq 1 (cG Z)<|tq 2 (rc Z)<|tq 3 (rd (x:=.agg [U _ _,U _ _,U _ _,U _ _,U _ _,U _ _,U _ _]) (dT Z fF Z Z Z (dk hc) Z) Z)<|tq 4 (cG Z)<|tq 5 (rc Z)<|tq 6 (rd (x:=.agg [U _ _,U _ _,U _ _,U _ _,U _ _,U _ _,U _ _]) (dT Z fF Z Z Z (dk hd) Z) Z)<|gX [0,3,4,5,8,10,88,91,94] [0,1,2,3,4,2003] ?_;refine yq 7 (dw (.agg [U _ _,U _ _,U _ _,U _ _,U _ _,U _ _,vB _]) dD rfl)<|cm 8 rfl (zL func216 (Si x _ _ c d e sm.hs) rfl)<|vO 96 (ib x e) rfl (by grind[ib])<|yq 9 (j8 rfl)<|gD<|gT<|aL<|aM Z<|ae Z<|ak rfl ?_;refine ab (et func211 (fJ _ _ _ _ _ _ _ _ _ _ _ _ _ _ _ _ _ _ _ ) x_4 rfl rfl) Z<|Y<|aS<|sL<|aM Z<|lc Z<|lf 7 mK Z<|aj ac Z<|ak Z<|Y ?_;refine AW.cond rfl ?_ ?_
  ·intro h6;refine iQ 1 rfl ?_;refine aR<|rT ?_;have fa:dz x e=0:=of_decide_eq_true h5;have cQ:gg x e=bE (decide (ib x e=0)) (dz x e) 13:=if_pos fa;have wx:gg x e≠0:=by rw[cQ];simpa using h6
   rw[jm wx,cQ];trivial
  intro h6;refine aK<|gT<|aS<|aG 23 [2]<|tq 0 (cG Z)<|tq 1 (cG Z)<|tq 2 (rc Z)<|tq 3 (rf 0 dR Z)<|tq 4 (rf 4 eF Z)<|tq 5 (gC fS Z)<|tq 6 (rf 1 gE Z)<|tq 7 (aZ ac Z)<|tq 8 (rf 2 dn Z)<|tq 9 (aZ ac Z)<|tq 10 (rf 3 fK Z)<|tq 11 (aZ ac Z)<|tq 12 (dW Z)<|tq 13 (rf 4 bN Z)<|tq 14 (aZ ac Z)<|yq 15 (dW Z)<|yq 16 (dt Z)<|yq 17 (rd (x:=.agg [U _ _,U _ _,U _ _,U _ _,U _ _,vB _,U _ _]) (cP Z z0 Z Z Z) Z)<|gX [0,3,4,5,8,106,111,123] [0,1,2,3,4,2003] ?_;refine cm 18 rfl (zS 2124 (ah go [⟨e.key,e.ch,e.to,cn x e,e.af,decide (ib x e=2),0⟩]) f7 iu rfl)<|cm 19 rfl (zP 2 f7 iu sQ rfl x_14 x_69)<|yq 20 (rc rfl)<|yq 21 (rf 0 dR rfl)<|yq 22 (rf 4 eF rfl)<|yl rfl (zB 0 tQ tR rfl)<|gT ?_;refine AW.obj 2 (df (x.an++[⟨e.key,e.ch,e.to,cn x e,e.af,decide (ib x e=2),0⟩])) ((congrArg (AO.ai 218 7) (fx go _ [_]).symm)) ?_;refine sL<|aM Z<|lc Z<|lf 3 ic Z<|lq (rd (x:=U _ _) (dT Z ac Z Z Z (dk hc) Z) Z)<|ae Z ?_;refine eo rfl ⟨rfl,ce (by grind[bk,cn,lQ,i64])⟩<|lc Z<|lf 3 ic Z<|ab (zQ 1 [.v (.int .i64 (c.aC-cn x e))] ca cb rfl (dk hc)) Z<|lT [0,3,5] [0,1,2,3,4,2003,2124] ?_;refine Y ?_;refine AW.obj 1 (pz u (x.ag.set i { c with aC:=c.aC-cn x e })) (Eq.trans (b:=AO.ai ⟨159,some u⟩ 7 ((ah aX (x.ag)).set i ((aX { c with aC:=c.aC-cn x e }).map PV.v))) rfl (congrArg (AO.ai ⟨159,some u⟩ 7) lB)) ?_;refine aS<|aG 9 []<|tq 0 (cG rfl)<|tq 1 (rc rfl)<|tq 2 (rf 2 fH rfl)<|tq 3 (rd (x:=U _ _) (dT rfl ac rfl rfl rfl (dk (jy hd (tP hc hd (by omega)) _)) rfl) rfl)<|yq 4 (rf 4 bN rfl)<|yq 5 (aZ ac rfl) ?_;refine yq 6 (iC rfl ⟨rfl,ce (by have V:=ck.1;have h2:=es.af;grind[bk,i64])⟩)<|yq 7 (rc rfl)<|yq 8 (rf 2 fH rfl)<|yl rfl (zQ 1 [.v (.int .i64 (d.loc-e.af))] ca cb rfl (dk (jy hd (tP hc hd (by omega)) _)))<|gT ?_;refine AW.obj 1 (pz u (cC (cC x.ag e.ch fun c=>{ c with aC:=c.aC-cn x e }) e.to fun c=>{ c with loc:=c.loc-e.af })) (Eq.trans (b:=AO.ai ⟨159,some u⟩ 7 ((ah aX (x.ag.set i { c with aC:=c.aC-cn x e })).set j ((aX { d with loc:=d.loc-e.af }).map PV.v))) rfl (congrArg (AO.ai ⟨159,some u⟩ 7) (lB.trans (congrArg (ah aX) (px fi.ids hc hd hid lz bO (fun c=>{ c with aC:=c.aC-cn x e }) (fun d=>{ d with loc:=d.loc-e.af }) (fun _=>rfl)))))) ?_;refine iQ 1 rfl ?_;refine sL<|aM Z<|lf 3 fK Z<|aj ac Z<|lf 4 bN Z<|aj ac Z<|lq (rd (x:=U _ _) (il rfl rfl (ce (by have h2:=es.af;grind[bk,i64]))) rfl) ?_;refine ab (bF func112 (lU _ _ _ _ _ _ _ _ _ _ _ _ _ _ ([]) 0 (LG.nil) (by decide) _ _ _ (cL.nil _ _) (jM es.af)) x_13 rfl rfl) Z<|lT [0,3] [0,1,2,3,4,2003,2124] ?_;refine Y<|aL<|aM Z<|lf 3 fK Z<|aj ac Z<|lf 4 bN Z<|aj ac Z ?_;refine ab (bF func112 (lU _ _ _ _ _ _ _ _ _ _ _ _ _ _ (bR [] 6 e.to (-e.af)) 1 (LG.nil.add (jM es.af)) (by decide) _ _ _ x_15 (gP es.af)) x_13 rfl rfl) Z<|lN ?_;have fa:dz x e=0:=of_decide_eq_true h5;have cQ:gg x e=bE (decide (ib x e=0)) (dz x e) 13:=if_pos fa;have iP:gg x e=0:=by rw[cQ];simpa using h6
  rw[sR iP];unfold mI;refine iZ ?_ ⟨(Eq.trans (b:=cN g x.tick x.next x.aA _) rfl (congrArg (cN g x.tick x.next x.aA) (by grind))),rfl,rfl,rfl,rfl,trivial⟩;rfl
 intro h5;refine aK<|gT<|aS<|sL<|aM Z<|lc Z<|lf 7 mK Z<|aj ac Z<|ak Z<|bJ 105 true rfl (by rw[h5];rfl)<|Y<|aY rfl ?_;refine iQ 1 rfl ?_;refine aR<|rT ?_;have fa:dz x e≠0:=of_decide_eq_false h5;have cQ:gg x e=dz x e:=if_neg fa;have wx:gg x e≠0:=by rw[cQ];exact fa
 rw[jm wx,cQ];trivial
end Go.Proofs.YtflhgkmhmcfimaaGreat

