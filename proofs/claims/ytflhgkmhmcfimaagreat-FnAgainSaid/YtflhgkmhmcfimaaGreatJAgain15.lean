/- Texts of the proof of FnFnAgain, joined: ES4, ES5, Appl, Wr, App2. -/
import Derived.Test.YtflhgkmhmcfimaaGreatJAgain14
import Derived.Test.YtflhgkmhmcfimaaGreatJAgain4
namespace Go.Proofs.YtflhgkmhmcfimaaGreat
open Tryz
open Go.RowKit
set_option maxHeartbeats 16000000
set_option maxRecDepth 100000
set_option linter.unusedSimpArgs false
set_option linter.unusedVariables false
def aaC:eV:=⟨0,0,0,0,0,false,0⟩
def aaD:gz:=⟨0,0,0,0,0⟩
def n6(l:List eV)(key:Int):eV:=(l.find? fun c=>c.key==key).getD aaC
def n7(l:List gz)(key:Int):gz:=(l.find? fun c=>c.key==key).getD aaD
abbrev Bm(h:eV):AO:=.box 218 none [int h.key,int h.gh,int h.out,int h.cW,int h.c9,aD h.kept,int h.jP]
abbrev Bn(h:gz):AO:=.box 220 none [int h.key,int h.fI,int h.to,int h.af,int h.ay]
theorem Qg{α:Type}{g:α->Int}{l:List α}{key:Int}(jU:l.Pairwise fun a b=>g a≠g b){k:Nat}(hk:k<l.length):(l.take (k+1)).find? (fun c=>g c==key)=if g l[k]=key then some l[k]else (l.take k).find? (fun c=>g c==key):=by
 rw[List.take_succ_eq_append_getElem hk,List.find?_append];by_cases q:g l[k]=key
 ·rw[if_pos q];have:(l.take k).find? (fun c=>g c==key)=none:=by
   rw[List.find?_eq_none];intro x hx;obtain⟨j,hj,rfl⟩:=List.getElem_of_mem hx;rw[List.length_take]at hj;have V:=List.pairwise_iff_getElem.1 jU j k x_2 hk x_2;rw[List.getElem_take,<-q];simpa using V
  rw[this];simp[q]
 grind
theorem Qh{l:List eV}{key:Int}(jU:l.Pairwise fun a b=>a.key≠b.key){k:Nat}(hk:k<l.length):n6 (l.take (k+1)) key=if l[k].key=key then l[k]else n6 (l.take k) key:=by
 unfold n6;rw[Qg (g:=fun c=>c.key) jU hk];grind
theorem Qi{l:List gz}{key:Int}(jU:l.Pairwise fun a b=>a.key≠b.key){k:Nat}(hk:k<l.length):n7 (l.take (k+1)) key=if l[k].key=key then l[k]else n7 (l.take k) key:=by
 unfold n7;rw[Qg (g:=fun c=>c.key) jU hk];grind
theorem Qj{l:List eV}{key:Int}{k:Nat}(hk:k<l.length):jS (l.take (k+1)) key=jS (l.take k) key++(if l[k].key=key then []else [l[k]]):=by
 grind[jS,List.take_succ_eq_append_getElem]
theorem Qk{l:List gz}{key:Int}{k:Nat}(hk:k<l.length):jA (l.take (k+1)) key=jA (l.take k) key++(if l[k].key=key then []else [l[k]]):=by
 grind[jA,List.take_succ_eq_append_getElem]
theorem aaE{l:List eV}{key:Int}:(jS l key).length<=l.length:=List.length_filter_le _ _
theorem aaF{l:List gz}{key:Int}:(jA l key).length<=l.length:=List.length_filter_le _ _
theorem aaG{l:List eV}{key:Int}(h0:∀h∈l,h.key≠0)(h:(n6 l key).key=0):l.find? (fun c=>c.key==key)=none:=by
 rcases Be (fun c:eV=>c.key==key) l with⟨_,q⟩|⟨i,c,_,q1,q2,_⟩;all_goals grind[n6]
theorem aaH{l:List eV}{key:Int}(h:¬(n6 l key).key=0):∃i:Nat,l[i]? = some (n6 l key)/\l.find? (fun c=>c.key==key)=some (n6 l key)/\(n6 l key).key=key:=by
 rcases Be (fun c:eV=>c.key==key) l with⟨_,q⟩|⟨i,c,_,q1,q2,q3⟩
 ·unfold n6 at h;rw[q]at h;exact absurd rfl h
 grind[n6]
theorem aaI{l:List gz}{key:Int}(h0:∀h∈l,h.key≠0)(h:(n7 l key).key=0):l.find? (fun c=>c.key==key)=none:=by
 rcases Be (fun c:gz=>c.key==key) l with⟨_,q⟩|⟨i,c,_,q1,q2,_⟩;all_goals grind[n7]
theorem aaJ{l:List gz}{key:Int}(h:¬(n7 l key).key=0):∃i:Nat,l[i]? = some (n7 l key)/\l.find? (fun c=>c.key==key)=some (n7 l key)/\(n7 l key).key=key:=by
 rcases Be (fun c:gz=>c.key==key) l with⟨_,q⟩|⟨i,c,_,q1,q2,q3⟩
 ·unfold n7 at h;rw[q]at h;exact absurd rfl h
 grind[n7]
def Bo(x:aw)(key:Int)(dQ:Bool):WR:=match x.an.find? (fun c=>c.key==key)with
 |some h=>pN x dQ h
 |none=>⟨x,[],15⟩
def Bp(x:aw)(key:Int)(dQ:Bool):WR:=match x.aq.find? (fun c=>c.key==key)with
 |some h=>mN x dQ h
 |none=>⟨x,[],15⟩
theorem Ql(x:aw)(e:aV):Bo x e.key (decide (e.kind=6))=mR x e:=rfl
theorem Qm(x:aw)(e:aV):Bp x e.key (decide (e.kind=10))=nm x e:=rfl
theorem aaK{x:aw}{key:Int}{dQ:Bool}(h:x.an.find? (fun c=>c.key==key)=none):Bo x key dQ=⟨x,[],15⟩:=by grind[Bo]
theorem Qn{x:aw}{key:Int}{dQ:Bool}{c:eV}(h:x.an.find? (fun c=>c.key==key)=some c):Bo x key dQ=pN x dQ c:=by grind[Bo]
theorem aaL{x:aw}{key:Int}{dQ:Bool}(h:x.aq.find? (fun c=>c.key==key)=none):Bp x key dQ=⟨x,[],15⟩:=by grind[Bp]
theorem Qo{x:aw}{key:Int}{dQ:Bool}{c:gz}(h:x.aq.find? (fun c=>c.key==key)=some c):Bp x key dQ=mN x dQ c:=by grind[Bp]
theorem Qp(g:Value)(x:aw)(key:Int)(dQ:Bool)(fi:sO x)(JM:∀h∈x.an,h.key≠0)(hle:∀h∈x.an,h.c9<=h.cW):GC prog 203 [.ptr 0 0 0,int key,aD dQ] (p7 g x [] 0) (.au []) (yd g (Bo x key dQ)):=by
 have sm:=fi.sm;have hm:x.ag.length<=1000000000:=by have:=sm.lc;omega
 have oa:=sm.lh;have FZ:=sm.li

 refine GC.intro (rs:=[]) func203 rfl ntmps203 x_8 trivial ?_;intro L O w0;refine sL<|ab (zS 2011 [] f7 iu rfl x_19) Z<|bD Z<|nA<|lq (rd (x:=.agg [c6,c6,c6,c6,c6,vB false,c6]) (cP rfl z0 rfl rfl rfl) rfl)<|ab (zA 2007 iu rfl) Z<|ab (zB 2007 nJ nL rfl) Z<|Y<|aS<|sL<|aM Z<|lc Z<|lf 0 c8 Z<|lf 4 eF Z<|iO fS Z<|ba jb Z<|ae Z<|Y<|aB ?_;refine aW [0,1,2,6,7,17,18] [0,1,2,3,4] (D:=Nat) (fun k=>[(19,int (k:Int))]) (fun k=>[(2011,df (jS (x.an.take k) key)),(2007,Bm (n6 (x.an.take k) key))]) (fun k=>k<=x.an.length) (fun k=>x.an.length-k) (0) (Nat.zero_le _) ⟨rfl,trivial⟩ ⟨rfl,rfl,trivial⟩ ?_;intro k hI;refine sL<|ak Z<|Y<|aS<|cE rfl ?_ ?_
 ·intro V;refine aK<|gT<|aS<|aB<|sL ?_;have hk:k<x.an.length:=by simpa[ap]using V
  refine lq (rj k f7 rfl x_14)<|lq (rd (x:=nG) (dT rfl kZ rfl rfl rfl (bS hk) rfl) rfl)<|ab (zA 2009 iu rfl) Z<|lT [0,1,2,6,7,9,17,18,19,22] [0,1,2,3,4,2007,2009,2011] ?_;refine ab (zB 2009 nJ nL Z) Z<|nA<|lf 0 u7 Z<|aj ac Z<|ae Z<|ak Z<|Y<|cE rfl ?_ ?_
  ·intro h2;refine aL<|aP nG kZ Z<|ab (zB 2007 nJ nL Z) Z<|lN<|gB<|gT<|aL<|bg Z<|ae Z<|Y ?_;refine⟨k+1,hk,by omega,x_11,⟨(congrArg df (by simp_all[Qj])),(Eq.trans (b:=Bm x.an[k]) rfl (congrArg Bm (by rw[Qh fi.jF hk,if_pos x_14]))),trivial⟩,rfl,rfl⟩
  intro h2;refine aL<|bW Z<|aP nG kZ Z<|ab (zS 2030 (ah go [x.an[k]]) f7 iu rfl) Z<|ab (zP 2011 f7 iu sQ rfl x_18 (by grind[aaE,ah])) Z<|bD Z<|lN<|gB<|gT<|aL<|bg Z<|ae Z<|Y ?_;refine⟨k+1,hk,by omega,x_11,⟨(Eq.trans (b:=AO.ai 218 7 (ah go (jS (x.an.take k) key++[x.an[k]]))) (congrArg (AO.ai 218 7) (fx go _ [_]).symm) (congrArg df (by simp_all[Qj]))),(congrArg Bm (by rw[Qh fi.jF hk,if_neg x_14])),trivial⟩,rfl,rfl⟩
 intro V;refine aE<|eT<|eT<|eB<|gT<|aS<|aS ?_;have dZ:k=x.an.length:=by have h:=V;simp only[ap,decide_eq_false_iff_not]at h;omega
 refine AW.obj 2011 (df (jS x.an key)) (congrArg df x_14) ?_;refine AW.obj 2007 (Bm (n6 x.an key)) (congrArg Bm x_14) ?_;refine aL<|aM Z<|lf 0 u7 Z<|aj ac Z<|ak Z ?_;refine ab (bF func196 (gt ) x_5 rfl rfl) Z<|lT [0,2,6,7,37] [0,1,2,3,4,2007,2011] ?_;refine Y<|cE rfl ?_ ?_
 ·intro h3;refine aR<|rT ?_;have hz:(n6 x.an key).key=0:=by
   have h:=h3;rcases Classical.em ((n6 x.an key).key=0)with q|q
   ·exact q
   grind[bE]
  rw[aaK (aaG JM hz)];refine ax ?_ ⟨Eq.trans (b:=cD g x.tick x.next x.aA _) rfl (congrArg (cD g x.tick x.next x.aA) (by rw[decide_eq_true hz];rfl)),rfl,rfl,rfl,rfl,trivial⟩;rfl
 intro h3;refine aK<|gT<|aS ?_;have Dh:¬(n6 x.an key).key=0:=fun q=>by
  grind[bE]
 obtain⟨i,hh,hf,uG⟩:=aaH Dh;generalize n6 x.an key=h at *;subst uG;have bQ:=sm.an h (dB hh);obtain⟨ha,hb,kN⟩:=fi.y' h (dB hh);obtain⟨a,c,uP,hc,Jw,pU⟩:=p9 ha;obtain⟨b,d,pE,hd,Jx,pV⟩:=p9 hb;have bC:=sm.ag c (dB hc);have ck:=sm.ag d (dB hd);have bO:a≠b:=tP hc hd x_2;refine AW.obj 0 (cD g x.tick x.next x.aA 0) (Eq.trans (b:=cD g x.tick x.next x.aA _) rfl (congrArg (cD g x.tick x.next x.aA) x_14)) ?_;refine aL<|aM Z<|bW Z<|lc Z<|lf 0 c8 Z<|lf 4 eF Z<|ab (zB 0 tQ tR Z) Z<|Y<|aS ?_;refine AW.swap 2011 2 ?_;refine aT [0,2,7] [0,1,2,3,4,2007] ?_;refine aF []<|pq 0 (dJ Z)<|pq 1 (qc Z)<|pq 2 (qf 0 c8 Z)<|sq 3 (dw jG cu Z)<|vq 4 (rf 1 oM Z)<|vq 5 (aZ ac Z)<|bn 6 Z (zL func200 (m9 ({ x with an:=jS x.an h.key }) _ hm) Z) (.inr Z)<|qM 49 (a:Int) Z uP<|vq 7 (j8 Z)<|fD<|gT<|aS<|sL<|aQ Z<|Y<|cE rfl ?_ ?_
 ·intro h4;refine sL<|aM Z<|lf 1 oM Z<|aj ac Z<|lf 3 n3 Z<|aj ac Z ?_;refine ab (bF func258 (nF _ ({ x with an:=jS x.an h.key }) _ _ _ _ _ (hm) a c (uP) (hc) x_10 x_10) x_5 rfl rfl) Z<|lT [0,7,10] [0,1,2,3,4,2007] ?_;refine nA<|aM Z<|lf 2 mJ Z<|aj ac Z<|lf 4 kw Z<|aj ac Z ?_;refine ab (bF func258 (nF _ ({ x with an:=jS x.an h.key,ag:=x.ag.set a { c with loc:=c.loc+h.cW,aC:=c.aC+0 } }) _ _ _ _ _ (x_136) b d ((uX (c':={ c with loc:=c.loc+h.cW,aC:=c.aC+0 }) hc rfl).trans pE) (jy hd bO _) x_10 x_10) x_5 rfl rfl) Z<|Y<|aS<|aF [18]<|pq 0 (dJ rfl)<|pq 1 (qc rfl)<|pq 2 (qf 0 c8 rfl)<|pq 3 (qf 3 dr rfl)<|sq 4 (gC eg rfl)<|pq 5 (gL c6 rfl)<|pq 6 (dJ rfl)<|pq 7 (qc rfl)<|pq 8 (qf 0 c8 rfl)<|pq 9 (qf 3 dr rfl)<|sq 10 (gC eg rfl)<|vq 11 (dW rfl)<|vq 12 (rj a cz rfl (by rw[ap,List.length_set,List.length_set];exact(List.getElem?_eq_some_iff.1 hc).1))<|vq 13 (rf 6 ms rfl)<|vq 14 (rd (x:=c6) (dT rfl ac rfl rfl rfl (dk (jy (ww hc { c with loc:=c.loc+h.cW,aC:=c.aC+0 }) (Ne.symm bO) { d with loc:=d.loc+0,aC:=d.aC+h.c9 })) rfl) rfl)<|bn 15 rfl (zL func259 (Sb _) rfl) (.inr rfl)<|fT [0,7,67,68,78] [0,1,2,3,4,2007] ?_;refine vq 16 (rj a cz rfl (by rw[ap,List.length_set,List.length_set];exact(List.getElem?_eq_some_iff.1 hc).1))<|vq 17 (rf 6 ms rfl)<|bn 18 rfl (zQ 1 [.v (.int .i64 (lR c.cM))] ca cb rfl (dk (jy (ww hc { c with loc:=c.loc+h.cW,aC:=c.aC+0 }) (Ne.symm bO) { d with loc:=d.loc+0,aC:=d.aC+h.c9 }))) (.inl rfl)<|fD<|gT ?_;refine AW.obj 1 (AO.ai 159 7 (ah aX (cC (cC x.ag h.gh fun c=>{ c with loc:=c.loc+h.cW,cM:=lR c.cM }) h.out fun c=>{ c with aC:=c.aC+h.c9 }))) (Eq.trans (b:=AO.ai 159 7 ((ah aX ((x.ag.set a { c with loc:=c.loc+h.cW,aC:=c.aC+0 }).set b { d with loc:=d.loc+0,aC:=d.aC+h.c9 })).set a ((aX { c with loc:=c.loc+h.cW,aC:=c.aC+0,cM:=lR c.cM }).map PV.v))) rfl (congrArg (AO.ai 159 7) (lB.trans (congrArg (ah aX) ((FE bO).trans ((by simp only[Int.add_zero]:_=(x.ag.set a { c with loc:=c.loc+h.cW,cM:=lR c.cM }).set b { d with aC:=d.aC+h.c9 }).trans (px fi.ids hc hd pU pV kN (fun c=>{ c with loc:=c.loc+h.cW,cM:=lR c.cM }) (fun d=>{ d with aC:=d.aC+h.c9 }) (fun _=>rfl)))))))) ?_;refine sL<|aM Z<|lf 4 kw Z<|aj ac Z<|lf 3 n3 Z<|aj ac Z ?_;refine eo rfl ⟨rfl,ce x_10⟩ ?_;refine ab (bF func198 (jv ([]) 0 (LG.nil) x_3 _ _ _ (cL.nil _ _) (cJ.2 x_29)) x_5 rfl rfl) Z<|Y<|aL<|aM Z<|lf 1 oM Z<|aj ac Z<|lf 3 n3 Z<|aj ac rfl ?_;refine ab (bF func198 (jv (bR [] 3 0 (h.c9-h.cW)) 1 (LG.nil.add (cJ.2 x_29)) x_3 _ _ _ x_42 (gP bQ.1)) x_5 rfl rfl) Z<|lT [0,7] [0,1,2,3,4,2007] ?_;refine Y<|aL<|aM Z<|lf 2 mJ Z<|aj ac Z<|lf 4 kw Z<|aj ac Z<|lq (rd (x:=c6) (il rfl rfl (ce x_10)) rfl) ?_;refine ab (bF func198 (jv (bR (bR [] 3 0 (h.c9-h.cW)) 6 h.gh h.cW) 2 ((LG.nil.add (cJ.2 x_29)).add (gP bQ.1)) x_3 _ _ _ (((cL.nil _ _).add (.inl x_3)).add (.inl x_3)) (jM bQ.2.1)) x_5 rfl rfl) Z<|lN ?_;rw[Qn hf,show dQ=true from h4];trivial
 intro h4;refine sL<|aM Z<|lf 1 oM Z<|aj ac Z<|lf 3 n3 Z<|aj ac Z ?_;refine ab (bF func258 (nF _ ({ x with an:=jS x.an h.key }) _ _ _ _ _ (hm) a c (uP) (hc) x_10 x_10) x_5 rfl rfl) Z<|nA<|aM Z<|lf 2 mJ Z<|aj ac Z<|lf 4 kw Z<|aj ac rfl ?_;refine ab (bF func258 (nF _ ({ x with an:=jS x.an h.key,ag:=x.ag.set a { c with loc:=c.loc+0,aC:=c.aC+h.cW } }) _ _ _ _ _ (x_136) b d ((uX (c':={ c with loc:=c.loc+0,aC:=c.aC+h.cW }) hc rfl).trans pE) (jy hd bO _) x_10 x_10) x_5 rfl rfl) Z<|lT [0,7,10] [0,1,2,3,4,2007] ?_;refine Y<|aS<|aF [18]<|pq 0 (dJ rfl)<|pq 1 (qc rfl)<|pq 2 (qf 0 c8 rfl)<|pq 3 (qf 3 dr rfl)<|sq 4 (gC eg rfl)<|pq 5 (gL c6 rfl)<|pq 6 (dJ rfl)<|pq 7 (qc rfl)<|pq 8 (qf 0 c8 rfl)<|pq 9 (qf 3 dr rfl)<|sq 10 (gC eg rfl)<|vq 11 (dW rfl)<|vq 12 (rj a cz rfl (by rw[ap,List.length_set,List.length_set];exact(List.getElem?_eq_some_iff.1 hc).1))<|vq 13 (rf 6 ms rfl)<|vq 14 (rd (x:=c6) (dT rfl ac rfl rfl rfl (dk (jy (ww hc { c with loc:=c.loc+0,aC:=c.aC+h.cW }) (Ne.symm bO) { d with loc:=d.loc+h.c9,aC:=d.aC+0 })) rfl) rfl)<|bn 15 rfl (zL func260 (Sc _) rfl) (.inr rfl)<|fT [0,7,110,111,121] [0,1,2,3,4,2007] ?_;refine vq 16 (rj a cz rfl (by rw[ap,List.length_set,List.length_set];exact(List.getElem?_eq_some_iff.1 hc).1))<|vq 17 (rf 6 ms rfl)<|bn 18 rfl (zQ 1 [.v (.int .i64 (lS c.cM))] ca cb rfl (dk (jy (ww hc { c with loc:=c.loc+0,aC:=c.aC+h.cW }) (Ne.symm bO) { d with loc:=d.loc+h.c9,aC:=d.aC+0 }))) (.inl rfl)<|fD<|gT ?_;refine AW.obj 1 (AO.ai 159 7 (ah aX (cC (cC x.ag h.gh fun c=>{ c with aC:=c.aC+h.cW,cM:=lS c.cM }) h.out fun c=>{ c with loc:=c.loc+h.c9 }))) (Eq.trans (b:=AO.ai 159 7 ((ah aX ((x.ag.set a { c with loc:=c.loc+0,aC:=c.aC+h.cW }).set b { d with loc:=d.loc+h.c9,aC:=d.aC+0 })).set a ((aX { c with loc:=c.loc+0,aC:=c.aC+h.cW,cM:=lS c.cM }).map PV.v))) rfl (congrArg (AO.ai 159 7) (lB.trans (congrArg (ah aX) ((FE bO).trans ((by simp only[Int.add_zero]:_=(x.ag.set a { c with aC:=c.aC+h.cW,cM:=lS c.cM }).set b { d with loc:=d.loc+h.c9 }).trans (px fi.ids hc hd pU pV kN (fun c=>{ c with aC:=c.aC+h.cW,cM:=lS c.cM }) (fun d=>{ d with loc:=d.loc+h.c9 }) (fun _=>rfl)))))))) ?_;refine aL<|aM Z<|lf 2 mJ Z<|aj ac Z<|lf 4 kw Z<|aj ac Z ?_;refine ab (bF func198 (jv ([]) 0 (LG.nil) x_3 _ _ _ (cL.nil _ _) (gP bQ.2.1)) x_5 rfl rfl) Z<|Y<|aL<|aM Z<|lf 2 mJ Z<|aj ac Z<|lf 4 kw Z<|aj ac Z<|lq (rd (x:=c6) (il rfl rfl (ce x_10)) rfl) ?_;refine ab (bF func198 (jv (bR [] 6 h.out h.c9) 1 (LG.nil.add (gP bQ.2.1)) x_3 _ _ _ x_42 (jM bQ.2.1)) x_5 rfl rfl) Z<|lT [] [0,1,2,3,4,2007] ?_;refine lN ?_;rw[Qn hf,show dQ=false from h4];trivial
theorem Qq(g:Value)(x:aw)(key:Int)(dQ:Bool)(fi:sO x)(JM:∀h∈x.aq,h.key≠0)(hle:∀h∈x.aq,0<=h.af/\0<=h.ay/\h.af+h.ay<=1125899906842624):GC prog 206 [.ptr 0 0 0,int key,aD dQ] (p7 g x [] 0) (.au []) (yd g (Bp x key dQ)):=by
 have sm:=fi.sm;have hm:x.ag.length<=1000000000:=by have:=sm.lc;omega
 have oa:=sm.lh;have FZ:=sm.li

 refine GC.intro (rs:=[]) func206 rfl ntmps206 x_8 trivial ?_;intro L O w0;refine sL<|ab (zS 2011 [] iI jO rfl x_19) Z<|bD Z<|nA<|lq (rd (x:=ow) (cP rfl F8 rfl rfl rfl) rfl)<|ab (zA 2007 jO rfl) Z<|ab (zB 2007 oK oL rfl) Z<|Y<|aS<|sL<|aM Z<|lc Z<|lf 0 c8 Z<|lf 5 gn Z<|iO ii Z<|ba j7 Z<|ae Z<|Y<|aB ?_;refine aW [0,1,2,6,7,17,18] [0,1,2,3,4] (D:=Nat) (fun k=>[(19,int (k:Int))]) (fun k=>[(2011,d7 (jA (x.aq.take k) key)),(2007,Bn (n7 (x.aq.take k) key))]) (fun k=>k<=x.aq.length) (fun k=>x.aq.length-k) (0) (Nat.zero_le _) ⟨rfl,trivial⟩ ⟨rfl,rfl,trivial⟩ ?_;intro k hI;refine sL<|ak Z<|Y<|aS<|cE rfl ?_ ?_
 ·intro V;refine aK<|gT<|aS<|aB<|sL ?_;have hk:k<x.aq.length:=by simpa[ap]using V
  refine lq (rj k iI rfl x_14)<|lq (rd (x:=ow) (dT rfl l5 rfl rfl rfl (bS hk) rfl) rfl)<|ab (zA 2009 jO rfl) Z<|lT [0,1,2,6,7,9,17,18,19,22] [0,1,2,3,4,2007,2009,2011] ?_;refine ab (zB 2009 oK oL Z) Z<|nA<|lf 0 u9 Z<|aj ac Z<|ae Z<|ak Z<|Y<|cE rfl ?_ ?_
  ·intro h2;refine aL<|aP ow l5 Z<|ab (zB 2007 oK oL Z) Z<|lN<|gB<|gT<|aL<|bg Z<|ae Z<|Y ?_;refine⟨k+1,hk,by omega,x_11,⟨(congrArg d7 (by simp_all[Qk])),(Eq.trans (b:=Bn x.aq[k]) rfl (congrArg Bn (by rw[Qi fi.Jv hk,if_pos x_14]))),trivial⟩,rfl,rfl⟩
  intro h2;refine aL<|bW Z<|aP ow l5 Z<|ab (zS 2030 (ah iX [x.aq[k]]) iI jO rfl) Z<|ab (zP 2011 iI jO wI rfl x_18 (by grind[aaF,ah])) Z<|bD Z<|lN<|gB<|gT<|aL<|bg Z<|ae Z<|Y ?_;refine⟨k+1,hk,by omega,x_11,⟨(Eq.trans (b:=AO.ai 220 5 (ah iX (jA (x.aq.take k) key++[x.aq[k]]))) (congrArg (AO.ai 220 5) (fx iX _ [_]).symm) (congrArg d7 (by simp_all[Qk]))),(congrArg Bn (by rw[Qi fi.Jv hk,if_neg x_14])),trivial⟩,rfl,rfl⟩
 intro V;refine aE<|eT<|eT<|eB<|gT<|aS<|aS ?_;have dZ:k=x.aq.length:=by have h:=V;simp only[ap,decide_eq_false_iff_not]at h;omega
 refine AW.obj 2011 (d7 (jA x.aq key)) (congrArg d7 x_14) ?_;refine AW.obj 2007 (Bn (n7 x.aq key)) (congrArg Bn x_14) ?_;refine aL<|aM Z<|lf 0 u9 Z<|aj ac Z<|ak Z ?_;refine ab (bF func196 (gt ) x_5 rfl rfl) Z<|lT [0,2,6,7,37] [0,1,2,3,4,2007,2011] ?_;refine Y<|cE rfl ?_ ?_
 ·intro h3;refine aR<|rT ?_;have hz:(n7 x.aq key).key=0:=by
   have h:=h3;rcases Classical.em ((n7 x.aq key).key=0)with q|q
   ·exact q
   grind[bE]
  rw[aaL (aaI JM hz)];refine ax ?_ ⟨Eq.trans (b:=cD g x.tick x.next x.aA _) rfl (congrArg (cD g x.tick x.next x.aA) (by rw[decide_eq_true hz];rfl)),rfl,rfl,rfl,rfl,trivial⟩;rfl
 intro h3;refine aK<|gT<|aS ?_;have Dh:¬(n7 x.aq key).key=0:=fun q=>by
  grind[bE]
 obtain⟨i,hh,hf,uG⟩:=aaJ Dh;generalize n7 x.aq key=h at *;subst uG;have bQ:=sm.aq h (dB hh);obtain⟨ha,hb,kN⟩:=fi.P0 h (dB hh);obtain⟨a,c,uP,hc,Jw,pU⟩:=p9 ha;obtain⟨b,d,pE,hd,Jx,pV⟩:=p9 hb;have bC:=sm.ag c (dB hc);have ck:=sm.ag d (dB hd);have bO:a≠b:=tP hc hd x_2;refine AW.obj 0 (cD g x.tick x.next x.aA 0) (Eq.trans (b:=cD g x.tick x.next x.aA _) rfl (congrArg (cD g x.tick x.next x.aA) x_14)) ?_;refine aL<|aM Z<|bW Z<|lc Z<|lf 0 c8 Z<|lf 5 gn Z<|ab (zB 0 yh yk Z) Z<|Y<|aS ?_;refine AW.swap 2011 3 ?_;refine aT [0,2,7] [0,1,2,3,4,2007] ?_;refine aL<|lf 3 lO Z<|aj ac Z<|lf 4 pO Z<|aj ac Z ?_;refine eo rfl ⟨rfl,ce x_82⟩<|ao Z<|Y<|aS<|sL<|aQ Z<|Y<|cE rfl ?_ ?_
 ·intro h4;refine sL<|aM Z<|lf 1 nO Z<|aj ac Z<|ae Z ?_;refine ab (bF func258 (nF _ ({ x with aq:=jA x.aq h.key }) _ _ _ _ _ (hm) a c (uP) (hc) x_9 x_9) x_5 rfl rfl) Z<|nA<|aM Z<|lf 2 py Z<|aj ac Z<|lf 3 lO Z<|aj ac rfl ?_;refine ab (bF func258 (nF _ ({ x with aq:=jA x.aq h.key,ag:=x.ag.set a { c with loc:=c.loc+0,aC:=c.aC+(h.af+h.ay) } }) _ _ _ _ _ (x_136) b d ((uX (c':={ c with loc:=c.loc+0,aC:=c.aC+(h.af+h.ay) }) hc rfl).trans pE) (jy hd bO _) x_9 x_9) x_5 rfl rfl) Z<|lT [0,7,10] [0,1,2,3,4,2007] ?_;refine Y ?_;refine AW.obj 1 (AO.ai 159 7 (ah aX (cC (cC x.ag h.fI fun c=>{ c with aC:=c.aC+(h.af+h.ay) }) h.to fun c=>{ c with loc:=c.loc+h.af }))) (congrArg (fun l=>AO.ai 159 7 (ah aX l)) ((by simp only[Int.add_zero]:_=(x.ag.set a { c with aC:=c.aC+(h.af+h.ay) }).set b { d with loc:=d.loc+h.af }).trans (px fi.ids hc hd pU pV kN (fun c=>{ c with aC:=c.aC+(h.af+h.ay) }) (fun d=>{ d with loc:=d.loc+h.af }) (fun _=>rfl)))) ?_;refine sL<|aM Z<|lf 4 pO Z<|aj ac Z ?_;refine ab (bF func198 (jv ([]) 0 (LG.nil) x_3 _ _ _ (cL.nil _ _) (cJ.2 x_51)) x_5 rfl rfl) Z<|Y<|aL<|aM Z<|lf 2 py Z<|aj ac Z<|lf 3 lO Z<|aj ac rfl ?_;refine ab (bF func198 (jv (bR [] 4 0 h.ay) 1 (LG.nil.add (cJ.2 x_51)) x_3 _ _ _ x_42 (cJ.2 x_51)) x_5 rfl rfl) Z<|Y<|aL<|aM Z<|lf 1 nO Z<|aj ac Z<|ae Z<|lq (rd (x:=c6) (il rfl rfl (ce (by have h9:=hle h (dB hh);unfold i64;omega))) rfl)<|jK 90 (-h.af-h.ay) rfl x_2 ?_;refine ab (bF func198 (jv (bR (bR [] 4 0 h.ay) 6 h.to h.af) 2 ((LG.nil.add (cJ.2 x_51)).add (cJ.2 x_51)) x_3 _ _ _ (((cL.nil _ _).add (.inl x_3)).add (.inl x_3)) (cJ.2 x_51)) x_5 rfl rfl) Z<|lT [] [0,1,2,3,4,2007] ?_;refine lN ?_;rw[Qo hf,show dQ=true from h4];trivial
 intro h4;refine sL<|aM Z<|lf 1 nO Z<|aj ac Z<|ae Z ?_;refine ab (bF func258 (nF _ ({ x with aq:=jA x.aq h.key }) _ _ _ _ _ (hm) a c (uP) (hc) x_9 x_9) x_5 rfl rfl) Z<|nA<|aM Z<|lf 2 py Z<|aj ac Z<|lf 3 lO Z<|aj ac rfl ?_;refine ab (bF func258 (nF _ ({ x with aq:=jA x.aq h.key,ag:=x.ag.set a { c with loc:=c.loc+(h.af+h.ay),aC:=c.aC+0 } }) _ _ _ _ _ (x_136) b d ((uX (c':={ c with loc:=c.loc+(h.af+h.ay),aC:=c.aC+0 }) hc rfl).trans pE) (jy hd bO _) x_9 x_9) x_5 rfl rfl) Z<|Y ?_;refine AW.obj 1 (AO.ai 159 7 (ah aX (cC (cC x.ag h.fI fun c=>{ c with loc:=c.loc+(h.af+h.ay) }) h.to fun c=>{ c with aC:=c.aC+h.af }))) (congrArg (fun l=>AO.ai 159 7 (ah aX l)) ((by simp only[Int.add_zero]:_=(x.ag.set a { c with loc:=c.loc+(h.af+h.ay) }).set b { d with aC:=d.aC+h.af }).trans (px fi.ids hc hd pU pV kN (fun c=>{ c with loc:=c.loc+(h.af+h.ay) }) (fun d=>{ d with aC:=d.aC+h.af }) (fun _=>rfl)))) ?_;refine aL<|aM Z<|lf 1 nO Z<|aj ac Z<|ae Z ?_;refine ab (bF func198 (jv ([]) 0 (LG.nil) x_3 _ _ _ (cL.nil _ _) (cJ.2 x_51)) x_5 rfl rfl) Z<|lT [0,7,10] [0,1,2,3,4,2007] ?_;refine Y<|aL<|aM Z<|lf 1 nO Z<|aj ac Z<|ae Z<|lq (rd (x:=c6) (il rfl rfl (ce (by have h9:=hle h (dB hh);unfold i64;omega))) rfl)<|jK 90 (-h.af-h.ay) rfl x_2 ?_;refine ab (bF func198 (jv (bR [] 6 h.fI (h.af+h.ay)) 1 (LG.nil.add (cJ.2 x_51)) x_3 _ _ _ x_42 (cJ.2 x_51)) x_5 rfl rfl) Z<|lN ?_;rw[Qo hf,show dQ=false from h4];trivial
theorem aaM(g:Value)(x:aw)(sm:kL x)(ht:x.tick≠1125899906842624):GC prog 204 [.ptr 0 0 0] (p7 g x [] 0) (.au []) (yd g (p' x)):=by
 have bh:=sm.lh;have bc:=sm.lc;refine GC.intro (rs:=[]) func204 rfl ntmps204 x_8 trivial ?_;intro L O w0;refine aS<|sL<|aM Z<|aM Z<|lc Z<|lf 0 c8 Z<|lf 0 mB Z<|aj ac Z<|ak Z<|bJ 10 false rfl x_14 ?_;refine ab (bF func196 (gt ) x_5 rfl rfl) Z<|bJ 11 false rfl (by rfl)<|Y<|aN Z<|aK<|gT<|aS ?_;refine AW.obj 0 (cD g x.tick x.next x.aA 0) rfl ?_;refine aL<|aM Z<|lc Z<|lf 0 c8 Z<|lf 0 mB Z<|aj ac Z ?_;refine eo rfl ⟨rfl,ce (by have:=sm.tick;grind[bk,i64])⟩<|lc Z<|lf 0 c8 Z<|lf 0 mB Z<|ab (zB 0 ca cb rfl) Z<|lT [0] [0,1,2,3,4] ?_;refine Y<|aS<|sL<|aM Z<|lc Z<|lf 0 c8 Z<|lf 4 eF Z<|iO fS Z<|ba jb Z<|ae Z<|Y<|aB ?_;refine aW [0,26] [0,1,3,4] (D:=Nat) (fun k=>[(27,int (k:Int))]) (fun k=>[(2,df (kO kx k x.an))]) (fun k=>k<=x.an.length) (fun k=>x.an.length-k) (0) (Nat.zero_le _) ⟨rfl,trivial⟩ ⟨(congrArg df (DL kx x.an).symm),trivial⟩ ?_;intro k hI;refine sL<|ak Z<|Y<|aS<|cE rfl ?_ ?_
 ·intro V;refine aK<|gT<|aS<|aB<|sL<|ae Z<|ao Z<|nA<|aM Z<|lc Z<|lf 0 c8 Z<|lf 4 eF Z<|iO fS Z<|ae Z ?_;have hk:k<x.an.length:=by simpa[ap]using V
  have bQ:=sm.an _ (List.getElem_mem hk);refine lq (rj k f7 rfl (by grind[ap,yr]))<|lf 6 tV Z<|lq (rd (x:=c6) (dT rfl ac rfl rfl rfl (dk (tU kx hk)) rfl) rfl)<|ak Z<|Y<|cE rfl ?_ ?_
  ·intro h2;refine aL<|aM Z<|lc Z<|lf 0 c8 Z<|lf 4 eF Z<|iO fS Z<|ae Z<|lq (rj k f7 rfl (by grind[ap,yr]))<|lf 6 tV Z<|lq (rd (x:=c6) (dT rfl ac rfl rfl rfl (dk (tU kx hk)) rfl) rfl) ?_;refine eo rfl ⟨rfl,ce x_82⟩<|lT [0,26,27,44,45,49] [0,1,2,3,4] ?_;refine lq (rj k f7 rfl (by grind[ap,yr]))<|lf 6 tV Z<|ab (zQ 2 [.v (.int .i64 (x.an[k].jP+1))] ca cb rfl (dk (tU kx hk))) Z<|lN<|gB<|gT ?_;refine AW.obj 2 (df (kO kx (k+1) x.an)) (Eq.trans (b:=AO.ai 218 7 ((ah go (kO kx k x.an)).set k ((go { x.an[k]with jP:=x.an[k].jP+1 }).map PV.v))) rfl (congrArg (AO.ai 218 7) (lB.trans (congrArg (ah go) (by rw[<-BN _ hk];unfold kx;grind))))) ?_;refine aL<|bg Z<|ae Z<|Y ?_;refine⟨k+1,hk,by omega,x_11,⟨rfl,trivial⟩,rfl,rfl⟩
  intro h2;refine aK<|gB<|gT<|aL<|bg Z<|ae Z<|Y ?_;refine⟨k+1,hk,by omega,x_11,⟨(congrArg df (Gd kx hk (by have h:=h2;have q:=bQ.2.2.2.1;simp only[decide_eq_false_iff_not]at h;unfold kx;rw[show min (x.an[k].jP+1) 1125899906842624=x.an[k].jP by omega]))),trivial⟩,rfl,rfl⟩
 intro V;refine aE<|eT<|eT<|eB<|gA<|aM Z<|lc Z<|lf 0 c8 Z<|lf 3 dr Z<|iO eg Z<|ba kJ Z<|ae Z<|Y<|aB ?_;have Gf:k=x.an.length:=by have h:=V;simp only[ap,decide_eq_false_iff_not]at h;omega
 refine AW.obj 2 (df (x.an.map kx)) (congrArg df (by rw[Gf,DM])) ?_;refine aW [0,58] [0,2,3,4] (D:=Nat) (fun j=>[(59,int (j:Int))]) (fun j=>[(1,.ai 159 7 (ah aX (kO (l8 x.tick) j x.ag)))]) (fun j=>j<=x.ag.length) (fun j=>x.ag.length-j) (0) (Nat.zero_le _) ⟨rfl,trivial⟩ ⟨(congrArg (fun l=>AO.ai 159 7 (ah aX l)) (DL (l8 x.tick) x.ag).symm),trivial⟩ ?_;intro j hI;refine sL<|ak Z<|Y<|aS<|cE rfl ?_ ?_
 ·intro h3;refine aK<|gT<|aS<|aB<|sL ?_;have hj:j<x.ag.length:=by simpa[ap]using h3
  have bC:=sm.ag _ (List.getElem_mem hj);refine ae Z<|ao Z<|nA<|aM Z<|lc Z<|lf 0 c8 Z<|lf 0 mB Z<|aj ac Z ?_;refine eo rfl ⟨rfl,by decide⟩<|ak Z<|Y<|cE rfl ?_ ?_
  ·intro h4;refine aF [18]<|pq 0 (dJ Z)<|pq 1 (qc Z)<|pq 2 (qf 0 c8 Z)<|pq 3 (qf 3 dr Z)<|sq 4 (gC eg Z)<|pq 5 (gL c6 Z)<|fT [0,3,58,59,73,74] [0,1,2,3,4] ?_;refine pq 6 (dJ rfl)<|pq 7 (qc rfl)<|pq 8 (qf 0 c8 rfl)<|pq 9 (qf 3 dr rfl)<|sq 10 (gC eg rfl)<|vq 11 (dW rfl)<|vq 12 (rj j cz rfl (by grind[ap,yr]))<|vq 13 (rf 6 ms rfl)<|vq 14 (rd (x:=c6) (dT rfl ac rfl rfl rfl (dk (tU _ hj)) rfl) rfl)<|bn 15 rfl (zL func261 (Sd _) rfl) (.inr rfl)<|vq 16 (rj j cz rfl (by grind[ap,yr]))<|vq 17 (rf 6 ms rfl)<|bn 18 rfl (zQ 1 [.v (.int .i64 (lA x.ag[j].cM))] ca cb rfl (dk (tU _ hj))) (.inl rfl)<|fD<|gB<|gT ?_;refine AW.obj 1 (.ai 159 7 (ah aX (kO (l8 x.tick) (j+1) x.ag))) (Eq.trans (b:=AO.ai 159 7 ((ah aX (kO (l8 x.tick) j x.ag)).set j ((aX { x.ag[j]with cM:=lA x.ag[j].cM }).map PV.v))) rfl (congrArg (AO.ai 159 7) (lB.trans (congrArg (ah aX) (by rw[<-BN _ hj];simp_all[l8]))))) ?_;refine aL<|bg Z<|ae Z<|Y ?_;refine⟨j+1,hj,by omega,x_11,⟨rfl,trivial⟩,rfl,rfl⟩
  intro h4;refine aK<|gB<|gT<|aL<|bg Z<|ae Z<|Y ?_;refine⟨j+1,hj,by omega,x_11,⟨(congrArg (fun l=>AO.ai 159 7 (ah aX l)) (Gd (l8 x.tick) hj (if_neg x_14))),trivial⟩,rfl,rfl⟩
 intro h3;refine aE<|eT<|eT<|eB ?_;refine iZ ?_ ⟨rfl,(congrArg (fun l=>AO.ai 159 7 (ah aX l)) (by rw[show j=x.ag.length by grind[ap],DM];rfl)),rfl,rfl,rfl,trivial⟩;rfl

theorem Bq{a b:Int}(ha:0<=a/\a<=1125899906842624)(hb:0<=b/\b<=1125899906842624):gI a b=!decide (1125899906842624<a+b):=by
 unfold gI;rw[cY.2 ha,cY.2 hb,Bool.true_and,Bool.true_and];refine Bool.eq_iff_iff.2 ?_;grind[cY]
theorem FJ{x:aw}(h:eG x=true):(∀h∈x.an,h.key≠0)/\∀h∈x.aq,h.key≠0:=by
 obtain⟨_,_,_,_,h5,_⟩:=xO h;have hk:=(CV h5).2.2.2.2;have key:∀n∈dN x,n≠0:=fun n hn=>by
  obtain⟨j,hj,rfl⟩:=List.getElem_of_mem hn;have:=List.all_eq_true.1 hk j (by simpa using hj);unfold kV at this;simp only[Bool.and_eq_true]at this;intro q;have V:=this.1;simp[hj,q,fE,aI]at V
 grind[dN]
theorem FK{x:aw}{e:aV}(hn:x.next≠1125899906842624)(hk:e.kind=1):d8 x e=decide (1125899906842624<x.aA+e.af):=by simp_all[d8]
theorem HL{x:aw}{e:aV}(hn:x.next≠1125899906842624)(hk:e.kind=2):d8 x e=decide (1125899906842624<e.af+e.ay):=by grind[d8]
theorem aaN{x:aw}{e:aV}(hn:x.next≠1125899906842624)(hk:e.kind=3)(hc:eS x.ag e.ch=-1):d8 x e=false:=by grind[d8]
theorem JN{x:aw}{e:aV}{i:Nat}{c:be}(hn:x.next≠1125899906842624)(hk:e.kind=3)(hc:eS x.ag e.ch=(i:Int))(ho:fz x.ag e.ch=c):d8 x e=decide (1125899906842624<x.aA+c.loc-e.ay):=by grind[d8]
theorem HM{x:aw}{e:aV}(hn:x.next≠1125899906842624)(hk:e.kind=8):d8 x e=decide (x.tick=1125899906842624):=by grind[d8]
theorem xZ{x:aw}{e:aV}(hn:x.next≠1125899906842624)(V:¬e.kind=1)(h2:¬e.kind=2)(h3:¬e.kind=3)(h8:¬e.kind=8):d8 x e=false:=by grind[d8]
def fu(x:aw)(e:aV):WR:=if d8 x e=true then ⟨x,[],2⟩else bz x e
theorem Di{x:aw}{e:aV}(h:d8 x e=true):(⟨x,[],2⟩:WR)=fu x e:=by simp_all[fu]
theorem rE{x:aw}{e:aV}(h:d8 x e=false):bz x e=fu x e:=by simp_all[fu]
theorem aaO(x:aw)(e:aV):(fu x e).b.next=x.next:=by grind[fu,xA]
theorem aaP{x:aw}{e:aV}(h:(eG x&&co e)=true):dG x e=(fu x e).c:=by
 unfold dG fu;grind
theorem Qr{x:aw}{e:aV}(h:(fu x e).c=0):d8 x e=false/\fu x e=bz x e:=by
 unfold fu at *;grind
theorem aaQ{x:aw}{e:aV}(h:x.next=1125899906842624):d8 x e=true:=by simp_all[d8]
theorem aaR(g:Value)(x:aw)(e:aV)(mq:gI e.af e.ay=false):GC prog 199 [.ptr 0 0 0,ju e] (p7 g x [] 0) (.au []) (p7 g x [] 2):=by
 refine GC.intro (rs:=[]) func199 rfl ntmps199 x_8 trivial ?_;intro L O w0;refine sL<|ab (zX 2003 Z) Z<|nA<|lf 4 bN Z<|aj ac Z<|lf 5 fC Z<|aj ac Z<|ab (zL func197 (tI _ _) Z) Z<|cT (.au [c6,fy]) Z<|dE Z<|eU Z<|bJ 18 false Z mq<|ao Z<|ar Z<|Y<|aS<|aS<|aF [3,23,35]<|pq 0 (dJ Z)<|vq 1 (rG Z)<|vq 2 (M6 Z) ?_;refine bn 3 rfl (bF func196 (gt ) x_5 rfl rfl) (.inl rfl)<|nw 22 true rfl (by simp[bE])<|fT [0,3,4,22] [0,1,2,3,4,2003] ?_;refine vq 4 (cF Z)<|bi 5 Z<|bi 6 Z<|bi 7 Z<|bi 8 Z<|bi 9 Z<|al 10 Z<|al 11 Z<|al 12 Z<|al 13 Z<|al 14 Z<|al 15 Z<|al 16 Z<|al 17 Z<|al 18 Z<|al 19 Z<|al 20 Z<|al 21 Z<|al 22 Z<|al 23 Z<|vq 24 (bA Z)<|vq 25 (cF Z)<|bi 26 Z<|bi 27 Z<|bi 28 Z<|bi 29 Z<|bi 30 Z<|bi 31 Z<|al 32 Z<|al 33 Z ?_;refine al 34 Z<|al 35 Z<|vq 36 (bA Z)<|fD<|gT<|aY Z<|aR<|rT ?_;trivial
theorem aaS(g:Value)(x:aw)(ht:x.tick=1125899906842624):GC prog 204 [.ptr 0 0 0] (p7 g x [] 0) (.au []) (p7 g x [] 2):=by
 refine GC.intro (rs:=[]) func204 rfl ntmps204 x_8 trivial ?_;intro L O w0;refine aS<|sL<|aM Z<|aM Z<|lc Z<|lf 0 c8 Z<|lf 0 mB Z<|aj ac Z<|ak Z<|bJ 10 true rfl (by simpa using ht) ?_;refine ab (bF func196 (gt ) x_5 rfl rfl) Z<|bJ 11 true rfl (by rfl)<|Y<|aY Z<|aR<|rT ?_;trivial
theorem x_4{p:Prop}(c:p:=by exact ⟨(),trivial,trivial,⟨(congrArg (fun r:WR=>cD gw r.b.tick r.b.next r.b.aA r.c) hw),(congrArg (fun r:WR=>AO.ai 159 7 (ah aX r.b.ag)) hw),(congrArg (fun r:WR=>df r.b.an) hw),(congrArg (fun r:WR=>d7 r.b.aq) hw),(congrArg (fun r:WR=>dc r.l) hw),trivial⟩,rfl,rfl⟩):p:=c
theorem x_52{p:Prop}(c:p:=by exact congrArg (fun r:WR=>cD gw r.b.tick r.b.next r.b.aA r.c) hw):p:=c
theorem aaT(x:aw)(e:aV)(hw:di x):GX prog 107 [cj x,ju e] [] (FG x e):=by
 refine GX.intro (rs:=[.cell 4 50 (some 6),.cell 5 92 (some 2),.tmp 6]) func107 rfl ntmps107 x_8 ⟨rfl,rfl,cu,rfl,rfl,ol,rfl,trivial⟩ ?_;intro L O w0;refine sL<|ab (zX 2002 Z) Z<|ab (zX 2003 Z) Z<|ab (zA 2004 mD Z) Z<|ab (zA 2005 pC Z) Z<|ao Z<|Y<|aS<|sL<|aP h1 cu Z<|ab (zL func179 (Dn x hw) Z) Z<|bX Z<|aQ Z ?_;refine AL.bool (t:=16) rfl ?_ ?_
 ·intro V;refine aa Z<|aa Z<|aa Z<|aU Z<|Y<|aY Z<|sL<|lq (rd (x:=.agg [c6,c6,c6,vV _,vV _,vV _]) (cP Z s6 Z Z Z) Z)<|lq (rd (x:=.agg [c6,vV _]) (cP Z uA Z Z Z) Z)<|ab (zB 2004 eu ew Z) Z<|ab (zB 2005 na nb Z) Z<|lT [2,3,4,5,6] [2002,2003,2004,2005] ?_;refine ao Z<|Y<|aR<|rT ?_;have mS:(eG x&&co e)=false:=by simp_all
  have qC:=FF mS;refine fN (.au [xX,tC,int 1]) [] ?_ rfl trivial;exact .inl ⟨by omega,by rw[qC],rfl⟩
 intro V;refine aP iK dD Z<|ab (zL func195 (Px e) Z) Z<|bX Z<|bj Z<|Y<|cE rfl ?_ ?_
 ·intro h2;refine sL<|lq (rd (x:=.agg [c6,c6,c6,vV _,vV _,vV _]) (cP Z s6 Z Z Z) Z)<|lq (rd (x:=.agg [c6,vV _]) (cP Z uA Z Z Z) Z)<|ab (zB 2004 eu ew Z) Z<|ab (zB 2005 na nb Z) Z<|ao Z<|Y<|aR<|rT ?_;have mS:(eG x&&co e)=false:=by simp_all
  have qC:=FF mS;refine fN (.au [xX,tC,int 1]) [] ?_ rfl trivial;exact .inl ⟨by omega,by rw[qC],rfl⟩
 intro h2;refine aK<|gA ?_;have mS:(eG x&&co e)=true:=by simp_all
 have jr:eG x=true:=by simp_all
 have uQ:co e=true:=by simp_all
 have fi:=CT jr;have sm:=fi.sm;obtain⟨es,zH,tL⟩:=ED uQ;have hm:x.ag.length<=1000000000:=by have:=sm.lc;omega
 obtain⟨Z',P6,JB,aaa,aab,aac⟩:=xO jr;have Gz:=cJ.1 JB;have vX:=cY.1 P6;have pI:=aaP mS;have uG:=y8 uQ;have x3:=uu uQ;refine aP h1 cu Z<|ab (zC [(2003,1),(2008,2),(2013,3)] [1,2,3] [] func132 (OR x x_127) (trivial) rfl rfl) Z<|lq (rd (x:=.agg [c6,c6,c6,.own _,.own _,.own _,vV _,c6]) (cP rfl VV rfl rfl rfl) rfl)<|ab (zX 0 rfl) Z<|lT [2,3,4,5,6,26] [0,1,2,3,2002,2003,2004,2005] ?_;refine lC Z<|Y ?_;refine AW.pi 4 0 6 167 3 rfl x_3 rfl ?_;refine AW.tZ 0 rfl ?_;intro gw;refine AW.obj 4 (dc []) rfl ?_;refine sL<|aM Z<|lf 1 mW Z<|aj ac Z<|ak Z ?_;refine ab (bF func196 (gt ) x_5 rfl rfl) Z<|Y ?_;refine aJ [4,5,6,7] [2002,2003,2004,2005] (D:=Unit) (fun jd=>[]) (fun jd=>[(0,cD gw (fu x e).b.tick (fu x e).b.next (fu x e).b.aA (fu x e).c),(1,.ai 159 7 (ah aX (fu x e).b.ag)),(2,df (fu x e).b.an),(3,d7 (fu x e).b.aq),(4,dc (fu x e).l)]) (fun jd=>True) ?_ ?_
 ·refine sL<|aM Z<|lc Z<|lf 7 uC Z<|aj ac Z<|ak Z<|Y<|cE rfl ?_ ?_
  ·intro h3;refine aS ?_;have mj:x.next≠1125899906842624:=fun q=>by
    grind[bE]
   refine AW.obj 0 (cD gw x.tick x.next x.aA 0) (Eq.trans (b:=cD gw x.tick x.next x.aA _) rfl (congrArg (cD gw x.tick x.next x.aA) x_14)) ?_;refine aL<|lf 0 jz Z<|aj ac Z<|Y<|aB<|sL<|ak Z<|bv Z<|Y<|cE rfl ?_ ?_
   ·intro h4;refine sL<|lf 2 iW Z<|aj ac Z<|lf 4 bN Z<|aj ac Z<|ab (zL func197 (tI _ _) Z) Z<|lT [3,4,5,6,7,46] [0,1,2,3,4,2002,2003,2004,2005] ?_;refine cT (.au [c6,fy]) Z<|dE Z<|eU Z<|ao Z<|bv Z<|nA<|aM Z<|aQ Z<|bX Z ?_;refine ab (bF func196 (gt ) x_5 rfl rfl) Z<|bX Z<|Y<|cE rfl ?_ ?_
    ·intro h5;refine aS ?_;have haO:gI x.aA e.af=true:=by
      have h:=h5;rcases q:gI x.aA e.af with _|_
      ·grind[bE]
      rfl
     refine aL<|aM Z<|ae Z<|jK 55 (x.aA+e.af) Z (ye haO)<|lc Z<|lf 0 c8 Z<|lf 2 iW Z<|ab (zB 0 ca cb Z) Z<|lT [3,4,5,6,7] [0,1,2,3,4,2002,2003,2004,2005] ?_;refine nA<|aM Z<|lf 4 bN Z<|aj ac Z ?_;refine ab (bF func198 (jv ([]) 0 (LG.nil) x_3 _ _ _ (cL.nil _ _) (gP es.af)) x_5 rfl rfl) Z<|Y<|aL<|aM Z<|lf 4 bN Z<|aj ac Z<|lq (rd (x:=c6) (il rfl rfl (ce x_124)) rfl) ?_;refine ab (bF func198 (jv (bR [] 1 0 e.af) 1 (LG.nil.add (gP es.af)) x_3 _ _ _ x_42 (jM es.af)) x_5 rfl rfl) Z<|lN<|gB<|gT ?_;have bZ:e.kind=1:=by simpa using h4
     have gy:d8 x e=false:=by
      have h:=h5;rw[FK mj bZ];rw[Bq vX ⟨zH,(cY.1 x3.1).2⟩]at h;rcases q:decide (1125899906842624<x.aA+e.af)with _|_
      ·rfl
      grind[bE]
     have hw:zb x e=fu x e:=(yY bZ).trans (rE gy);refine⟨(),trivial,trivial,⟨(Eq.trans (b:=cD gw x.tick x.next (x.aA+e.af) 0) (Eq.trans (b:=cD gw x.tick x.next (x.aA+e.af) _) rfl (congrArg (cD gw x.tick x.next (x.aA+e.af)) x_14)) (congrArg (fun r:WR=>cD gw r.b.tick r.b.next r.b.aA r.c) hw)),x_53,x_72,x_73,x_84,trivial⟩,rfl,rfl⟩
    intro h5;refine aK<|gB<|gT ?_;have bZ:e.kind=1:=by simpa using h4
    have gy:d8 x e=true:=by
     have h:=h5;rw[FK mj bZ];rw[Bq vX ⟨zH,(cY.1 x3.1).2⟩]at h;rcases q:decide (1125899906842624<x.aA+e.af)with _|_
     ·grind
     rfl
    have hw:(⟨x,[],2⟩:WR)=fu x e:=Di gy;refine⟨(),trivial,trivial,⟨(Eq.trans (b:=cD gw x.tick x.next x.aA 2) (Eq.trans (b:=cD gw x.tick x.next x.aA _) rfl (congrArg (cD gw x.tick x.next x.aA) (by first|rfl|(rw[show gI x.aA e.af=false by grind];rfl)))) (congrArg (fun r:WR=>cD gw r.b.tick r.b.next r.b.aA r.c) hw)),x_53,x_72,x_73,x_84,trivial⟩,rfl,rfl⟩
   intro h4;refine sL<|ak Z<|bv Z<|Y<|cE rfl ?_ ?_
   ·intro h6;refine aL<|aM Z ?_;rcases mq:gI e.af e.ay with _|_
    ·skip;refine aP iK dD rfl ?_;refine ab (bF func199 (aaR _ x e mq) x_5 rfl rfl) Z<|lT [4,5,6,7] [0,1,2,3,4,2002,2003,2004,2005] ?_;refine lN<|gB<|gT ?_;have bZ:e.kind=2:=by simpa using h6
     have gy:d8 x e=true:=by
      rw[HL mj bZ];rw[Bq ⟨zH,(cY.1 x3.1).2⟩ ⟨tL,(cY.1 x3.2).2⟩]at mq;simpa using mq
     have hw:(⟨x,[],2⟩:WR)=fu x e:=Di gy;refine⟨(),trivial,trivial,⟨(Eq.trans (b:=cD gw x.tick x.next x.aA 2) rfl (congrArg (fun r:WR=>cD gw r.b.tick r.b.next r.b.aA r.c) hw)),x_53,x_72,x_73,x_84,trivial⟩,rfl,rfl⟩
    skip;refine aP iK dD rfl ?_;refine ab (bF func199 (RM _ x e sm es mq) x_5 rfl rfl) Z<|lN<|gB<|gT ?_;have bZ:e.kind=2:=by simpa using h6
    have gy:d8 x e=false:=by
     rw[HL mj bZ];rw[Bq ⟨zH,(cY.1 x3.1).2⟩ ⟨tL,(cY.1 x3.2).2⟩]at mq;simpa using mq
    have hw:sJ x e=fu x e:=(xy bZ).trans (rE gy);refine x_4
   intro h6;refine sL<|ak Z<|bv Z<|Y<|cE rfl ?_ ?_
   ·intro h7;refine sL<|aP h1 cu Z<|lf 2 dn Z<|aj ac Z ?_;rcases jt x.ag e.ch with⟨hi,ho⟩|⟨i,c,hi,hc,ho,hid⟩
    ·skip;refine ab (zL func200 (m9 x _ hm) rfl) Z<|ao Z<|Y<|aS<|sL<|ae Z<|ak Z<|bJ 80 false rfl x_138<|Y<|aN Z<|aK<|gA<|aM Z<|lc Z<|lf 7 uC Z<|aj ac Z<|ak Z<|bJ 100 true rfl (by rfl)<|Y<|aY Z<|aL<|aM Z<|aP iK dD rfl ?_;refine ab (bF func201 (KF _ x e fi es tL) x_5 rfl rfl) Z<|lT [4,5,6,7] [0,1,2,3,4,2002,2003,2004,2005] ?_;refine lN<|gB<|gT ?_;have bZ:e.kind=3:=by simpa using h7
     have gy:d8 x e=false:=aaN mj bZ hi;have hw:rH x e=fu x e:=(yZ bZ).trans (rE gy);refine x_4
    have bC:=sm.ag c (dB hc);refine ab (zL func200 (m9 x _ hm) rfl) Z<|ao Z<|Y<|aS<|sL<|ae Z<|ak Z<|bJ 80 true rfl (by grind[jw])<|Y<|aY Z<|aF [14]<|pq 0 (dJ rfl)<|pq 1 (qf 2 iW rfl)<|sq 2 (aZ ac rfl)<|pq 3 (qf 3 dr rfl)<|sq 4 (jj eg rfl)<|pq 5 (gL c6 rfl)<|sq 6 (rd (x:=.rp _) (yt (i:=i) rfl cz rfl rfl ?hn1 (dk hc)) rfl) ?_;case hn1=>trivial
    refine pq 7 (qd (x:=.rp _) (EI fH Z) Z)<|sq 8 (qU ac Z) ?_;refine sq 9 (iC rfl ⟨rfl,ce (by grind[bk,i64])⟩)<|vq 10 (rf 5 fC rfl)<|vq 11 (aZ ac rfl) ?_;refine vq 12 (iC rfl ⟨rfl,ce x_113⟩)<|vq 13 (dt rfl) ?_;refine bn 14 rfl (bF func196 (gt ) x_5 rfl rfl) (.inl rfl)<|fT [3,4,5,6,7] [0,1,2,3,4,2002,2003,2004,2005] ?_;refine fD<|gA<|aM Z<|lc Z<|lf 7 uC Z<|aj ac Z<|ak Z<|Y<|cE rfl ?_ ?_
    ·intro h8;refine AW.obj 0 (cD gw x.tick x.next x.aA 0) (Eq.trans (b:=cD gw x.tick x.next x.aA _) rfl (congrArg (cD gw x.tick x.next x.aA) x_14)) ?_;refine aL<|aM Z<|aP iK dD Z ?_;refine ab (bF func201 (KF _ x e fi es tL) x_5 rfl rfl) Z<|lN<|gB<|gT ?_;have bZ:e.kind=3:=by simpa using h7
     have gy:d8 x e=false:=by
      have h:=h8;rw[JN mj bZ hi ho];rcases q:decide (1125899906842624<x.aA+c.loc-e.ay)with _|_
      ·rfl
      grind[bE]
     have hw:rH x e=fu x e:=(yZ bZ).trans (rE gy);refine x_4
    intro h8;refine aK<|gB<|gT ?_;have bZ:e.kind=3:=by simpa using h7
    have gy:d8 x e=true:=by
     have h:=h8;rw[JN mj bZ hi ho];rcases q:decide (1125899906842624<x.aA+c.loc-e.ay)with _|_
     ·grind
     rfl
    have hw:(⟨x,[],2⟩:WR)=fu x e:=Di gy;refine⟨(),trivial,trivial,⟨(Eq.trans (b:=cD gw x.tick x.next x.aA 2) (Eq.trans (b:=cD gw x.tick x.next x.aA _) rfl (congrArg (cD gw x.tick x.next x.aA) (by rw[<-JN mj bZ hi ho,gy];rfl))) (congrArg (fun r:WR=>cD gw r.b.tick r.b.next r.b.aA r.c) hw)),x_53,x_72,x_73,x_84,trivial⟩,rfl,rfl⟩
   intro h7;refine sL<|ak Z<|bv Z<|Y<|cE rfl ?_ ?_
   ·intro h9;refine sL<|aP h1 cu Z<|lf 2 dn Z<|aj ac Z ?_;rcases jt x.ag e.ch with⟨hi,ho⟩|⟨i,c,hi,hc,ho,hid⟩
    ·skip;refine ab (zL func200 (m9 x _ hm) Z) Z<|lT [3,4,5,6,7,109] [0,1,2,3,4,2002,2003,2004,2005] ?_;refine ao Z<|nA<|aM Z<|ae Z<|ak Z<|bJ 112 true rfl x_138 ?_;refine ab (bF func196 (gt ) x_5 rfl rfl) Z<|bJ 113 true rfl (by rfl)<|ma Z<|Y<|aN Z<|aK<|gB<|gT ?_;have bZ:e.kind=4:=by simpa using h9
     have gy:d8 x e=false:=xZ mj x_2 x_2 x_2 x_2;have hw:ou x e=fu x e:=(vK bZ).trans (rE gy);rw[P4 hi]at hw;refine x_4
    have bC:=sm.ag c (dB hc);refine ab (zL func200 (m9 x _ hm) rfl) Z<|ao Z<|nA<|aM Z<|ae Z<|ak Z<|bJ 112 false rfl (by grind[jw]) ?_;refine ab (bF func196 (gt ) x_5 rfl rfl) Z<|bJ 113 false rfl (by rfl)<|Gq Z<|Y<|aY Z<|aS<|aF [10]<|pq 0 (dJ rfl)<|pq 1 (qc rfl)<|pq 2 (qf 0 c8 rfl)<|pq 3 (qf 3 dr rfl)<|sq 4 (gC eg rfl)<|pq 5 (gL c6 rfl)<|vq 6 (rf 4 bN rfl)<|vq 7 (aZ ac rfl)<|vq 8 (rd (x:=.ptr 1 _ 0) (pu (i:=i) rfl cz rfl rfl rfl ?hn2 x_33) rfl) ?_;case hn2=>trivial
    refine vq 9 (rf 4 nE Z)<|bn 10 Z (zQ 1 [.v (.int .i64 e.af)] ca cb Z (dk hc)) (.inl Z)<|fT [3,4,5,6,7,11] [0,1,2,3,4,2002,2003,2004,2005] ?_;refine fD<|gT ?_;refine AW.obj 1 (AO.ai 159 7 (ah aX (x.ag.set i { c with base:=e.af }))) (Eq.trans (b:=AO.ai 159 7 ((ah aX (x.ag)).set i ((aX { c with base:=e.af }).map PV.v))) rfl (congrArg (AO.ai 159 7) (lB))) ?_;refine aF [10]<|pq 0 (dJ rfl)<|pq 1 (qc rfl)<|pq 2 (qf 0 c8 rfl)<|pq 3 (qf 3 dr rfl)<|sq 4 (gC eg rfl)<|pq 5 (gL c6 rfl)<|vq 6 (rf 5 fC rfl)<|vq 7 (aZ ac rfl)<|vq 8 (rd (x:=.ptr 1 _ 0) (pu (i:=i) rfl cz rfl rfl rfl ?hn3 x_33) rfl) ?_;case hn3=>trivial
    refine vq 9 (rf 5 mH Z)<|bn 10 Z (zQ 1 [.v (.int .i64 e.ay)] ca cb Z (dk (ww hc { c with base:=e.af }))) (.inl Z)<|fD<|gB<|gT ?_;have bZ:e.kind=4:=by simpa using h9
    have gy:d8 x e=false:=xZ mj x_2 x_2 x_2 x_2;have hw:ou x e=fu x e:=(vK bZ).trans (rE gy);rw[P5 hi]at hw;refine⟨(),trivial,trivial,⟨x_52,(Eq.trans (Eq.trans (b:=AO.ai 159 7 ((ah aX (x.ag.set i { c with base:=e.af })).set i ((aX { c with base:=e.af,br:=e.ay }).map PV.v))) rfl (congrArg (AO.ai 159 7) (lB.trans (congrArg (ah aX) (by rw[List.set_set,FD fi.ids hc (fun c=>{ c with base:=e.af,br:=e.ay }),hid]))))) (congrArg (fun r:WR=>AO.ai 159 7 (ah aX r.b.ag)) hw)),x_72,x_73,x_84,trivial⟩,rfl,rfl⟩
   intro h9;refine sL<|ak Z<|bv Z<|Y<|cE rfl ?_ ?_
   ·intro dh;refine aL<|aM Z<|aP iK dD Z ?_;refine ab (bF func202 (RS _ x e fi es (AI uQ (.inl x_14))) x_5 rfl rfl) Z<|lT [4,5,6,7] [0,1,2,3,4,2002,2003,2004,2005] ?_;refine lN<|gB<|gT ?_;have bZ:e.kind=5:=by simpa using dh
    have gy:d8 x e=false:=xZ mj x_2 x_2 x_2 x_2;have hw:sP x e=fu x e:=(xz bZ).trans (rE gy);refine x_4
   intro dh;refine aS<|sL<|ak Z<|bv Z<|Y<|cE rfl ?_ ?_
   ·intro gp;refine qt 140 true Z gp<|aK<|gT<|aY Z<|aL<|aM Z<|lf 1 gE Z<|aj ac Z<|lf 0 jz Z<|aj ac Z<|ak Z ?_;refine ab (bF func203 (Qp _ x _ _ fi (FJ jr).1 (De jr).1) x_5 rfl rfl) Z<|lN<|gB<|gT ?_;have bZ:e.kind=6:=by simpa using gp
    have gy:d8 x e=false:=xZ mj x_2 x_2 x_2 x_2;have hw:mR x e=fu x e:=(uv (.inl bZ)).trans (rE gy);rw[<-Ql]at hw;refine x_4
   intro gp;refine qt 140 false Z gp<|aL<|ak Z<|bv Z<|Y<|cE rfl ?_ ?_
   ·intro gM;refine aL<|aM Z<|lf 1 gE Z<|aj ac Z<|lf 0 jz Z<|aj ac Z<|ak Z ?_;refine ab (bF func203 (Qp _ x _ _ fi (FJ jr).1 (De jr).1) x_5 rfl rfl) Z<|lT [4,5,6,7] [0,1,2,3,4,2002,2003,2004,2005] ?_;refine lN<|gB<|gT ?_;have bZ:e.kind=7:=by simpa using gM
    have gy:d8 x e=false:=xZ mj x_2 x_2 x_2 x_2;have hw:mR x e=fu x e:=(uv (.inr bZ)).trans (rE gy);rw[<-Ql]at hw;refine x_4
   intro gM;refine sL<|ak Z<|bv Z<|Y<|cE rfl ?_ ?_
   ·intro dO;refine aL<|aM Z ?_;rcases Classical.em (x.tick=1125899906842624)with qO|qO
    ·skip;refine ab (bF func204 (aaS _ x qO) x_5 rfl rfl) Z<|lN<|gB<|gT ?_;have bZ:e.kind=8:=by simpa using dO
     have gy:d8 x e=true:=by rw[HM mj bZ];simpa using qO
     have hw:(⟨x,[],2⟩:WR)=fu x e:=Di gy;refine⟨(),trivial,trivial,⟨(Eq.trans (b:=cD gw x.tick x.next x.aA 2) rfl (congrArg (fun r:WR=>cD gw r.b.tick r.b.next r.b.aA r.c) hw)),x_53,x_72,x_73,x_84,trivial⟩,rfl,rfl⟩
    skip;refine ab (bF func204 (aaM _ x sm qO) x_5 rfl rfl) Z<|lN<|gB<|gT ?_;have bZ:e.kind=8:=by simpa using dO
    have gy:d8 x e=false:=by rw[HM mj bZ];simpa using qO
    have hw:p' x=fu x e:=(y7 bZ).trans (rE gy);refine x_4
   intro dO;refine sL<|ak Z<|bv Z<|Y<|cE rfl ?_ ?_
   ·intro ij;refine aL<|aM Z<|aP iK dD Z ?_;refine ab (bF func205 (RU _ x e fi es (AI uQ (.inr x_14))) x_5 rfl rfl) Z<|lN<|gB<|gT ?_;have bZ:e.kind=9:=by simpa using ij
    have gy:d8 x e=false:=xZ mj x_2 x_2 x_2 x_2;have hw:sS x e=fu x e:=(t8 bZ).trans (rE gy);refine x_4
   intro ij;refine aS<|sL<|ak Z<|bv Z<|Y<|cE rfl ?_ ?_
   ·intro lg;refine qt 159 true Z lg<|aK<|gT<|aY Z<|aL<|aM Z<|lf 1 gE Z<|aj ac Z<|lf 0 jz Z<|aj ac Z<|ak Z ?_;refine ab (bF func206 (Qq _ x _ _ fi (FJ jr).2 (EH jr)) x_5 rfl rfl) Z<|lT [4,5,6,7] [0,1,2,3,4,2002,2003,2004,2005] ?_;refine lN<|gB<|gT ?_;have bZ:e.kind=10:=by simpa using lg
    have gy:d8 x e=false:=xZ mj x_2 x_2 x_2 x_2;have hw:nm x e=fu x e:=(ua x_2).trans (rE gy);rw[<-Qm]at hw;refine x_4
   intro lg;refine qt 159 false Z lg<|aL<|ak Z<|bv Z<|Y<|cE rfl ?_ ?_
   ·intro mn;refine aL<|aM Z<|lf 1 gE Z<|aj ac Z<|lf 0 jz Z<|aj ac Z<|ak Z ?_;refine ab (bF func206 (Qq _ x _ _ fi (FJ jr).2 (EH jr)) x_5 rfl rfl) Z<|lN<|gB<|gT ?_;have bZ:e.kind=11:=by simpa using mn
    have gy:d8 x e=false:=xZ mj x_2 x_2 x_2 x_2;have hw:nm x e=fu x e:=(ua x_2).trans (rE gy);rw[<-Qm]at hw;refine x_4
   intro mn;refine aK<|gB<|gT ?_;grind
  intro h3;refine aK<|gT ?_;have gy:d8 x e=true:=aaQ (by
   simp_all[bE])
  have hw:(⟨x,[],2⟩:WR)=fu x e:=Di gy;refine⟨(),trivial,trivial,⟨(Eq.trans (b:=cD gw x.tick x.next x.aA _) rfl ((congrArg (cD gw x.tick x.next x.aA) (show _=(2:Int) by grind[bE])).trans (congrArg (fun r:WR=>cD gw r.b.tick r.b.next r.b.aA r.c) hw))),x_53,x_72,x_73,x_84,trivial⟩,rfl,rfl⟩
 intro jd hJ;refine aS<|sL<|aM Z<|lc Z<|lf 7 uC Z<|aj ac Z<|ak Z<|Y<|cE rfl ?_ ?_
 ·intro m7;refine aS<|aG 8 [2004,2005]<|tq 0 (rd (x:=.agg [c6,c6,c6,vV _,vV _,vV _]) (cP Z s6 Z Z Z) Z)<|tq 1 (rd (x:=.agg [c6,vV _]) (cP Z uA Z Z Z) Z)<|tq 2 (cG Z)<|tq 3 (rc Z)<|tq 4 (rf 7 uC Z)<|tq 5 (aZ ac Z)<|cm 6 Z (zB 2004 eu ew Z)<|cm 7 Z (zB 2005 na nb Z)<|yq 8 (j8 Z)<|gD<|gT<|aR<|rT ?_;refine fN (.au [xX,tC,int (fu x e).c]) [] ?_ rfl trivial;exact .inl ⟨by grind,by rw[pI],rfl⟩
 intro m7;refine aK<|gT<|aS<|sL<|aM Z<|lc Z<|lf 6 E4 Z<|iO gY Z<|ba hZ Z<|ak Z<|Y<|cE rfl ?_ ?_
 ·intro mF;refine sL<|aM Z<|lc Z<|lf 0 c8 Z<|aP jG cu Z<|lq (rd (x:=.agg [c6,vV _]) (cP Z uA Z Z Z) Z)<|ab (zB 2004 eu ew Z) Z<|lT [4,5,6,7,190] [0,1,2,3,4,2002,2003,2004,2005] ?_;refine ab (zB 2005 na nb Z) Z<|ao Z<|Y<|aR<|rT ?_;have cQ:(fu x e).c=0:=by simpa using m7
  obtain⟨gy,zJ⟩:=Qr cQ;have dY:(fu x e).l=[]:=List.length_eq_zero_iff.1 (by simp_all[ap]);refine fN (.au [Bh (fu x e).b.tick (fu x e).b.next (fu x e).b.aA,tC,int 0]) (Jz (fu x e).b) ?_ rfl ⟨rfl,rfl,rfl,trivial⟩;rw[zJ]at dY ⊢;exact .inr (.inl ⟨by omega,dY,rfl,rfl⟩)
 intro mF;refine aK<|gT<|aS<|aF [11]<|pq 0 (dJ Z)<|pq 1 (qc Z)<|pq 2 (qf 0 c8 Z)<|pq 3 (qf 1 mW Z)<|sq 4 (aZ ac Z)<|pq 5 (dJ Z)<|pq 6 (qc Z)<|pq 7 (qf 6 E4 Z)<|sq 8 (gC gY Z)<|sq 9 (rd (x:=qa) (cP Z uA Z Z Z) Z)<|bn 10 Z (zA 2012 pC Z) (.inr Z)<|bn 11 Z (zB 2012 na nb Z) (.inl Z)<|fT [4,5,6,7,12] [0,1,2,3,4,2002,2003,2004,2005,2012] ?_;refine fD<|gA<|aM Z<|lc Z<|lf 0 c8 Z<|lf 1 mW Z<|aj ac Z ?_;refine eo rfl ⟨rfl,ce (by grind[aaO,i64])⟩<|lc Z<|lf 0 c8 Z<|lf 1 mW Z<|ab (zB 0 ca cb rfl) Z<|Y<|aS<|aG 7 [2004,2005]<|tq 0 (cG rfl)<|tq 1 (rc rfl)<|tq 2 (rf 0 c8 rfl)<|tq 3 (dw jG cu rfl)<|tq 4 (dw qa ol rfl)<|cm 5 rfl (zB 2004 eu ew rfl)<|gX [4,5,6,214] [0,1,2,3,4,2002,2003,2004,2005,2012] ?_;refine cm 6 Z (zB 2005 na nb Z)<|yq 7 (j8 Z)<|gD<|gT<|aR ?_;have cQ:(fu x e).c=0:=by simpa using m7
 obtain⟨gy,zJ⟩:=Qr cQ;have dY:(fu x e).l≠[]:=fun q=>by
  grind[ah]
 refine fN (.au [Bh (fu x e).b.tick ((fu x e).b.next+1) (fu x e).b.aA,.agg [int (fu x e).b.next,.own 4],int 0]) (JA (fu x e).b (fu x e).l) ?_ rfl ⟨rfl,rfl,rfl,rfl,trivial⟩;rw[zJ]at dY ⊢;exact .inr (.inr ⟨by omega,dY,by rw[xA],rfl⟩)

theorem dd.each{α:Type}{sz:Nat}{dg:World->Nat->Nat->List Value->α->Prop}{w:World}{lo hi:Nat}{v:Value}{xs:List α}{p:α->Prop}(h:dd sz dg w lo hi v xs)(hp:∀lo hi cs x,dg w lo hi cs x->p x):∀x∈xs,p x:=by
 obtain⟨a,cap,rfl,c1,c2,ml⟩:=h;intro x hx;rcases ml with hz|⟨b,off,rfl,b1,b2,hel⟩
 ·grind
 obtain⟨i,hi,rfl⟩:=List.getElem_of_mem hx;obtain⟨cs,V,_⟩:=hel i hi;grind
theorem abC{x:aw}{w:World}{v0 v1 v2:Value}(h0:dd 7 wE w 0 w.heap.size v0 x.ag)(V:dd 7 wF w 0 w.heap.size v1 x.an)(h2:dd 5 wG w 0 w.heap.size v2 x.aq)(hn:x.ag.length<=1048576):di x:=
 ⟨h0.each fun _ _ _ _ h=>h.2,V.each fun _ _ _ _ h=>h.2,h2.each fun _ _ _ _ h=>h.2,hn⟩
def Dj(S E lo hi:Nat)(f:List Nat):Prop:=S<=lo/\lo<=hi/\hi<=E/\((lo=E/\hi=E)\/(hi=lo+1/\lo∈f))
theorem Dj.none(S E:Nat)(h:S<=E):Dj S E E E []:=⟨h,Nat.le_refl _,Nat.le_refl _,.inl ⟨rfl,rfl⟩⟩
theorem Dj.apart{S E lo hi kq hU:Nat}{f f':List Nat}(h:Dj S E lo hi f)(h':Dj S E kq hU f')(hd:∀b∈f,b ∉ f'):hi<=kq\/hU<=lo:=by
 obtain⟨V,h2,h3,h4⟩:=h;obtain⟨k1,k2,k3,k4⟩:=h';grind
def rg:aw:=⟨0,0,0,[],[],[]⟩
def dp(x:aw)(e:aV):aw:=if dG x e=0 then (if (bz x e).l=[]then (bz x e).b else { (bz x e).b with next:=(bz x e).b.next+1 })else rg
def dl(x:aw)(e:aV):dX:=if dG x e=0 then (if (bz x e).l=[]then ⟨0,[]⟩else ⟨x.next,(bz x e).l⟩)else ⟨0,[]⟩
theorem Oj{x:aw}{e:aV}(h:dG x e≠0):dp x e=rg/\dl x e=⟨0,[]⟩:=by simp_all[dp,dl]
theorem ub{x:aw}{e:aV}(h:dG x e=0)(h2:(bz x e).l=[]):dp x e=(bz x e).b/\dl x e=⟨0,[]⟩:=by simp_all[dp,dl]
theorem rU{x:aw}{e:aV}(h:dG x e=0)(h2:(bz x e).l≠[]):dp x e={ (bz x e).b with next:=(bz x e).b.next+1 }/\dl x e=⟨x.next,(bz x e).l⟩:=by simp_all[dp,dl]
structure jI(r:WR):Prop where
 ag:∀c∈r.b.ag,qn c
 an:∀c∈r.b.an,ue c
 aq:∀c∈r.b.aq,vo c
 lines:∀l∈r.l,Bl l
 lc:r.b.ag.length<=100000
 lh:r.b.an.length<=100000
 li:r.b.aq.length<=100000
 ll:r.l.length<=100000
theorem Br{L:Nat->Prop}{ρ:Nat->Value}{H:Nat->AO}{w:World}{l:List AV}{c:Value}(h:RV L ρ H w (.agg l) c):∃cs,c=.agg cs.toArray/\bf L ρ H w l cs:=by trivial
theorem JO{L:Nat->Prop}{ρ:Nat->Value}{H:Nat->AO}{w:World}{l:List AV}{c:Value}(h:RV L ρ H w (.au l) c):∃cs,c=.tuple cs.toArray/\bf L ρ H w l cs:=by trivial
theorem zK{L:Nat->Prop}{ρ:Nat->Value}{H:Nat->AO}{w:World}{id:Nat}{c:Value}(h:RV L ρ H w (.own id) c)(hh:(H id).here=true):c=ρ id:=by grind[RV]

def ji(n:Int)(c:be):Prop:=(i64 c.id/\i64 c.size)/\(-n<=c.loc/\c.loc<=n)/\(-n<=c.aC/\c.aC<=n)/\(-n<=c.base/\c.base<=n)/\(-n<=c.br/\c.br<=n)/\(-n<=c.cM/\c.cM<=n)
theorem ji.wf{n:Int}{c:be}(h:ji n c)(hn:n<=9007199254740992):qn c:=by
 obtain⟨⟨V,h2⟩,h3,h4,h5,h6,h7⟩:=h;grind[qn,i64]
theorem ji.put{n m:Int}{c c':be}(h:ji n c)(V:c'.id=c.id)(h2:c'.size=c.size)(h3:(-m<=c'.loc/\c'.loc<=m)/\(-m<=c'.aC/\c'.aC<=m)/\(-m<=c'.base/\c'.base<=m)/\(-m<=c'.br/\c'.br<=m)/\(-m<=c'.cM/\c'.cM<=m)):ji m c':=⟨⟨V▸h.1.1,h2▸h.1.2⟩,h3⟩
theorem ji.mono{n m:Int}{c:be}(h:ji n c)(hn:n<=m):ji m c:=by
 refine h.put rfl rfl ?_;have:=h.2;omega
theorem MD(n:Int):-100<=lR n/\lR n<=100:=by grind[lR]
theorem ME(n:Int):-100<=lS n/\lS n<=100:=by grind[lS]
theorem OV(n:Int):-100<=lA n/\lA n<=100:=by grind[lA]
theorem JP{p q:be->Prop}{l:List be}{a:Int}{f:be->be}(h:∀c∈l,p c)(hf:∀c,p c->q (f c))(hq:∀c,p c->q c):∀c∈cC l a f,q c:=fun c hc=>by
 unfold cC at hc;grind
theorem sh{l:List be}{a:Int}{f:be->be}:(cC l a f).length=l.length:=List.length_map _
theorem mA{l:List aO}{k c n:Int}(h:∀y∈l,Bl y)(hk:i64 k)(hc:i64 c)(hn:i64 n):∀y∈bR l k c n,Bl y:=fun y hy=>by
 grind[Gb,Bl]
theorem zM(l:List aO)(k c n:Int):(bR l k c n).length<=l.length+1:=by
 grind[bR,BH]
theorem sx:∀y∈([]:List aO),Bl y:=by simp
theorem EP{l:List be}{c d:be}(h:d∈ly l c):d∈l\/d=c:=by
 grind[ly]
theorem OW(l:List be)(c:be):(ly l c).length=l.length+1:=by
 grind[ly]
theorem jI.same{x:aw}(hw:di x)(sm:kL x)(c:Int):jI ⟨x,[],c⟩:=⟨hw.ag,hw.an,hw.aq,sx,by have:=sm.lc;grind,by have:=sm.lh;grind,by have:=sm.li;grind,by simp⟩
theorem Qs{x:aw}(hw:di x)(sm:kL x):∀c∈x.ag,ji 1125899906842624 c:=fun c hc=>by
 have V:=hw.ag c hc;have h2:=sm.ag c hc;unfold qn at V;unfold bk at h2;exact⟨⟨V.1,V.2.1⟩,h2.1,h2.2.1,h2.2.2.2.1,h2.2.2.2.2,h2.2.2.1⟩
theorem aaU{x:aw}{a n:Int}{f:be->be}(hw:di x)(sm:kL x)(hf:∀c,ji 1125899906842624 c->ji 4503599627370496 (f c)):∀c∈cC x.ag a f,qn c:=fun c hc=>
 (JP (q:=ji 4503599627370496) (Qs hw sm) hf (fun c h=>h.mono x_2) c hc).wf x_2
theorem Bs{x:aw}{a b:Int}{f g:be->be}(hw:di x)(sm:kL x)(hf:∀c,ji 1125899906842624 c->ji 4503599627370496 (f c))(hg:∀c,ji 4503599627370496 c->ji 9007199254740992 (g c)):∀c∈cC (cC x.ag a f) b g,qn c:=fun c hc=>
 (JP (q:=ji 9007199254740992) (JP (q:=ji 4503599627370496) (Qs hw sm) hf (fun c h=>h.mono x_2)) hg (fun c h=>h.mono x_2) c hc).wf x_2
theorem FL{n:Int}(h:bk n):i64 n:=by grind[bk,i64]
theorem x_12{p:Prop}(c:p:=by (unfold i64;first|omega|(dsimp only;omega))):p:=c
theorem aaV{x:aw}{e:aV}(hw:di x)(sm:kL x)(es:m8 e):jI (zb x e):=by
 have h:=jI.same hw sm 0;refine⟨h.ag,h.an,h.aq,mA (mA sx x_12 x_12 (FL es.af)) x_12 x_12 (by have:=es.af;unfold bk at this;unfold i64;omega),h.lc,h.lh,h.li,?_⟩;have V:=zM (bR [] 1 0 e.af) 2 0 (-e.af);have h2:=zM [] 1 0 e.af;show (bR (bR [] 1 0 e.af) 2 0 (-e.af)).length<=_;grind
theorem Dk{a b c d f g:Int}:(bR (bR [] a b c) d f g).length<=100000:=by
 grind[zM]
theorem JQ(a b c d f g h i j:Int):(bR (bR (bR [] a b c) d f g) h i j).length<=100000:=by
 grind[zM]
theorem aaW{x:aw}{e:aV}(hw:di x)(sm:kL x)(es:m8 e)(we:l7 e):jI (sJ x e):=by
 have h:=jI.same hw sm 0;have ha:=es.af;have hf:=es.ay;by_cases q:gO x e=0
 ·rw[tK q];refine⟨fun c hc=>?_,h.an,h.aq,mA (mA sx x_12 we.2.2.1 (FL ha)) x_12 x_12 (by unfold bk at ha;unfold i64;omega),?_,h.lh,h.li,Dk⟩
  ·rcases EP hc with hc|rfl
   ·exact h.ag c hc
   unfold bk at ha hf;unfold qn;refine⟨we.2.2.1,?_,?_,?_,by (unfold i64;first|omega|(dsimp only;omega)),by (unfold i64;first|omega|(dsimp only;omega)),by (unfold i64;first|omega|(dsimp only;omega))⟩<;>unfold i64<;>dsimp only<;>omega
  show (ly x.ag _).length<=_;rw[OW];have:=sm.lc;omega
 grind[sK,jI.same]
theorem aaX{x:aw}(sm:kL x)(ch:Int):bk (fz x.ag ch).loc/\bk (fz x.ag ch).aC:=by
 rcases jt x.ag ch with⟨_,q⟩|⟨i,c,_,q1,q2,_⟩
 ·grind[BM,bk]
 rw[q2];have:=sm.ag c (dB q1);grind
theorem aaY{x:aw}{e:aV}(hw:di x)(sm:kL x)(es:m8 e)(we:l7 e):jI (rH x e):=by
 have h:=jI.same hw sm 0;have hf:=es.ay;have hl:=(aaX sm e.ch).1;by_cases q:ir x e=0
 ·rw[yf q];unfold zZ;refine⟨fun c hc=>h.ag c ((List.mem_filter.1 hc).1),h.an,h.aq,mA (mA (mA sx x_12 x_12 ?_) x_12 x_12 (FL hf)) x_12 we.2.2.1 ?_,?_,h.lh,h.li,JQ _ _ _ _ _ _ _ _ _⟩
  ·unfold bk at hf hl;unfold i64;omega
  ·unfold bk at hf hl;unfold i64;omega
  have V:(ny x.ag e.ch).length<=x.ag.length:=List.length_filter_le _ _;have:=sm.lc;show (ny x.ag e.ch).length<=_;omega
 grind[tM,jI.same]
theorem aaZ{x:aw}(sm:kL x){a:Int}{f:be->be}:(cC x.ag a f).length<=100000:=by rw[sh];have:=sm.lc;omega
theorem Bt{x:aw}(sm:kL x){a b:Int}{f g:be->be}:(cC (cC x.ag a f) b g).length<=100000:=by rw[sh,sh];have:=sm.lc;omega
theorem aa0{x:aw}{e:aV}(hw:di x)(sm:kL x)(es:m8 e):jI (ou x e):=by
 have h:=jI.same hw sm 0;have ha:=es.af;have hf:=es.ay;unfold bk at ha hf;unfold ou;split
 ·grind[jI.same]
 refine⟨aaU (n:=0) hw sm (fun c hc=>?_),h.an,h.aq,sx,aaZ sm,h.lh,h.li,h.ll⟩;refine ji.put hc rfl rfl ?_;have:=hc.2;grind
theorem aa1{x:aw}{e:aV}(hw:di x)(sm:kL x)(es:m8 e)(we:l7 e):jI (sP x e):=by
 have h:=jI.same hw sm 0;have ha:=es.af;have hs:bk (cn x e):=lQ _ _;unfold bk at ha hs;by_cases q:gg x e=0
 ·rw[sR q];unfold mI;refine⟨Bs hw sm (fun c hc=>?_) (fun c hc=>?_),fun c hc=>?_,h.aq,mA (mA sx x_12 we.2.2.2.1 ?_) x_12 we.2.2.2.1 (FL es.af),Bt sm,?_,h.li,Dk⟩
  ·refine ji.put hc rfl rfl ?_;have:=hc.2;dsimp only at *;omega
  ·refine ji.put hc rfl rfl ?_;have:=hc.2;dsimp only at *;omega
  ·rcases List.mem_append.1 hc with hc|hc
   ·exact h.an c hc
   rw[List.mem_singleton]at hc;subst hc;unfold ue;refine⟨we.2.1,we.2.2.1,we.2.2.2.1,?_,?_,by (unfold i64;first|omega|(dsimp only;omega))⟩<;>unfold i64<;>dsimp only<;>omega
  ·unfold i64;omega
  have:=sm.lh;simp;omega
 grind[jm,jI.same]
theorem aa2{x:aw}{e:aV}(hw:di x)(sm:kL x):jI (mR x e):=by
 have h:=jI.same hw sm 0;unfold mR;split
 ·rename_i y hy;have hm:=List.mem_of_find?_eq_some hy;have w1:=hw.an y hm;have s1:=sm.an y hm;unfold ue at w1;have Ba:(jS x.an y.key).length<=100000:=by
   have V:(jS x.an y.key).length<=x.an.length:=List.length_filter_le _ _;have:=sm.lh;omega
  have ck:∀c∈jS x.an y.key,ue c:=fun c hc=>h.an c ((List.mem_filter.1 hc).1);unfold bk at s1;unfold pN;split
  ·refine⟨Bs hw sm (fun c hc=>?_) (fun c hc=>?_),ck,h.aq,mA (mA (mA sx x_12 x_12 ?_) x_12 w1.2.1 w1.2.2.2.1) x_12 w1.2.2.1 ?_,Bt sm,Ba,h.li,JQ _ _ _ _ _ _ _ _ _⟩
   ·have:=MD c.cM;refine ji.put hc rfl rfl ?_;have:=hc.2;dsimp only at *;omega
   ·refine ji.put hc rfl rfl ?_;have:=hc.2;dsimp only at *;omega
   ·unfold i64;omega
   unfold i64;omega
  refine⟨Bs hw sm (fun c hc=>?_) (fun c hc=>?_),ck,h.aq,mA (mA sx x_12 w1.2.2.1 ?_) x_12 w1.2.2.1 ?_,Bt sm,Ba,h.li,Dk⟩
  ·have:=ME c.cM;refine ji.put hc rfl rfl ?_;have:=hc.2;dsimp only at *;omega
  ·refine ji.put hc rfl rfl ?_;have:=hc.2;dsimp only at *;omega
  ·unfold i64;omega
  unfold i64;omega
 grind[jI.same]
theorem aa3{x:aw}(hw:di x)(sm:kL x):jI (p' x):=by
 have h:=jI.same hw sm 0;refine⟨fun c hc=>?_,fun c hc=>?_,h.aq,sx,?_,?_,h.li,h.ll⟩
 ·obtain⟨d,hd,rfl⟩:=List.mem_map.1 hc;unfold l8;split
  ·have V:=h.ag d hd;have h2:=OV d.cM;grind[qn,i64]
  exact h.ag d hd
 ·obtain⟨d,hd,rfl⟩:=List.mem_map.1 hc;have V:=h.an d hd;grind[ue,kx,i64]
 ·show (x.ag.map _).length<=_;rw[List.length_map];exact h.lc
 show (x.an.map _).length<=_;rw[List.length_map];exact h.lh
theorem aa4{x:aw}{e:aV}(hw:di x)(sm:kL x)(es:m8 e)(we:l7 e):jI (sS x e):=by
 have h:=jI.same hw sm 0;have ha:=es.af;have hf:=es.ay;have hs:bk (eM e.af e.ay):=lQ _ _;unfold bk at ha hs hf;by_cases q:fL x e=0
 ·rw[uZ q];unfold oH;refine⟨Bs hw sm (fun c hc=>?_) (fun c hc=>?_),h.an,fun c hc=>?_,mA (mA sx x_12 we.2.2.1 ?_) x_12 we.2.2.1 ?_,Bt sm,h.lh,?_,Dk⟩
  ·refine ji.put hc rfl rfl ?_;have:=hc.2;dsimp only at *;omega
  ·refine ji.put hc rfl rfl ?_;have:=hc.2;dsimp only at *;omega
  ·rcases List.mem_append.1 hc with hc|hc
   ·exact h.aq c hc
   rw[List.mem_singleton]at hc;subst hc;unfold vo;refine⟨we.2.1,we.2.2.1,we.2.2.2.1,?_,?_⟩<;>unfold i64<;>dsimp only<;>omega
  ·unfold i64;omega
  ·unfold i64;omega
  have:=sm.li;simp;omega
 grind[od,jI.same]
theorem aa5{x:aw}{e:aV}(hw:di x)(sm:kL x):jI (nm x e):=by
 have h:=jI.same hw sm 0;unfold nm;split
 ·rename_i y hy;have hm:=List.mem_of_find?_eq_some hy;have w1:=hw.aq y hm;have s1:=sm.aq y hm;unfold vo at w1;have Ba:(jA x.aq y.key).length<=100000:=by
   have V:(jA x.aq y.key).length<=x.aq.length:=List.length_filter_le _ _;have:=sm.li;omega
  have ck:∀c∈jA x.aq y.key,vo c:=fun c hc=>h.aq c ((List.mem_filter.1 hc).1);unfold bk at s1;unfold mN;split
  ·refine⟨Bs hw sm (fun c hc=>?_) (fun c hc=>?_),h.an,ck,mA (mA (mA sx x_12 x_12 w1.2.2.2.2) x_12 w1.2.2.1 w1.2.2.2.1) x_12 w1.2.1 ?_,Bt sm,h.lh,Ba,JQ _ _ _ _ _ _ _ _ _⟩
   ·refine ji.put hc rfl rfl ?_;have:=hc.2;dsimp only at *;omega
   ·refine ji.put hc rfl rfl ?_;have:=hc.2;dsimp only at *;omega
   unfold i64;omega
  refine⟨Bs hw sm (fun c hc=>?_) (fun c hc=>?_),h.an,ck,mA (mA sx x_12 w1.2.1 ?_) x_12 w1.2.1 ?_,Bt sm,h.lh,Ba,Dk⟩
  ·refine ji.put hc rfl rfl ?_;have:=hc.2;dsimp only at *;omega
  ·refine ji.put hc rfl rfl ?_;have:=hc.2;dsimp only at *;omega
  ·unfold i64;omega
  unfold i64;omega
 grind[jI.same]
theorem aa6{x:aw}{e:aV}(hw:di x)(sm:kL x)(es:m8 e)(we:l7 e):jI (bz x e):=by
 unfold bz;repeat' split
 ·exact aaV hw sm es
 ·exact aaW hw sm es we
 ·exact aaY hw sm es we
 ·exact aa0 hw sm es
 ·exact aa1 hw sm es we
 ·exact aa2 hw sm
 all_goals grind[aa3,aa4,aa5]
theorem rS{x:aw}{e:aV}(h:dG x e=0):eG x=true/\co e=true/\d8 x e=false:=by
 unfold dG at h;grind
theorem XW{x:aw}{e:aV}(hw:di x)(we:l7 e)(h:dG x e=0):jI (bz x e):=by
 obtain⟨V,h2,_⟩:=rS h;exact aa6 hw (CT V).sm (ED h2).1 we
theorem ako{x:aw}{e:aV}(hw:di x)(we:l7 e):(dp x e).ag.length<=100000/\(dp x e).an.length<=100000/\(dp x e).aq.length<=100000/\(dl x e).lines.length<=100000:=by
 by_cases q:dG x e=0
 ·have w:=XW hw we q;by_cases r:(bz x e).l=[]
  ·obtain⟨e1,e2⟩:=ub q r;rw[e1,e2];exact⟨w.lc,w.lh,w.li,by simp⟩
  obtain⟨e1,e2⟩:=rU q r;rw[e1,e2];exact⟨w.lc,w.lh,w.li,w.ll⟩
 obtain⟨e1,e2⟩:=Oj q;rw[e1,e2];unfold rg;simp

abbrev Dl(x:aw)(e:aV):AV:=.au [.agg [int (dp x e).tick,int (dp x e).next,int (dp x e).aA,.own 11,.own 12,.own 13],.agg [int (dl x e).id,.own 14],int (dG x e)]
abbrev zN(x:aw)(e:aV):List (Nat×AO):=[(11,.ai 159 7 (ah aX (dp x e).ag)),(12,df (dp x e).an),(13,d7 (dp x e).aq),(14,dc (dl x e).lines)]
def sy(w:World)(v:Value)(f:List Nat)(o:AO):Prop:=∀(L:Nat->Prop) (ρ:Nat->Value) (H:Nat->AO),OB L ρ H w v f o
theorem zO{L:Nat->Prop}{ρ:Nat->Value}{H:Nat->AO}{w:World}{v:Value}{f:List Nat}{α:Type}{enc:α->List Value}{e:TypeId}{sz:Nat}{l:List α}(h:OB L ρ H w v f (.ai ⟨e,none⟩ sz (ah enc l))):sy w v f (.ai ⟨e,none⟩ sz (ah enc l)):=fun L' ci H'=>by
 obtain⟨xs,fr,k1,k2,k3,k4,k5⟩:=h;have ke:=k1.vj yg;subst ke;exact⟨xs,[],k1,by simp,k3,k4,k5⟩
theorem sy.nil{w:World}{e:TypeId}{sz:Nat}:sy w (.slice none 0 0) [] (.ai ⟨e,none⟩ sz []):=fun L ρ H=>x_104
theorem zR{L:Nat->Prop}{ρ:Nat->Value}{H:Nat->AO}{w:World}{id:Nat}{c:Value}(h:RV L ρ H w (.own id) c):c.oneCell'=true:=by grind[RV]
theorem FM{L:Nat->Prop}{ρ:Nat->Value}{H:Nat->AO}{w:World}{id:Nat}{c:Value}(h:c.oneCell'=true)(h2:c=ρ id):RV L ρ H w (.own id) c:=by grind[RV]
theorem aa7{x:aw}{e:aV}{L:Nat->Prop}{w':World}{y:AV}{bd:List (Nat×AO)}{v:Value}{ci:Nat->Value}{bH:Nat->List Nat}(hR:FG x e y bd)(g2:RV L ci (bx bd) w' y v)(g3:∀i,OB L ci (bx bd) w' (ci i) (bH i) (bx bd i)) :
 ∃v1 v2 v3 v4:Value,∃k1 k2 k3 k4:Bool,v=.tuple #[.agg #[.int .i64 (dp x e).tick,.int .i64 (dp x e).next,.int .i64 (dp x e).aA,v1,v2,v3],.agg #[.int .i64 (dl x e).id,v4],.int .i64 (dG x e)]/\(v1.oneCell'=true/\v2.oneCell'=true/\v3.oneCell'=true/\v4.oneCell'=true)/\
  sy w' v1 (if k1 then bH 1 else []) (.ai 159 7 (ah aX (dp x e).ag))/\sy w' v2 (if k2 then bH 2 else []) (df (dp x e).an)/\sy w' v3 (if k3 then bH 3 else []) (d7 (dp x e).aq)/\sy w' v4 (if k4 then bH 4 else []) (dc (dl x e).lines):=by
 rcases hR with⟨h0,rfl,rfl⟩|⟨h0,hl,rfl,rfl⟩|⟨h0,hl,rfl,rfl⟩
 ·obtain⟨e1,e2⟩:=Oj h0
  obtain⟨cs,rfl,g⟩:=JO g2
  simp only[bf]at g
  obtain⟨v1,_,rfl,k1,v2,_,rfl,k2,v3,_,rfl,k3,rfl⟩:=g
  obtain⟨cs,rfl,g⟩:=Br k1
  simp only[bf]at g
  obtain⟨u1,_,rfl,j1,u2,_,rfl,j2,u3,_,rfl,j3,u4,_,rfl,j4,u5,_,rfl,j5,u6,_,rfl,j6,rfl⟩:=g
  obtain⟨cs,rfl,g⟩:=Br k2
  simp only[bf]at g
  obtain⟨t1,_,rfl,i1,t2,_,rfl,i2,rfl⟩:=g
  rw[j1.gd,j2.gd,j3.gd,j4.gd,j5.gd,j6.gd,i1.gd,i2.gd,k3.gd]
  refine⟨_,_,_,_,false,false,false,false,by rw[e1,e2];rfl,⟨rfl,rfl,rfl,rfl⟩,?_⟩
  rw[e1,e2]
  exact⟨sy.nil,sy.nil,sy.nil,sy.nil⟩
 ·obtain⟨e1,e2⟩:=ub h0 hl
  obtain⟨cs,rfl,g⟩:=JO g2
  simp only[bf]at g
  obtain⟨v1,_,rfl,k1,v2,_,rfl,k2,v3,_,rfl,k3,rfl⟩:=g
  obtain⟨cs,rfl,g⟩:=Br k1
  simp only[bf]at g
  obtain⟨u1,_,rfl,j1,u2,_,rfl,j2,u3,_,rfl,j3,u4,_,rfl,j4,u5,_,rfl,j5,u6,_,rfl,j6,rfl⟩:=g
  obtain⟨cs,rfl,g⟩:=Br k2
  simp only[bf]at g
  obtain⟨t1,_,rfl,i1,t2,_,rfl,i2,rfl⟩:=g
  rw[j1.gd,j2.gd,j3.gd,i1.gd,i2.gd,k3.gd]
  refine⟨_,_,_,_,true,true,true,false,by rw[e1,e2,h0],⟨zR j4,zR j5,zR j6,rfl⟩,?_⟩
  rw[e1,e2,zK j4 rfl,zK j5 rfl,zK j6 rfl]
  exact⟨zO (g3 1),zO (g3 2),zO (g3 3),sy.nil⟩
 obtain⟨e1,e2⟩:=rU h0 hl
 obtain⟨cs,rfl,g⟩:=JO g2
 simp only[bf]at g
 obtain⟨v1,_,rfl,k1,v2,_,rfl,k2,v3,_,rfl,k3,rfl⟩:=g
 obtain⟨cs,rfl,g⟩:=Br k1
 simp only[bf]at g
 obtain⟨u1,_,rfl,j1,u2,_,rfl,j2,u3,_,rfl,j3,u4,_,rfl,j4,u5,_,rfl,j5,u6,_,rfl,j6,rfl⟩:=g
 obtain⟨cs,rfl,g⟩:=Br k2
 simp only[bf]at g
 obtain⟨t1,_,rfl,i1,t2,_,rfl,i2,rfl⟩:=g
 rw[j1.gd,j2.gd,j3.gd,i1.gd,k3.gd]
 refine⟨_,_,_,_,true,true,true,true,by grind,⟨zR j4,zR j5,zR j6,zR i2⟩,?_⟩
 rw[e1,e2,zK j4 rfl,zK j5 rfl,zK j6 rfl,zK i2 rfl]
 exact⟨zO (g3 1),zO (g3 2),zO (g3 3),zO (g3 4)⟩
theorem Qt{f:FuncId}{x:aw}{e:aV}(hc:GX prog f [cj x,ju e] [] (FG x e)):GC prog f [cj x,ju e] [] (Dl x e) (zN x e):=by
 intro L w cs ρ fp hL pF bY pG ud;refine Calls.mono (hc L w cs ρ fp hL pF bY pG ud) ?_;rintro r w' ⟨y,bd,hR,v,ci,bH,rfl,g1,g2,g3,g4,g5⟩;obtain⟨v1,v2,v3,v4,k1,k2,k3,k4,rfl,⟨o1,o2,o3,o4⟩,b1,b2,b3,b4⟩:=aa7 hR g2 g3;have my:∀(k:Bool) i,∀b∈(if k then bH i else []),b∈bH i:=fun k i b hb=>by cases k<;>simp_all
 refine⟨_,_,⟨rfl,rfl⟩,_,(fun i=>if i=11 then v1 else if i=12 then v2 else if i=13 then v3 else if i=14 then v4 else undef),(fun i=>if i=11 then (if k1 then bH 1 else [])else if i=12 then (if k2 then bH 2 else [])else if i=13 then (if k3 then bH 3 else [])else if i=14 then (if k4 then bH 4 else [])else []),rfl,g1,?_,fun i=>?_,fun i j gF b hb ec=>?_,fun i b hb=>?_⟩
 ·rw[RV];refine⟨[_,_,_],rfl,?_⟩;simp only[bf];refine⟨_,_,rfl,?_,_,_,rfl,?_,_,_,rfl,fX rfl,rfl⟩
  ·rw[RV];refine⟨[_,_,_,_,_,_],rfl,?_⟩;simp only[bf];exact⟨_,_,rfl,fX rfl,_,_,rfl,fX rfl,_,_,rfl,fX rfl,_,_,rfl,FM o1 rfl,_,_,rfl,FM o2 rfl,_,_,rfl,FM o3 rfl,rfl⟩
  rw[RV];refine⟨[_,_],rfl,?_⟩;simp only[bf];exact⟨_,_,rfl,fX rfl,_,_,rfl,FM o4 rfl,rfl⟩
 ·by_cases V:i=11
  ·subst V;exact b1 _ _ _
  by_cases h2:i=12
  ·subst h2;exact b2 _ _ _
  by_cases h3:i=13
  ·subst h3;exact b3 _ _ _
  by_cases h4:i=14
  ·subst h4;exact b4 _ _ _
  simp only[if_neg V,if_neg h2,if_neg h3,if_neg h4,bx];rfl
 all_goals grind
theorem Yi(x:aw)(e:aV)(hw:di x):GC prog 41 [cj x,ju e] [] (Dl x e) (zN x e):=Qt (Z9 x e hw)
theorem Yk(x:aw)(e:aV)(hw:di x):GC prog 107 [cj x,ju e] [] (Dl x e) (zN x e):=Qt (aaT x e hw)
abbrev aa8(x:aw):AV:=.agg [int x.tick,int x.next,int x.aA,.own 1,.own 2,.own 3]
abbrev FN(u1 u2 u3:Value)(x:aw):List (Nat×AO):=[(1,.ai ⟨159,some u1⟩ 7 (ah aX x.ag)),(2,.ai ⟨218,some u2⟩ 7 (ah go x.an)),(3,.ai ⟨220,some u3⟩ 5 (ah iX x.aq))]
theorem aa9(x:aw)(e:aV):∀p∈zN x e,M2 p.2:=fun p hp=>by
 simp only[zN,List.mem_cons,List.not_mem_nil,or_false]at hp;rcases hp with rfl|rfl|rfl|rfl<;>exact⟨rfl,yg⟩
theorem OQ{f:FuncId}{u1 u2 u3:Value}{x:aw}{e:aV}(hc:GC prog f [cj x,ju e] [] (Dl x e) (zN x e)):GC prog f [aa8 x,ju e] (FN u1 u2 u3 x) (Dl x e) (zN x e++FN u1 u2 u3 x):=
 hc.Ae rfl rfl (by intro id hid;simp[s7,vN]at hid;rcases hid with rfl|rfl|rfl|rfl<;>rfl) (by intro p hp;simp[FN]at hp;rcases hp with rfl|rfl|rfl<;>rfl) (aa9 x e) (by intro p hp;simp[FN]at hp;rcases hp with rfl|rfl|rfl<;>rfl)
end Go.Proofs.YtflhgkmhmcfimaaGreat

