/- Texts of the proof of FnFnExactHubOk, joined: All, E21, E22, E23, AllN, EN1, BkOk, BkStep, BkStep2. -/
import Derived.Test.YtflhgkmhmcfimaaGreatJHubOk11
import Derived.Test.YtflhgkmhmcfimaaGreatJHubOk4
namespace Go.Proofs.YtflhgkmhmcfimaaGreat
open Tryz
open Go.RowKit
set_option linter.unusedSimpArgs false
set_option linter.unusedVariables false
structure fg where
 now:aw
 jD:List Int
 ps:List dX
def kz(s:fg)(e:aV):fg:=⟨if dG s.now e=0 then dp s.now e else s.now,s.jD++[dG s.now e],if dG s.now e=0/\(dl s.now e).lines≠[]then s.ps++[dl s.now e]else s.ps⟩
def bK(x:aw)(es:List aV):fg:=es.foldl kz ⟨x,[],[]⟩
theorem Tb(x:aw):bK x []=⟨x,[],[]⟩:=rfl
theorem fl{x:aw}{es:List aV}{k:Nat}(h:k<es.length):bK x (es.take (k+1))=kz (bK x (es.take k)) es[k]:=by
 unfold bK;rw[List.take_succ_eq_append_getElem h,List.foldl_append];rfl
theorem XV{x:aw}{e:aV}(hw:di x)(we:l7 e):di (dp x e):=by
 by_cases q:dG x e=0
 ·have w:=XW hw we q;have hl:=w.lc;by_cases r:(bz x e).l=[]
  ·rw[(ub q r).1];exact⟨w.ag,w.an,w.aq,by omega⟩
  rw[(rU q r).1];exact⟨w.ag,w.an,w.aq,by show (bz x e).b.ag.length<=_;omega⟩
 rw[(Oj q).1];unfold rg;exact⟨by simp,by simp,by simp,by simp⟩
theorem XX{s:fg}{e:aV}(hw:di s.now)(we:l7 e):di (kz s e).now:=by
 unfold kz;dsimp only;split
 ·exact XV hw we
 exact hw
theorem D9{x:aw}{es:List aV}(hw:di x)(we:∀e∈es,l7 e):∀k,k<=es.length->di (bK x (es.take k)).now
 |0,_=>by rw[List.take_zero];exact hw
 |k+1,h=>by
  rw[fl (by omega)];exact XX (D9 hw we k (by omega)) (we _ (List.getElem_mem _))
theorem Ds{x:aw}{es:List aV}:∀k,k<=es.length->(bK x (es.take k)).jD.length=k
 |0,_=>by rw[List.take_zero];rfl
 |k+1,h=>by
  rw[fl (by omega)];have:=Ds (x:=x) k (by omega:k<=es.length);unfold kz;simp;exact this
theorem zU{x:aw}{es:List aV}:∀k,k<=es.length->(bK x (es.take k)).ps.length<=k
 |0,_=>by rw[List.take_zero];exact Nat.le_refl _
 |k+1,h=>by
  rw[fl (by omega)];have:=zU (x:=x) k (by omega:k<=es.length);unfold kz;dsimp only;split
  ·simp;omega
  omega
def qI(ps:List dX):List (List PV):=ps.map fun p=>[.v (.int .i64 p.id),.ab 167 3 (ah ct p.lines)]
theorem fw(l:List dX):(qI l).length=l.length:=List.length_map _
theorem Ok{x:aw}{e:aV}(hb:dG x e=0):decide (0<(dl x e).id)=!decide ((dl x e).lines=[]):=by
 obtain⟨V,h2,h3⟩:=rS hb;have hn:=(xO V).2.2.1;have:=cJ.1 hn;by_cases r:(bz x e).l=[]
 ·rw[(ub hb r).2];simp
 rw[(rU hb r).2];simp[r];omega
theorem Fk{s:fg}{e:aV}(h:dG s.now e=0):(kz s e).now=dp s.now e:=if_pos h
theorem Ol{s:fg}{e:aV}(h:dG s.now e≠0):(kz s e).now=s.now:=if_neg h
theorem Om{s:fg}{e:aV}(h:dG s.now e=0)(h2:(dl s.now e).lines≠[]):(kz s e).ps=s.ps++[dl s.now e]:=if_pos ⟨h,h2⟩
theorem On{s:fg}{e:aV}(h:dG s.now e≠0):(kz s e).ps=s.ps:=if_neg fun q=>h q.1
theorem Oo{s:fg}{e:aV}(h2:(dl s.now e).lines=[]):(kz s e).ps=s.ps:=if_neg fun q=>q.2 h2

def nr:AO->Bool
 |.ai _ _ _=>true
 |.gone=>true
 |_=>false
def dS(F:List AO):Prop:=∀o∈F,nr o=true
def tl(h:Nat->AO)(F:List AO):Nat->AO:=fun i=>bif Nat.blt i 1000000 then h i else (F[i-1000000]?).getD .gone
def Tl(H:Nat->AO)(F:List AO):Prop:=(∀i,H (1000000+i)=(F[i]?).getD .gone)/\dS F
theorem nr.bq{k:Nat->Bool}{o:AO}(h:nr o=true):o.bq k=o:=by cases o<;>first|rfl|cases h
theorem nr.cX{r:List (Nat×Nat)}{o:AO}(h:nr o=true):o.cX r=o:=by cases o<;>first|rfl|cases h
theorem nr.cO{id:Nat}{y:PV}{o:AO}(h:nr o=true):o.cO id y=o:=by cases o<;>first|rfl|cases h
theorem dS.nil:dS []:=fun _ h=>by cases h
theorem dS.at{F:List AO}(h:dS F)(i:Nat):nr ((F[i]?).getD .gone)=true:=by
 cases e:F[i]? with
 |none=>rfl
 |some o=>exact h o (List.mem_of_getElem? e)
theorem uI{h:Nat->AO}{F:List AO}{i:Nat}(hi:i<1000000):tl h F i=h i:=by
 unfold tl;rw[show Nat.blt i 1000000=true from Nat.ble_eq_true_of_le hi];rfl
theorem uJ{h:Nat->AO}{F:List AO}{i:Nat}:tl h F (1000000+i)=(F[i]?).getD .gone:=by
 unfold tl;rw[show Nat.blt (1000000+i) 1000000=false from by
  cases e:Nat.blt (1000000+i) 1000000 with
  |false=>rfl
  |true=>have:1000000+i<1000000:=Nat.le_of_ble_eq_true e;omega]
 simp
theorem yM(j:Nat):j<1000000\/∃i,j=1000000+i:=by
 rcases Nat.lt_or_ge j 1000000 with h|h
 ·exact .inl h
 exact .inr ⟨j-1000000,by omega⟩
theorem Tl.tl{h:Nat->AO}{F:List AO}(hF:dS F):Tl (tl h F) F:=⟨fun _=>uJ,hF⟩
theorem Tl.aH{H:Nat->AO}{F:List AO}{i:Nat}{o:AO}(hi:Nat.blt i 1000000=true)(h:Tl H F):Tl (aH H i o) F:=⟨fun j=>by
 have:i<1000000:=Nat.le_of_ble_eq_true hi;rw[eX _ _ (by omega)];exact h.1 j,h.2⟩
theorem Tl.bq{H:Nat->AO}{F:List AO}{k:Nat->Bool}(h:Tl H F):Tl (fun j=>(H j).bq k) F:=⟨fun j=>by
 show (H (1000000+j)).bq k=_;rw[h.1 j];exact nr.bq (dS.at h.2 j),h.2⟩
theorem Tl.cO{H:Nat->AO}{F:List AO}{id:Nat}{y:PV}(hi:Nat.blt id 1000000=true)(h:Tl H F):Tl (so id y H) F:=Tl.aH hi ⟨fun j=>by
 show (H (1000000+j)).cO id y=_;rw[h.1 j];exact nr.cO (dS.at h.2 j),h.2⟩
theorem Tl.swap{H:Nat->AO}{F:List AO}{a b:Nat}(hi:(Nat.blt a 1000000&&Nat.blt b 1000000)=true)(h:Tl H F):Tl (fun j=>(H (jH a b j)).gK a b) F:=⟨fun j=>by
 rw[Bool.and_eq_true]at hi;have V:a<1000000:=Nat.le_of_ble_eq_true hi.1;have h2:b<1000000:=Nat.le_of_ble_eq_true hi.2;have e:jH a b (1000000+j)=1000000+j:=by unfold jH;rw[if_neg (by omega),if_neg (by omega)]
 show (H (jH a b (1000000+j))).gK a b=_;rw[e,h.1 j];have:=dS.at h.2 j;cases hq:(F[j]?).getD .gone with
 |box T p cells=>rw[hq]at this;cases this
 |_=>rfl,h.2⟩
theorem Tl.eq{H:Nat->AO}{F:List AO}(h:Tl H F):H=Proofs.YtflhgkmhmcfimaaGreat.tl H F:=funext fun j=>by
 rcases yM j with q|⟨i,rfl⟩
 ·rw[uI q]
 rw[uJ];exact h.1 i
theorem CR{r:List (Nat×Nat)}{i:Nat}(h:∀p∈r,p.1≠i):rn r i=none:=by
 induction r with
 |nil=>rfl
 |cons p r ih=>
  obtain⟨a,b⟩:=p;unfold rn;rw[if_neg (fun q=>h (a,b) (by simp) q.symm)];exact ih (fun p hp=>h p (by simp[hp]))
def mV(r:List (Nat×Nat)):Bool:=r.all fun p=>Nat.blt p.1 1000000&&Nat.blt p.2 1000000
theorem mV.at{r:List (Nat×Nat)}(h:mV r=true):∀p∈r,p.1<1000000/\p.2<1000000:=fun p hp=>by
 have:=List.all_eq_true.1 h p hp;rw[Bool.and_eq_true]at this;exact⟨Nat.le_of_ble_eq_true this.1,Nat.le_of_ble_eq_true this.2⟩
theorem mV.hi{r:List (Nat×Nat)}(h:mV r=true)(i:Nat):rn (sw r) (1000000+i)=none:=CR fun p hp=>by
 unfold sw at hp;obtain⟨q,hq,rfl⟩:=List.mem_map.1 hp;have:=(mV.at h q hq).2;show q.2≠_;omega
theorem mV.hU{r:List (Nat×Nat)}(h:mV r=true)(i:Nat):rn r (1000000+i)=none:=CR fun p hp=>by
 have:=(mV.at h p hp).1;omega
theorem Tl.call{H:Nat->AO}{F:List AO}{r:List (Nat×Nat)}{k:Nat->Bool}{bd:List (Nat×AO)}(hr:mV r=true)(h:Tl H F):Tl (mg r k bd H) F:=⟨fun j=>by
 unfold mg;rw[mV.hi hr j];show (H (1000000+j)).bq k=_;rw[h.1 j];exact nr.bq (dS.at h.2 j),h.2⟩
def je(n:Nat):List AO->List (Nat×AO)
 |[]=>[]
 |o::l=>(n,o)::je (n+1) l
theorem Ar:∀(F:List AO) (n i:Nat),bx (je n F) i=if n<=i then (F[i-n]?).getD .gone else .gone
 |[],n,i=>by simp[je,bx]
 |o::F,n,i=>by
  show (if i=n then o else bx (je (n+1) F) i)=_;rw[Ar F];by_cases e:i=n
  ·subst e;simp
  rw[if_neg e];by_cases h:n<=i
  ·rw[if_pos (by omega),if_pos h,show i-n=(i-(n+1))+1 by omega];simp
  rw[if_neg (by omega),if_neg h]
def s9(l:List (Nat×AO)):Bool:=l.all fun p=>Nat.blt p.1 1000000
theorem Af:∀ {l:List (Nat×AO)} {m:List (Nat×AO)} {i:Nat},s9 l=true->bx (l++m) (1000000+i)=bx m (1000000+i)
 |[],m,i,_=>rfl
 |(a,o)::l,m,i,h=>by
  have V:=List.all_eq_true.1 h (a,o) (by simp);have h2:a<1000000:=Nat.le_of_ble_eq_true V;show (if 1000000+i=a then o else bx (l++m) (1000000+i))=_;rw[if_neg (by omega)];exact Af (by unfold s9 at *;rw[List.all_cons,Bool.and_eq_true]at h;exact h.2)
theorem yN:∀ {l:List (Nat×AO)} {F:List AO} {i:Nat},i<1000000->bx (l++je 1000000 F) i=bx l i
 |[],F,i,h=>by
  show bx (je 1000000 F) i=_;rw[Ar,if_neg (by omega)];rfl
 |(a,o)::l,F,i,h=>by
  show (if i=a then o else bx (l++je 1000000 F) i)=if i=a then o else bx l i
  rw[yN h]
theorem Gm{l:List (Nat×AO)}{F:List AO}(h:s9 l=true):bx (l++je 1000000 F)=tl (bx l) F:=funext fun j=>by
 rcases yM j with q|⟨i,rfl⟩
 ·rw[uI q,yN q]
 rw[uJ,Af h,Ar,if_pos (by omega)];simp
theorem Oq:∀ {l m:List (Nat×AO)} {H:Nat->AO},fo l H->fo m H->fo (l++m) H
 |[],m,H,_,h=>h
 |(a,o)::l,m,H,V,h=>⟨V.1,Oq V.2 h⟩
theorem Or:∀ {F:List AO} {n:Nat} {H:Nat->AO},(∀i,i<F.length->H (n+i)=(F[i]?).getD .gone)->fo (je n F) H
 |[],n,H,_=>trivial
 |o::F,n,H,h=>⟨by have:=h 0 (by simp);simpa using this,Or fun i hi=>by
  have:=h (i+1) (by simp;omega);rw[show n+1+i=n+(i+1) by omega];simpa using this⟩
theorem Tl.all{H:Nat->AO}{F:List AO}(h:Tl H F):fo (je 1000000 F) H:=Or fun i _=>h.1 i
theorem IN{l:List (Nat×AO)}(h:s9 l=true):Tl (bx l) []:=⟨fun i=>by have:=Af (m:=[]) (i:=i) h;rw[List.append_nil]at this;rw[this];rfl,dS.nil⟩
section
variable {P:Program}{L O:Nat->Prop}{w0:World}{N:Nat}{τ cE:Nat->AV}{H H':Nat->AO}{Q:AQ}{c:Code}{ops:Array Oper}{l:List Oper}{F:List AO}
theorem Fl{h:Nat->AO}(hT:Tl H F)(hh:∀id,h id=.gone\/h id=H id):∀id,tl h F id=.gone\/tl h F id=H id:=fun id=>by
 rcases yM id with q|⟨i,rfl⟩
 ·rw[uI q];exact hh id
 rw[uJ];exact .inr (hT.1 i).symm
theorem mi(F:List AO)(k i:List Nat){v:List AV}{b:List AO}(h:AW P L O w0 N c (eh .bad k v) (tl (eh .gone i b) F) Q)(V:ge τ k=v:=by exact nz)(h2:ge H i=b:=by exact nz)(hT:Tl H F:=by repeat (first|exact IN rfl|exact Tl.tl (by first|assumption|exact dS.nil)|refine Tl.cO rfl ?_|refine Tl.aH rfl ?_|refine Tl.bq ?_|refine Tl.call rfl ?_|refine Tl.swap rfl ?_)):AW P L O w0 N c τ H Q:=AW.eJ (ge.eJ V) (Fl hT (ge.eJ h2)) h
theorem xH(F:List AO)(k i:List Nat){v:List AV}{b:List AO}(h:AL P L O w0 N ops l (eh .bad k v) (tl (eh .gone i b) F) Q)(V:ge τ k=v:=by exact nz)(h2:ge H i=b:=by exact nz)(hT:Tl H F:=by repeat (first|exact IN rfl|exact Tl.tl (by first|assumption|exact dS.nil)|refine Tl.cO rfl ?_|refine Tl.aH rfl ?_|refine Tl.bq ?_|refine Tl.call rfl ?_|refine Tl.swap rfl ?_)):AL P L O w0 N ops l τ H Q:=AL.eJ (ge.eJ V) (Fl hT (ge.eJ h2)) h
theorem E8{D:Type}(K:List (Nat×AV))(KO:List (Nat×AO))(T:D->List (Nat×AV))(B:D->List (Nat×AO))(F:D->List AO)(I:D->Prop)(μ:D->Nat)(d:D)(h0:I d)(V:iN (T d) τ)(h2:fo (B d) H)(h3:iN K τ)(h4:fo KO H)(h5:Tl H (F d))
 (round:∀d,I d->AW P L O w0 N c (nY (T d++K)) (tl (bx (B d++KO)) (F d)) (Q.andThen fun τ H=>∃d',I d'/\μ d'<μ d/\iN (T d') τ/\fo (B d') H/\iN K τ/\fo KO H/\Tl H (F d'))):AW P L O w0 N (.loop c) τ H Q:=fun ρ fp a w hr=>by
 obtain⟨bH,gU,_⟩:=hr.eJ (iN.gJ V h3).eJ (Fl h5 (fo.gJ h2 h4).eJ)
 have key:∀n (d:D),μ d=n->I d->∀ρ fp a w,RR L O w0 N (nY (T d++K)) (tl (bx (B d++KO)) (F d)) ρ fp a w->∀b k cs,∃e a' w',QQ L O w0 N Q e a' w'/\Arrives P (lone (b.at a (.code c::.inLoop c::k)) cs w) b k cs e a' w':=by
  intro n;induction n using Nat.strongRecOn with
  |_ n ih=>
   intro d hn hI ρ fp a w hr b k cs;obtain⟨e,ry,rz,hq,ox⟩:=round d hI ρ fp a w hr b (.inLoop c::k) cs;obtain⟨tt,tu,rA,tv,rC,hq⟩:=hq;cases e with
   |normal=>
    obtain⟨d',i1,i2,i3,i4,i5,i6,i7⟩:=hq;obtain⟨IO,IP,_⟩:=rC.eJ (iN.gJ i3 i5).eJ (Fl i7 (fo.gJ i4 i6).eJ);obtain⟨IQ,IR,IS,IT,IU⟩:=ih (μ d') (hn▸i2) d' rfl i1 rA IO ry rz IP b k cs;exact⟨IQ,IR,IS,IT,.of_steps (Steps.trans ox (.one step_inLoop)) IU⟩
   |exit id=>exact⟨_,ry,rz,⟨tt,tu,rA,tv,rC,hq⟩,.pass (x:=.inLoop c) rfl (fun _ _=>.inl (by simp)) ox⟩
   |goto l=>exact⟨_,ry,rz,⟨tt,tu,rA,tv,rC,hq⟩,.pass (x:=.inLoop c) rfl (fun _ _=>.inl (by simp)) ox⟩
   |ret=>exact⟨_,ry,rz,⟨tt,tu,rA,tv,rC,hq⟩,.pass (x:=.inLoop c) rfl (fun _ _=>.inl (by simp)) ox⟩
   |panic ch=>exact⟨_,ry,rz,⟨tt,tu,rA,tv,rC,hq⟩,.pass (x:=.inLoop c) rfl (fun _ _=>.inl (by simp)) ox⟩
   |outgrown=>exact⟨_,ry,rz,⟨tt,tu,rA,tv,rC,hq⟩,.pass (x:=.inLoop c) rfl (fun _ _=>.inl (by simp)) ox⟩
 intro b k cs
 obtain⟨e,a',w',hq,ox⟩:=key (μ d) d rfl h0 ρ bH a w gU b k cs
 exact⟨e,a',w',hq,.of_steps (.one step_loop) ox⟩
theorem RR.rename{ρ:Nat->Value}{fp:Nat->List Nat}{a:Act}{w:World}(h:RR L O w0 N τ H ρ fp a w){i j:Nat}(gF:i≠j)(hj:H j=.gone)(hi:nr (H i)=true)(k:Nat->Bool)(hk:k j=true) :
 RR L O w0 N (fun t=>bq k (τ t)) (aH (aH (fun x=>(H x).bq k) i .gone) j (H i)) (aH ρ j (ρ i)) (aH (aH fp i []) j (fp i)) a w:=by
 have hfj:fp j=[]:=by have:=h.ob j;rw[hj]at this;exact this
 have e1:∀x,x≠i->x≠j->aH (aH (fun x=>(H x).bq k) i .gone) j (H i) x=(H x).bq k:=fun x q1 q2=>by rw[eX _ _ q2,eX _ _ q1]
 have ei:aH (aH (fun x=>(H x).bq k) i .gone) j (H i) i=.gone:=by rw[eX _ _ gF,dV]
 have ej:aH (aH (fun x=>(H x).bq k) i .gone) j (H i) j=H i:=dV _ _ _
 generalize hH':aH (aH (fun x=>(H x).bq k) i .gone) j (H i)=H' at *
 have re:∀b,live L (aH ρ j (ρ i)) H' b->live L ρ H b:=by
  rintro b (hl|⟨x,q1,q2⟩)
  ·exact .inl hl
  by_cases xj:x=j
  ·subst xj;rw[ej]at q1;rw[dV]at q2;exact .inr ⟨i,q1,q2⟩
  rw[eX _ _ xj]at q2;by_cases xi:x=i
  ·subst xi;rw[ei]at q1;cases q1
  rw[e1 x xi xj,sb]at q1;exact .inr ⟨x,q1,q2⟩
 have E:Env L ρ (aH ρ j (ρ i)) H H' w w k:=⟨Nat.le_refl _,fun b _ hn=>⟨rfl,fun hl=>hn (re b hl)⟩,fun x hx hh=>by
  have xj:x≠j:=fun q=>by subst q;rw[hk]at hx;cases hx
  by_cases xi:x=i
  ·subst xi;rw[ei]at hh;cases hh
  rw[e1 x xi xj]at hh ⊢;rw[sb]at hh;exact⟨hh,eX _ _ xj,Es _ _,Et _ _⟩⟩
 refine⟨h.jp,h.size,h.defers,fun t=>RV.env E _ (h.tm t),fun x=>?_,fun x y Ot b hb ec=>?_,fun x b hb=>?_,h.lo⟩
 ·by_cases xj:x=j
  ·subst xj
   rw[ej,dV,dV]
   have:=(h.ob i).env E (fun b _=>rfl)
   rwa [nr.bq hi]at this
  rw[eX _ _ xj,eX _ _ xj]
  by_cases xi:x=i
  ·subst xi;rw[ei,dV];rfl
  rw[e1 x xi xj,eX _ _ xi]
  exact(h.ob x).env E (fun b _=>rfl)
 ·have f:∀x,x≠j->x≠i->aH (aH fp i []) j (fp i) x=fp x:=fun x q1 q2=>by rw[eX _ _ q1,eX _ _ q2]
  have fj:aH (aH fp i []) j (fp i) j=fp i:=dV _ _ _
  have fi:aH (aH fp i []) j (fp i) i=[]:=by rw[eX _ _ gF,dV]
  by_cases xi:x=i
  ·subst xi;rw[fi]at hb;cases hb
  by_cases yi:y=i
  ·subst yi;rw[fi]at ec;cases ec
  by_cases xj:x=j
  ·subst xj
   rw[fj]at hb;rw[f y (Ne.symm Ot) yi]at ec
   exact h.dj i y (Ne.symm yi) b hb ec
  rw[f x xj xi]at hb
  by_cases yj:y=j
  ·subst yj;rw[fj]at ec;exact h.dj x i xi b hb ec
  rw[f y yj yi]at ec;exact h.dj x y Ot b hb ec
 by_cases xj:x=j
 ·subst xj;rw[dV]at hb;exact h.own i b hb
 rw[eX _ _ xj]at hb
 by_cases xi:x=i
 ·subst xi;rw[dV]at hb;cases hb
 rw[eX _ _ xi]at hb;exact h.own x b hb
end

mutual
def ns:AV->Bool
 |.own id=>Nat.blt id 1000000
 |.sub id _ _=>Nat.blt id 1000000
 |.ptr id _ _=>Nat.blt id 1000000
 |.agg cs=>km cs
 |.au cs=>km cs
 |.fQ _ f cs=>km f&&km cs
 |_=>true
def km:List AV->Bool
 |[]=>true
 |x::xs=>ns x&&km xs
end
def kR:AO->Bool
 |.box _ _ cells=>km cells
 |_=>true
def tw{α:Type}(k k':Nat->α):Prop:=∀i,i<1000000->k i=k' i
mutual
theorem Ou{k k':Nat->Bool}(h:tw k k'):∀x,ns x=true->bq k x=bq k' x
 |.own id,q=>by rw[bq,bq,h id (Nat.le_of_ble_eq_true q)]
 |.sub id off len,q=>by rw[bq,bq,h id (Nat.le_of_ble_eq_true q)]
 |.ptr id r c,q=>by rw[bq,bq,h id (Nat.le_of_ble_eq_true q)]
 |.agg cs,q=>by rw[bq,bq,A6 h cs q]
 |.au cs,q=>by rw[bq,bq,A6 h cs q]
 |.fQ fn f cs,q=>by
  have q':km f=true/\km cs=true:=by rw[<-Bool.and_eq_true];exact q
  rw[bq,bq,A6 h f q'.1,A6 h cs q'.2]
 |.p _,_=>by simp[bq]
 |.rp _,_=>by simp[bq]
 |.dead,_=>by simp[bq]
 |.bad,_=>by simp[bq]
theorem A6{k k':Nat->Bool}(h:tw k k'):∀l,km l=true->iA k l=iA k' l
 |[],_=>rfl
 |x::xs,q=>by
  have q':ns x=true/\km xs=true:=by rw[<-Bool.and_eq_true];exact q
  rw[iA,iA,Ou h x q'.1,A6 h xs q'.2]
end
theorem kR.bq{k k':Nat->Bool}(h:tw k k'){o:AO}(q:kR o=true):o.bq k=o.bq k':=by
 cases o with
 |box T p cells=>show AO.box T p _=AO.box T p _;rw[A6 h cells q]
 |_=>rfl
mutual
theorem Ov{r r':List (Nat×Nat)}(h:tw (rn r) (rn r')):∀x,ns x=true->cX r x=cX r' x
 |.own id,q=>by rw[cX,cX,h id (Nat.le_of_ble_eq_true q)]
 |.sub id off len,q=>by rw[cX,cX,h id (Nat.le_of_ble_eq_true q)]
 |.ptr id i c,q=>by rw[cX,cX,h id (Nat.le_of_ble_eq_true q)]
 |.agg cs,q=>by rw[cX,cX,zt h cs q]
 |.au cs,q=>by rw[cX,cX,zt h cs q]
 |.fQ fn f cs,q=>by
  have q':km f=true/\km cs=true:=by rw[<-Bool.and_eq_true];exact q
  rw[cX,cX,zt h f q'.1,zt h cs q'.2]
 |.p _,_=>by simp[cX]
 |.rp _,_=>by simp[cX]
 |.dead,_=>by simp[cX]
 |.bad,_=>by simp[cX]
theorem zt{r r':List (Nat×Nat)}(h:tw (rn r) (rn r')):∀l,km l=true->kU r l=kU r' l
 |[],_=>rfl
 |x::xs,q=>by
  have q':ns x=true/\km xs=true:=by rw[<-Bool.and_eq_true];exact q
  rw[kU,kU,Ov h x q'.1,zt h xs q'.2]
end
theorem kR.cX{r r':List (Nat×Nat)}(h:tw (rn r) (rn r')){o:AO}(q:kR o=true):o.cX r=o.cX r':=by
 cases o with
 |box T p cells=>show AO.box T p _=AO.box T p _;rw[zt h cells q]
 |_=>rfl
section
variable {P:Program}{L O:Nat->Prop}{w0:World}{N:Nat}{τ cE:Nat->AV}{H H':Nat->AO}{Q:AQ}{c:Code}{F:List AO}
theorem RR.plain{ρ:Nat->Value}{fp:Nat->List Nat}{a:Act}{w:World}(h:RR L O w0 N τ H ρ fp a w)(id:Nat){e:TypeId}{u:Value}{sz:Nat}{rows:List (List PV)}(hH:H id=.ai ⟨e,some u⟩ sz rows) :
 RR L O w0 N (fun t=>cO id (.v u) (τ t)) (fun j=>(H j).cO id (.v u)) ρ fp a w:=by
 have bY:=h.ob id
 rw[hH]at bY
 obtain⟨xs,fr,b1,b2,b3,b4,b5⟩:=bY
 have hu:ρ id=u:=b5 u rfl
 have V:(ρ id).oneCell'=true:=by rcases b3.2 with⟨q,_⟩|⟨g,cap,cur,q,_⟩<;>rw[q]<;>rfl
 have re:∀b,live L ρ (fun j=>(H j).cO id (.v u)) b->live L ρ H b:=by
  rintro b (hl|⟨j,q1,q2⟩)
  ·exact .inl hl
  exact .inr ⟨j,by rw[A4]at q1;exact q1,q2⟩
 have R:Fb id (.v u) L ρ H (fun j=>(H j).cO id (.v u)) w:=⟨fun b hn hl=>hn (re b hl),fun j _ hh=>by
  rw[A4]at hh;exact⟨hh,NZ _ _ _,N0 _ _ _⟩,by rw[hH];rfl,by rw[hu]at V ⊢;exact fX V⟩
 refine⟨h.jp,h.size,h.defers,fun t=>RV.cO R _ (h.tm t),fun j=>?_,h.dj,h.own,h.lo⟩
 have:=h.ob j
 show OB _ _ _ _ _ _ ((H j).cO id (.v u))
 cases hj:H j with
 |box T p cells=>
  rw[hj]at this
  obtain⟨ys,V,h2,h3,h4,h5⟩:=this
  exact⟨ys,bf.cO R cells V,Iv _ _ cells h2,by rw[Fa];exact h3,h4,h5⟩
 |ai e' s' r'=>
  rw[hj]at this
  obtain⟨ys,tp,V,h2,h3,h4⟩:=this
  exact⟨ys,tp,V,fun b hb=>R.live b (h2 b hb),h3,h4⟩
 |gone=>rw[hj]at this;exact this
theorem XY{k:List Nat}{v:List AV}(h:km v=true):∀t,ns (eh .bad k v t)=true:=by
 induction k generalizing v with
 |nil=>intro t;rfl
 |cons s k ih=>
  cases v with
  |nil=>intro t;rfl
  |cons x v=>
   intro t;have q':ns x=true/\km v=true:=by rw[<-Bool.and_eq_true];exact h
   show ns (if t=s then x else eh .bad k v t)=true;split
   ·exact q'.1
   exact ih q'.2 t
theorem XZ{k:List Nat}{v:List AO}(h:v.all kR=true):∀t,kR (eh .gone k v t)=true:=by
 induction k generalizing v with
 |nil=>intro t;rfl
 |cons s k ih=>
  cases v with
  |nil=>intro t;rfl
  |cons x v=>
   intro t;rw[List.all_cons,Bool.and_eq_true]at h;show kR (if t=s then x else eh .gone k v t)=true;split
   ·exact h.1
   exact ih h.2 t
mutual
theorem Ow(id:Nat)(y:PV):∀x,ns x=true->ns (cO id y x)=true
 |.own j,q=>by rw[cO];split<;>first|rfl|exact q
 |.sub j _ _,q=>by rw[cO];split<;>first|rfl|exact q
 |.ptr j _ _,q=>by rw[cO];split<;>first|rfl|exact q
 |.agg cs,q=>by rw[cO];exact A7 id y cs q
 |.au cs,q=>by rw[cO];exact A7 id y cs q
 |.fQ fn f cs,q=>by
  have q':km f=true/\km cs=true:=by rw[<-Bool.and_eq_true];exact q
  rw[cO];show (km _&&km _)=true;rw[A7 id y f q'.1,A7 id y cs q'.2];rfl
 |.p _,_=>by simp[cO,ns]
 |.rp _,_=>by simp[cO,ns]
 |.dead,_=>by simp[cO,ns]
 |.bad,_=>by simp[cO,ns]
theorem A7(id:Nat)(y:PV):∀l,km l=true->km (qv id y l)=true
 |[],_=>rfl
 |x::xs,q=>by
  have q':ns x=true/\km xs=true:=by rw[<-Bool.and_eq_true];exact q
  show (ns _&&km _)=true;rw[Ow id y x q'.1,A7 id y xs q'.2];rfl
end
theorem X0(id:Nat)(y:PV){o:AO}(q:kR o=true):kR (o.cO id y)=true:=by
 cases o with
 |box T p cells=>exact A7 id y cells q
 |_=>rfl
theorem RR.X2(j m:Nat){k i:List Nat}{v:List AV}{b:List AO}{e:TypeId}{u:Value}{sz:Nat}{rows:List (List PV)}{F':List AO}{ρ:Nat->Value}{fp:Nat->List Nat}{a:Act}{w:World}(hr:RR L O w0 N (eh .bad k v) (tl (eh .gone i b) F) ρ fp a w)(hj:(eh .gone i b j,Nat.blt j 1000000)=(.ai ⟨e,some u⟩ sz rows,true))(hl:(km v&&b.all kR)=true)(hF:dS F)
 (hm:(F[m]?).getD .gone=.gone) (X3:∀x,(F'[x]?).getD .gone=if x=m then .ai ⟨e,some u⟩ sz rows else (F[x]?).getD .gone) :
 ∃ρ fp,RR L O w0 N (fun t=>cO j (.v u) (eh .bad k v t)) (tl (aH (fun x=>(eh .gone i b x).cO j (.v u)) j .gone) F') ρ fp a w:=by
 rw[Bool.and_eq_true]at hl
 have Ox:eh .gone i b j=.ai ⟨e,some u⟩ sz rows:=congrArg (·.1) hj
 have Eg:j<1000000:=Nat.le_of_ble_eq_true (congrArg (·.2) hj)
 have V:=hr.plain j (e:=e) (u:=u) (sz:=sz) (rows:=rows) (by rw[uI Eg];exact Ox)
 have e0:(fun x=>(tl (eh .gone i b) F x).cO j (.v u))=tl (fun x=>(eh .gone i b x).cO j (.v u)) F:=funext fun x=>by
  rcases yM x with q|⟨m,rfl⟩
  ·rw[uI q,uI q]
  rw[uJ,uJ];exact nr.cO (dS.at hF m)
 rw[e0]at V
 have CQ:tl (fun x=>(eh .gone i b x).cO j (.v u)) F (1000000+m)=.gone:=by rw[uJ];exact hm
 have EB:tl (fun x=>(eh .gone i b x).cO j (.v u)) F j=.ai ⟨e,some u⟩ sz rows:=by rw[uI Eg,Ox];rfl
 have h2:=V.rename (i:=j) (j:=1000000+m) (by omega) CQ (by rw[EB];rfl) (cK (1000000+m)) (by simp[cK])
 have Oy:tw (cK (1000000+m)) kT:=fun x hx=>by unfold cK kT;simp;omega
 have e1:(fun t=>bq (cK (1000000+m)) (cO j (.v u) (eh .bad k v t)))=fun t=>cO j (.v u) (eh .bad k v t):=funext fun t=>by
  rw[Ou Oy _ (Ow _ _ _ (XY hl.1 t)),mf]
 have e2:aH (aH (fun x=>(tl (fun x=>(eh .gone i b x).cO j (.v u)) F x).bq (cK (1000000+m))) j .gone) (1000000+m) (tl (fun x=>(eh .gone i b x).cO j (.v u)) F j)=tl (aH (fun x=>(eh .gone i b x).cO j (.v u)) j .gone) F':=funext fun x=>by
  rw[EB];rcases yM x with q|⟨y,rfl⟩
  ·rw[eX _ _ (by omega),uI q];by_cases xj:x=j
   ·subst xj;rw[dV,dV]
   rw[eX _ _ xj,eX _ _ xj];show (tl _ F x).bq _=_;rw[uI q,kR.bq Oy (X0 _ _ (XZ hl.2 x)),AO.mf]
  rw[uJ,X3 y];by_cases hy:y=m
  ·subst hy;rw[dV,if_pos rfl]
  rw[eX _ _ (by omega),eX _ _ (by omega),if_neg hy];show (tl _ F (1000000+y)).bq _=_;rw[uJ,nr.bq (dS.at hF y)]
 rw[e1,e2]at h2
 exact⟨_,_,h2⟩
theorem Oz(j:Nat){k i:List Nat}{v:List AV}{b:List AO}{e:TypeId}{u:Value}{sz:Nat}{rows:List (List PV)}(hj:(eh .gone i b j,Nat.blt j 1000000)=(.ai ⟨e,some u⟩ sz rows,true))(hl:(km v&&b.all kR)=true)(hF:dS F)
 (hK:AW P L O w0 N c (fun t=>cO j (.v u) (eh .bad k v t)) (tl (aH (fun x=>(eh .gone i b x).cO j (.v u)) j .gone) (F++[.ai ⟨e,some u⟩ sz rows])) Q):AW P L O w0 N c (eh .bad k v) (tl (eh .gone i b) F) Q:=fun ρ fp a w hr=>by
 obtain⟨ci,bH,h⟩:=hr.X2 j F.length (F':=F++[.ai ⟨e,some u⟩ sz rows]) hj hl hF (by simp) (fun x=>by
  by_cases q:x=F.length
  ·subst q;simp
  rw[if_neg q];rcases Nat.lt_or_ge x F.length with z|z
  ·rw[List.getElem?_append_left z]
  rw[List.getElem?_eq_none z,List.getElem?_eq_none (by simp;omega)])
 exact hK ci bH a w h
end
def o9(s M:Nat):List (Nat×Nat):=(List.range M).map fun i=>(1000000+i,1000000+s+i)
theorem A8{r r':List (Nat×Nat)}{i:Nat}:rn (r++r') i=match rn r i with|some j=>some j|none=>rn r' i:=by
 induction r with
 |nil=>rfl
 |cons p r ih=>
  obtain⟨a,b⟩:=p;show (if i=a then some b else rn (r++r') i)=match (if i=a then some b else rn r i)with|some j=>some j|none=>rn r' i
  by_cases q:i=a
  ·rw[if_pos q,if_pos q]
  rw[if_neg q,if_neg q];exact ih
theorem OA{r r':List (Nat×Nat)}:sw (r++r')=sw r++sw r':=List.map_append
theorem IV{s M:Nat}:((o9 s M).map Prod.fst).Nodup:=by
 unfold o9;rw[List.map_map];exact List.pairwise_map.2 (List.Pairwise.imp (fun{a b} (h:a≠b)=>fun q=>h (by simp at q;omega)) List.nodup_range)
theorem OC{s M:Nat}:((o9 s M).map Prod.snd).Nodup:=by
 unfold o9;rw[List.map_map];exact List.pairwise_map.2 (List.Pairwise.imp (fun{a b} (h:a≠b)=>fun q=>h (by simp at q;omega)) List.nodup_range)
theorem IW{s M i:Nat}(h:i<M):rn (o9 s M) (1000000+i)=some (1000000+s+i):=Ez IV (List.mem_map.2 ⟨i,by simpa using h,rfl⟩)
theorem X4{s M i:Nat}(h:i<1000000):rn (o9 s M) i=none:=CR fun p hp=>by
 obtain⟨j,_,rfl⟩:=List.mem_map.1 hp;show 1000000+j≠i;omega
theorem X5{s M i:Nat}(h:i<1000000):rn (sw (o9 s M)) i=none:=CR fun p hp=>by
 unfold sw at hp;obtain⟨q,hq,rfl⟩:=List.mem_map.1 hp;obtain⟨j,_,rfl⟩:=List.mem_map.1 hq;show 1000000+s+j≠i;omega
theorem OD{r:List (Nat×Nat)}{s M:Nat}:tw (rn (r++o9 s M)) (rn r):=fun i hi=>by
 rw[A8,X4 hi];cases rn r i<;>rfl
theorem Fm{r:List (Nat×Nat)}{s M:Nat}:tw (rn (sw (r++o9 s M))) (rn (sw r)):=fun i hi=>by
 rw[OA,A8,X5 hi];cases rn (sw r) i<;>rfl
theorem X6{r:List (Nat×Nat)}{s M:Nat}(hr:mV r=true)(h:(r.map Prod.fst).Nodup):((r++o9 s M).map Prod.fst).Nodup:=by
 rw[List.map_append];refine List.nodup_append.2 ⟨h,IV,fun a ha b hb kN=>?_⟩;obtain⟨p,hp,rfl⟩:=List.mem_map.1 ha;obtain⟨q,hq,rfl⟩:=List.mem_map.1 hb;obtain⟨j,_,rfl⟩:=List.mem_map.1 hq;have:=(mV.at hr p hp).1;simp at kN;omega
theorem X7{r:List (Nat×Nat)}{s M:Nat}(hr:mV r=true)(h:(r.map Prod.snd).Nodup):((r++o9 s M).map Prod.snd).Nodup:=by
 rw[List.map_append];refine List.nodup_append.2 ⟨h,OC,fun a ha b hb kN=>?_⟩;obtain⟨p,hp,rfl⟩:=List.mem_map.1 ha;obtain⟨q,hq,rfl⟩:=List.mem_map.1 hb;obtain⟨j,_,rfl⟩:=List.mem_map.1 hq;have:=(mV.at hr p hp).2;simp at kN;omega
theorem X8{r:List (Nat×Nat)}{s M m:Nat}(hr:mV r=true):rn (sw (r++o9 s M)) (1000000+m)=if s<=m/\m-s<M then some (1000000+(m-s))else none:=by
 rw[OA,A8,mV.hi hr m];dsimp only;split
 ·rename_i q;have V:=IW (s:=s) q.2;rw[Ms IV OC]at V;rw[show 1000000+s+(m-s)=1000000+m by omega]at V;exact V
 rename_i q;refine CR fun p hp=>?_;unfold sw at hp;obtain⟨x,hx,rfl⟩:=List.mem_map.1 hp;obtain⟨j,hj,rfl⟩:=List.mem_map.1 hx;have:j<M:=by simpa using hj
 show 1000000+s+j≠1000000+m;omega
def GN(P:Program)(f:FuncId)(args:List AV)(ob0:List (Nat×AO))(F0:List AO)(R:AV->List (Nat×AO)->List AO->Prop):Prop:=
 GX P f args (ob0++je 1000000 F0) fun x bd=>∃l1 F1,(s9 l1&&(l1.all (fun p=>kR p.2)&&ns x))=true/\dS F1/\F1.length<=10000000/\bd=l1++je 1000000 F1/\R x l1 F1
def xP(kl:List Nat):Nat->Bool:=fun j=>kh kl j||Nat.ble 1000000 j
theorem X9{l:List (Nat×AO)}(h:(l.all fun p=>kR p.2)=true)(i:Nat):kR (bx l i)=true:=by
 induction l with
 |nil=>rfl
 |cons p l ih=>
  obtain⟨a,o⟩:=p;rw[List.all_cons,Bool.and_eq_true]at h;show kR (if i=a then o else bx l i)=true;split
  ·exact h.1
  exact ih h.2
theorem Ya{kl:List Nat}:tw (xP kl) (kh kl):=fun i hi=>by
 unfold xP;have:Nat.ble 1000000 i=false:=by
  cases e:Nat.ble 1000000 i with
  |false=>rfl
  |true=>have:=Nat.le_of_ble_eq_true e;omega
 rw[this,Bool.or_false]
theorem OE{ob0 l1:List (Nat×AO)}{F0 F1:List AO}:∀ {pl:List Nat},pl.all (fun i=>Nat.blt i 1000000)=true->pins ob0 l1 pl->pins (ob0++je 1000000 F0) (l1++je 1000000 F1) pl
 |[],_,_=>trivial
 |i::pl,hs,h=>by
  rw[List.all_cons,Bool.and_eq_true]at hs;refine⟨?_,OE hs.2 h.2⟩;rw[yN (Nat.le_of_ble_eq_true hs.1),yN (Nat.le_of_ble_eq_true hs.1)];exact h.1
theorem OF{r:List (Nat×Nat)}{H:Nat->AO}:∀ {l m:List (Nat×AO)},mP r H l->mP r H m->mP r H (l++m)
 |[],m,_,h=>h
 |(i,o)::l,m,V,h=>⟨V.1,OF V.2 h⟩
theorem OG{r:List (Nat×Nat)}{H:Nat->AO}:∀ {F:List AO} {n:Nat},(∀i,i<F.length->∃j,rn r (n+i)=some j/\(H j).cX (sw r)=(F[i]?).getD .gone)->mP r H (je n F)
 |[],n,_=>trivial
 |o::F,n,h=>⟨by have:=h 0 (by simp);simpa using this,OG fun i hi=>by
  have:=h (i+1) (by simp;omega);rw[show n+1+i=n+(i+1) by omega];simpa using this⟩
theorem OH{r r':List (Nat×Nat)}{H:Nat->AO}(V:∀i j,rn r i=some j->rn r' i=some j)(h2:tw (rn (sw r)) (rn (sw r')))(h3:∀i j,rn r i=some j->kR (H j)=true):∀ {l:List (Nat×AO)},mP r H l->mP r' H l
 |[],_=>trivial
 |(i,o)::l,h=>by
  obtain⟨⟨j,q1,q2⟩,q3⟩:=h;exact⟨⟨j,V i j q1,by rw[<-q2];exact(kR.cX h2 (h3 i j q1)).symm⟩,OH V h2 h3 q3⟩
theorem GS:∀ {F:List AO} {n i:Nat} {o:AO},(i,o)∈je n F->∃m,m<F.length/\i=n+m
 |[],n,i,o,h=>by cases h
 |x::F,n,i,o,h=>by
  rcases List.mem_cons.1 h with h|h
  ·injection h with V h2;exact⟨0,by simp,by omega⟩
  obtain⟨m,q1,q2⟩:=GS h;exact⟨m+1,by simp;omega,by omega⟩
section
variable {P:Program}{o:Oper}{N:Nat}{τ:Nat->AV}{H:Nat->AO}{F:List AO}
theorem A2(r:List (Nat×Nat))(kl pl:List Nat)(s:Nat){y:Operand}{l:List Operand}{ts:Array TypeId}{f:FuncId}{fn:Func}{fs mv args:List AV}{ob0:List (Nat×AO)}{F0 Fp:List AO}{R:AV->List (Nat×AO)->List AO->Prop}(hf:P.funcs[f]? = some fn)(hc:GN P f args ob0 F0 R)(hT:Tl H F)(e0:F.drop s=F0)(e1:F.take s=Fp)(hs:s<=F.length)(hM:F.length<=10000000)(hp:∀x l1 F1,R x l1 F1->pins ob0 l1 pl)
 (h : (o.op,ux o.dst N,ev τ y,(fn.name == "runtime.NumGoroutine"),fn.body.isNone,kU (sw r) (fs ++ l.map (ev τ) ++ mv),km (fs ++ l.map (ev τ) ++ mv),r.all (fun p => kR (H p.2))) = (.call { callee := .value y,args := l.toArray,argTypes := ts },true,.fQ (.func f) fs mv,false,false,args,true,true)) (h0 : si r H ob0 = zh ob0)
 (hr:(tg (r.map Prod.fst)&&(tg (r.map Prod.snd)&&(xg r kl pl&&(mV r&&pl.all (fun i=>Nat.blt i 1000000)))))=true:=by decide) :
 wW P o N τ H (AB r ob0++(List.range F0.length).map fun i=>1000000+s+i) fun cE H'=>∃x l1 F1,R x l1 F1/\dS F1/\F1.length<=10000000/\cE=mb (fun t=>bq (xP kl) (τ t)) o.dst (cX r x)/\H'=tl (mg r (xP kl) l1 H) (Fp++F1):=by
 subst e0 e1
 simp only[Prod.mk.injEq]at h
 obtain⟨ho,ht,hy,vG,nX,ha,gH,Yb⟩:=h
 simp only[Bool.and_eq_true]at hr
 obtain⟨qY,lD,BT,nS,Yc⟩:=hr
 have Yd:=X6 (s:=s) (M:=10000000) nS (Cl qY)
 have Ye:=X7 (s:=s) (M:=10000000) nS (Cl lD)
 have hlen:(F.drop s).length<=10000000:=by simp;omega
 have OI:∀i j,rn r i=some j->rn (r++o9 s 10000000) i=some j:=fun i j q=>by rw[A8,q]
 have Yf:∀i j,rn r i=some j->kR (H j)=true:=fun i j q=>List.all_eq_true.1 Yb _ (AA q)
 refine⟨?_⟩
 intro L O w0 ρ fp a w K Q bV hk
 have ey:=bV.ev y
 rw[hy,RV]at ey
 obtain⟨cf,cc,ey,e1,e2⟩:=ey
 have hv:bf L ρ H w (fs++l.map (ev τ)++mv) (cf++l.map a.eval++cc):=(e1.append (bf.map (fun z=>bV.ev z) l)).append e2
 have vE:=Mw bV (r:=r++o9 s 10000000) (k:=xP kl) (pl:=pl) hc Yd Ye (by
  refine OF (OH OI (fun i hi=>(Fm (r:=r) (s:=s) i hi).symm) Yf (si.mP h0)) (OG fun i hi=>?_);refine⟨1000000+s+i,?_,?_⟩
  ·rw[A8,mV.hU nS i];exact IW (by omega)
  ·rw[show 1000000+s+i=1000000+(s+i) by omega,hT.1 (s+i),nr.cX (dS.at hT.2 _),List.getElem?_drop])
  (fun j hj i hi=>by
    have Fo:j<1000000:=by
     unfold xP at hj;rw[Bool.or_eq_false_iff]at hj;rcases Nat.lt_or_ge j 1000000 with q|q
     ·exact q
     have:=Nat.ble_eq_true_of_le q;rw[hj.2]at this;cases this
    rw[Fm j Fo]at hi;refine xg.at BT j ?_ i hi;rw[<-Ya j Fo];exact hj)
  (fun x bd ⟨l1,F1,q1,q2,q3,q4,q5⟩=>by subst q4;exact OE Yc (hp x l1 F1 q5)) hv (by rw[<-ha];exact(zt (fun i hi=>Fm i hi) _ gH))
 have rq:(execOp a.eval o).run P w=.ok (.enter f (cf++l.map a.eval++cc).toArray) w:=by
  simp only[execOp,ho,resolve,Deferred.ofValue,ey,invoke,callFunc,Sem.run_bind,Sem.run_pure,Result.andThen_ok,run_program,hf,vG,nX,Bool.false_eq_true,if_false,List.map_toArray,List.append_toArray]
 unfold Oper.wp
 rw[rq]
 show Calls P f _ w _
 refine Calls.mono vE ?_
 rintro e w' ⟨x,bd,⟨l1,F1,q1,q2,q3,rfl,q5⟩,v,ci,bH,rfl,g1,g2,g3⟩
 simp only[Bool.and_eq_true]at q1
 have eH:mg (r++o9 s 10000000) (xP kl) (l1++je 1000000 F1) H=tl (mg r (xP kl) l1 H) (F.take s++F1):=funext fun j=>by
  rcases yM j with q|⟨m,rfl⟩
  ·rw[uI q];unfold mg;rw[Fm j q];cases hj:rn (sw r) j with
   |none=>rfl
   |some i=>
    have hi:i<1000000:=by
     have:=AA hj;unfold sw at this;obtain⟨p,hp,e⟩:=List.mem_map.1 this;injection e with e1 e2;subst e2;exact(mV.at nS p hp).1
    show (bx (l1++je 1000000 F1) i).cX _=(bx l1 i).cX _;rw[yN hi];exact kR.cX OD (X9 q1.2.1 i)
  rw[uJ];unfold mg;rw[X8 nS];have dM:(F.take s).length=s:=by rw[List.length_take];omega
  by_cases c:s<=m/\m-s<10000000
  ·rw[if_pos c];show (bx (l1++je 1000000 F1) (1000000+(m-s))).cX _=_;rw[Af q1.1,Ar,if_pos (by omega),show 1000000+(m-s)-1000000=m-s by omega,nr.cX (dS.at q2 _),List.getElem?_append_right (by omega),dM]
  rw[if_neg c];show (H (1000000+m)).bq _=_;rw[hT.1 m,nr.bq (dS.at hT.2 m)];rcases Nat.lt_or_ge m s with z|z
  ·rw[List.getElem?_append_left (by omega),List.getElem?_take_of_lt z]
  rw[List.getElem?_eq_none (by omega),List.getElem?_append_right (by omega),List.getElem?_eq_none (by omega)]
 have ex:cX (r++o9 s 10000000) x=cX r x:=Ov (fun i hi=>OD i hi) x q1.2.2
 rw[eH,ex]at g2
 rw[eH]at g1
 refine hk _ _ _ _ _ _ ⟨x,l1,F1,q5,q2,q3,rfl,rfl⟩ (g1.Az o.dst g2 (ux.at ht)) (fun X hX=>?_)
 rw[<-eH]
 refine g3 X (fun i o' xh j hj=>?_)
 rcases List.mem_append.1 xh with xh|xh
 ·obtain⟨⟨j',z1,_⟩,_⟩:(∃j',rn r i=some j'/\True)/\True:=by
   refine⟨?_,trivial⟩;have:∀(l:List (Nat×AO)),mP r H l->(i,o')∈l->∃j',rn r i=some j'/\True:=by
    intro l;induction l with
    |nil=>intro _ h;cases h
    |cons p l ih=>
     obtain⟨a',b'⟩:=p;intro h hm;rcases List.mem_cons.1 hm with hm|hm
     ·injection hm with hm1 hm2;subst hm1;obtain⟨⟨j',z,_⟩,_⟩:=h;exact⟨j',z,trivial⟩
     exact ih h.2 hm
   exact this ob0 (si.mP h0) xh
  rw[OI i j' z1]at hj
  injection hj with hj
  subst hj
  exact hX _ (List.mem_append_left _ (List.mem_filterMap.2 ⟨_,xh,z1⟩))
 obtain⟨m,hm,rfl⟩:=GS xh
 rw[A8,mV.hU nS m]at hj
 dsimp only at hj
 rw[IW (by omega)]at hj
 injection hj with hj
 subst hj
 exact hX _ (List.mem_append_right _ (List.mem_map.2 ⟨m,by simpa using hm,rfl⟩))
end

inductive kf {α β:Type} (R:α->β->Prop):List α->List β->Prop
 |nil:kf R [] []
 |cons {a:α} {b:β} {l:List α} {m:List β}:R a b->kf R l m->kf R (a::l) (b::m)
theorem kf.len{α β:Type}{R:α->β->Prop}{l:List α}{m:List β}(h:kf R l m):l.length=m.length:=by
 induction h with
 |nil=>rfl
 |cons _ _ ih=>simp[ih]
theorem Eh{α β:Type}{R:α->β->Prop}:∀ {l:List α} {m:List β},l.length=m.length->(∀(i:Nat) (a:α) (b:β),l[i]? = some a->m[i]? = some b->R a b)->kf R l m
 |[],[],_,_=>.nil
 |a::l,b::m,hl,h=>.cons (h 0 a b rfl rfl) (Eh (by simpa using hl) fun i x y V h2=>h (i+1) x y (by simpa using V) (by simpa using h2))
 |[],_::_,hl,_=>by cases hl
 |_::_,[],hl,_=>by cases hl
def vm(H:Nat->AO)(p q:PV):Prop:=p=q\/∃v m e sz rows,p=.v v/\H m=.ai ⟨e,some v⟩ sz rows/\q=.ab e sz rows
section
variable {L:Nat->Prop}{ρ:Nat->Value}{H:Nat->AO}{w:World}
theorem OJ(bY:∀id,∃f,OB L ρ H w (ρ id) f (H id)):∀ {x y:List PV} {c:List Value} {fp:List Nat},kf (vm H) x y->bP w false x c fp->∃bH,bP w false y c bH
 |_,_,c,fp,.nil,h=>⟨fp,h⟩
 |_,_,c,fp,.cons V h2,h=>by
  rw[bP]at h;obtain⟨c,r,f1,f2,rfl,rfl,k1,k2⟩:=h;obtain⟨g2,k3⟩:=OJ bY h2 k2;rcases V with rfl|⟨v,m,e,sz,rows,rfl,hm,rfl⟩
  ·exact⟨f1++g2,by rw[bP];exact⟨c,r,f1,g2,rfl,rfl,k1,k3⟩⟩
  obtain⟨f,ho⟩:=bY m;rw[hm]at ho;obtain⟨g1,k4⟩:=OB.IA ho;have hv:ρ m=v:=by obtain⟨_,_,_,_,_,_,k⟩:=ho;exact k v rfl
  rw[RW]at k1;rw[k1.1,<-hv];exact⟨g1++g2,by rw[bP];exact⟨ρ m,r,g1,g2,rfl,rfl,k4,k3⟩⟩
theorem OK(bY:∀id,∃f,OB L ρ H w (ρ id) f (H id)){sz:Nat}:∀ {x y:List (List PV)} {c:List Value} {fp:List Nat},kf (kf (vm H)) x y->bI w false sz x c fp->∃bH,bI w false sz y c bH
 |_,_,c,fp,.nil,h=>⟨fp,h⟩
 |_,_,c,fp,.cons V h2,h=>by
  rw[bI]at h;obtain⟨hl,c,r,f1,f2,rfl,rfl,k1,k2⟩:=h;obtain⟨g1,k3⟩:=OJ bY V k1;obtain⟨g2,k4⟩:=OK bY h2 k2;exact⟨g1++g2,by rw[bI];exact⟨by rw[<-V.len];exact hl,c,r,g1,g2,rfl,rfl,k3,k4⟩⟩
end
def Reads(H:Nat->AO)(x y:AV):Prop:=∀ {L:Nat->Prop} {ρ:Nat->Value} {w:World} {c:Value},(∀id,∃f,OB L ρ H w (ρ id) f (H id))->RV L ρ H w x c->RV L0 s8 (bx []) w y c
theorem Reads.jB{H:Nat->AO}{x y:AV}(h:jB H x=y):Reads H x y:=fun bY hx=>h▸RV.jB bY x hx
theorem Reads.own{H:Nat->AO}{id:Nat}{t:TypeId}{pt:Option Value}{sz:Nat}{rows oo:List (List PV)}(hH:H id=.ai ⟨t,pt⟩ sz rows)(h:kf (kf (vm H)) rows oo):Reads H (.own id) (.p (.ab t sz oo)):=fun{L ρ w c} bY hx=>by
 rw[RV]at hx;have hc:=hx.2 (by rw[hH];rfl);obtain⟨f,ho⟩:=bY id;rw[hH]at ho;obtain⟨xs,fr,b1,b2,b3,b4,b5⟩:=ho;obtain⟨g,k1⟩:=OK bY h b1;have hr:=OB.IA (L:=L) (ρ:=ρ) (H:=H) (w:=w) (v:=ρ id) (f:=f) (e:=⟨t,pt⟩) (sz:=sz) (rows:=rows) ⟨xs,fr,b1,b2,b3,b4,b5⟩;rw[hc];rw[RV];have hlen:oo.length=rows.length:=h.len.symm;rcases b3.2 with⟨q,q2⟩|⟨gb,cap,cur,q,_,hg,hnc,bC,_⟩
 ·refine⟨[]++g,?_,fun b _=>mh⟩;rw[RW];refine⟨xs,[],g,k1,?_,rfl⟩;unfold iF;simp only[Bool.false_eq_true,if_false];exact⟨none,0,by rw[q,hlen,q2],by omega,by simp[maxLen],.inl ⟨by omega,trivial⟩⟩
 have tc:=b3;rw[q]at tc;refine⟨[gb]++g,?_,fun b _=>mh⟩;rw[RW];refine⟨xs,[gb],g,k1,?_,rfl⟩;unfold iF;simp only[Bool.false_eq_true,if_false];exact⟨_,cap,by rw[q,hlen],by omega,bC,.inr ⟨gb,0,rfl,vl tc,(Array.getElem?_eq_some_iff.1 hg).1,rfl⟩⟩
theorem bf.reads{H:Nat->AO}{L:Nat->Prop}{ρ:Nat->Value}{w:World}(bY:∀id,∃f,OB L ρ H w (ρ id) f (H id)):∀ {l m:List AV} {cs:List Value},kf (Reads H) l m->bf L ρ H w l cs->bf L0 s8 (bx []) w m cs
 |_,_,cs,.nil,h=>by rw[bf]at *;exact h
 |_,_,cs,.cons V h2,h=>by
  rw[bf]at *;obtain⟨c,r,rfl,k1,k2⟩:=h;exact⟨c,r,rfl,V bY k1,bf.reads bY h2 k2⟩
theorem Reads.agg{H:Nat->AO}{l m:List AV}(h:kf (Reads H) l m):Reads H (.agg l) (.agg m):=fun bY hx=>by
 rw[RV]at *;obtain⟨cs,rfl,V⟩:=hx;exact⟨cs,rfl,bf.reads bY h V⟩
section
variable {P:Program}{o:Oper}{N:Nat}{τ:Nat->AV}{H:Nat->AO}
end
theorem dS.gJ{F G:List AO}(h:dS F)(g:dS G):dS (F++G):=fun o ho=>by
 rcases List.mem_append.1 ho with q|q
 ·exact h o q
 exact g o q
theorem ki{H:Nat->AO}{F:List AO}(h:Tl H F:=by repeat (first|exact IN rfl|exact Tl.tl (by first|assumption|exact dS.nil)|refine Tl.cO rfl ?_|refine Tl.aH rfl ?_|refine Tl.bq ?_|refine Tl.call rfl ?_|refine Tl.swap rfl ?_)):Tl H F:=h
def nR(R:AV->List (Nat×AO)->List AO->Prop):AV->List (Nat×AO)->Prop:=fun x bd=>∃l1 F1,(s9 l1&&(l1.all (fun p=>kR p.2)&&ns x))=true/\dS F1/\F1.length<=10000000/\bd=l1++je 1000000 F1/\R x l1 F1
section
variable {P:Program}{L O:Nat->Prop}{w0:World}{N:Nat}{τ:Nat->AV}{H:Nat->AO}{Q:AQ}{c:Code}{ops:Array Oper}{l:List Oper}{F:List AO}
theorem GN.intro{f:FuncId}{fn:Func}{c:Code}{args:List AV}{ob0:List (Nat×AO)}{F0:List AO}{R:AV->List (Nat×AO)->List AO->Prop}{rs:List mQ}(hf:P.funcs[f]? = some fn)(hb:fn.body=some c)(hn:fn.ntmps=N)(hl:args.length<=N)(vD:vH P fn.results.toList rs)(h0:s9 ob0=true)
 (h:∀L O w0,AW P L O w0 N c (AC args) (tl (bx ob0) F0) (yX rs (nR R))):GN P f args ob0 F0 R:=GX.intro hf hb hn hl vD (fun L O w0=>by rw[Gm h0];exact h L O w0)
theorem vW{rs:List mQ}{R:AV->List (Nat×AO)->List AO->Prop}(x:AV)(l1:List (Nat×AO)){F1:List AO}(hR:R x l1 F1)(hM:F1.length<=10000000)(h0:th τ H rs=some x)(V:(s9 l1&&(l1.all (fun p=>kR p.2)&&ns x))=true)(h2:fo l1 H)(h3:Tl H F1):yX rs (nR R) .ret τ H:=
 ⟨x,l1++je 1000000 F1,⟨l1,F1,V,h3.2,hM,rfl,hR⟩,h0,Oq h2 h3.all⟩
end

def lH(vs:List Value)(ps:List dX):List (List PV):=List.zipWith (fun v (p:dX)=>[.v (.int .i64 p.id),.v v]) vs ps
def fZ(vs:List Value)(ps:List dX):List AO:=List.zipWith (fun v (p:dX)=>.ai ⟨167,some v⟩ 3 (ah ct p.lines)) vs ps
theorem zu{vs:List Value}{ps:List dX}(h:vs.length=ps.length):(lH vs ps).length=ps.length:=by unfold lH;rw[List.length_zipWith];omega
theorem OL{vs:List Value}{ps:List dX}(h:vs.length=ps.length):(fZ vs ps).length=ps.length:=by unfold fZ;rw[List.length_zipWith];omega
theorem OM{vs:List Value}{ps:List dX}{u:Value}{p:dX}(h:vs.length=ps.length):lH (vs++[u]) (ps++[p])=lH vs ps++[[.v (.int .i64 p.id),.v u]]:=by unfold lH;rw[List.zipWith_append h];rfl
theorem ON{vs:List Value}{ps:List dX}{u:Value}{p:dX}(h:vs.length=ps.length):fZ (vs++[u]) (ps++[p])=fZ vs ps++[.ai ⟨167,some u⟩ 3 (ah ct p.lines)]:=by unfold fZ;rw[List.zipWith_append h];rfl
theorem zv:∀ {vs:List Value} {ps:List dX},dS (fZ vs ps)
 |[],_=>by unfold fZ;simp;exact dS.nil
 |_::_,[]=>by unfold fZ;simp;exact dS.nil
 |v::vs,p::ps=>fun o ho=>by
  unfold fZ at ho;rw[List.zipWith_cons_cons]at ho;rcases List.mem_cons.1 ho with rfl|ho
  ·rfl
  exact zv (vs:=vs) (ps:=ps) o ho
theorem Yg{vs:List Value}{ps:List dX}{i:Nat}(h:vs.length=ps.length)(hi:i<ps.length):(lH vs ps)[i]? = some [.v (.int .i64 ps[i].id),.v (vs[i]'(by omega))]:=by
 unfold lH;rw[List.getElem?_zipWith,List.getElem?_eq_getElem hi,List.getElem?_eq_getElem (by omega)]
theorem Yh{vs:List Value}{ps:List dX}{i:Nat}(h:vs.length=ps.length)(hi:i<ps.length):(fZ vs ps)[i]? = some (.ai ⟨167,some (vs[i]'(by omega))⟩ 3 (ah ct ps[i].lines)):=by
 unfold fZ;rw[List.getElem?_zipWith,List.getElem?_eq_getElem hi,List.getElem?_eq_getElem (by omega)]
theorem Tk{H:Nat->AO}{F:List AO}(hT:Tl H F){vs:List Value}{ps:List dX}(h:vs.length=ps.length){s:Nat}(hF:∀i,i<ps.length->F[s+i]? = (fZ vs ps)[i]?):kf (kf (vm H)) (lH vs ps) (qI ps):=by
 refine Eh (by rw[zu h,fw]) fun i a b ha hb=>?_;have hi:i<ps.length:=by have:=(List.getElem?_eq_some_iff.1 hb).1;rwa [fw]at this
 rw[Yg h hi]at ha;unfold qI at hb;rw[List.getElem?_map,List.getElem?_eq_getElem hi]at hb;injection ha with ha;injection hb with hb;subst ha hb;refine .cons (.inl rfl) (.cons (.inr ⟨_,1000000+(s+i),_,_,_,rfl,?_,rfl⟩) .nil);rw[hT.1,hF i hi,Yh h hi];rfl

set_option maxHeartbeats 16000000
set_option maxRecDepth 100000
def sB(x:aw)(es:List aV):fg:=if eG x=true then bK x es else ⟨rg,[],[]⟩
theorem OO{x:aw}{es:List aV}(h:eG x=true):sB x es=bK x es:=if_pos h
theorem OP{x:aw}{es:List aV}(h:eG x=false):sB x es=⟨rg,[],[]⟩:=if_neg (by simp[h])
abbrev pR(l:List Int):AO:=.ai 3 1 (ah kt l)
abbrev qx(x:aw):AO:=.box 50 none [int x.tick,int x.next,int x.aA,.own 1,.own 2,.own 3]
abbrev Ag(r:fg)(vs:List Value):List (Nat×AO):=[(1,.ai 159 7 (ah aX r.now.ag)),(2,df r.now.an),(3,d7 r.now.aq),(14,.ai 92 2 (lH vs r.ps)),(15,pR r.jD)]
abbrev CS(r:fg):AV:=.au [.agg [int r.now.tick,int r.now.next,int r.now.aA,.own 1,.own 2,.own 3],.own 14,.own 15]
def GW(r:fg):AV->List (Nat×AO)->List AO->Prop:=fun y l1 F1=>∃vs:List Value,vs.length=r.ps.length/\y=CS r/\l1=Ag r vs/\F1=fZ vs r.ps
theorem Tm(x:aw)(es:List aV)(hw:di x)(we:∀e∈es,l7 e)(hm:es.length<=1048576):GN prog 35 [cj x,.p (.ab 81 7 (ah fR es))] [] ([]) (GW (sB x es)):=by
 refine GN.intro (rs:=[.cell 4 50 (some 6),.tmp 5,.tmp 6]) func35 rfl ntmps35 (Nat.le_of_ble_eq_true rfl) ⟨rfl,rfl,cu,rfl,rfl,trivial⟩ rfl ?_;intro L O w0;refine sL<|ab (zX 2002 Z) Z<|ab (zA 2004 mD Z) Z<|e9 Z<|e9 Z<|Y<|aS<|sL<|aP (.agg [U _ _,U _ _,U _ _,vL _ _ _,vL _ _ _,vL _ _ _]) cu Z<|ab (zL func101 (Do x hw) Z) Z<|bX Z<|Y ?_;refine AW.cond rfl ?_ ?_
 ·intro V;refine sL<|lq (rd (x:=.agg [U _ _,U _ _,U _ _,vV _,vV _,vV _]) (cP Z s6 Z Z Z) Z)<|ab (zB 2004 eu ew Z) Z<|e9 Z<|e9 Z<|Y ?_;refine AW.pi 1 2004 3 159 7 rfl (by decide) rfl ?_;refine AW.pi 2 2004 4 218 7 rfl (by decide) rfl ?_;refine AW.pi 3 2004 5 220 5 rfl (by decide) rfl ?_;refine AW.oP 14 5 92 2 rfl ?_;refine AW.oP 15 6 3 1 rfl ?_;refine aR<|rT ?_;have jr:eG x=false:=by simpa using V
  rw[OP jr];refine vW (F1:=[]) (CS ⟨rg,[],[]⟩) (Ag ⟨rg,[],[]⟩ []) ?_ (by simp) rfl rfl ⟨rfl,rfl,rfl,rfl,rfl,trivial⟩ ki;exact⟨[],rfl,rfl,rfl,rfl⟩
 intro V;refine aK<|gT<|aS ?_;have jr:eG x=true:=by simpa using V
 have fi:=CT jr;have sm:=fi.sm;have yz:=D9 hw we;refine aL<|aP (.agg [U _ _,U _ _,U _ _,vL _ _ _,vL _ _ _,vL _ _ _]) cu Z<|ab (zC [(2005,1),(2009,2),(2013,3)] [1,2,3] [] func56 (KY x (by have:=sm.lc;have:=sm.lh;have:=sm.li;omega)) (trivial) rfl rfl) Z<|ab (zA 2007 mD rfl) rfl ?_;refine xH ([]) [1,4,5,6,7,20] [1,2,3,2002,2004,2007] ?_;refine ab (zB 2007 eu ew Z) Z<|nA<|e9 Z<|Y ?_;refine AW.oP 14 8 92 2 rfl ?_;refine sL<|e9 Z<|Y ?_;refine AW.oP 15 9 3 1 rfl ?_;refine aS<|sL<|bm Z<|ba jZ Z<|ae Z<|Y<|aB ?_;refine E8 (D:=Nat×List Value) [(4,.ptr 2004 _ 0),(5,vV _),(6,vV _),(7,.ptr 2007 _ 0),(8,.own _),(9,.own _),(21,vL _ _ _),(22,U _ _)] [(2002,.box _ _ [U _ _,U _ _,U _ _,vL _ _ _,vL _ _ _,vL _ _ _]),(2004,.box _ _ [U _ _,U _ _,U _ _,vV _,vV _,vV _])] (fun d=>[(23,int (d.1:Int))]) (fun d=>[(2007,qx (bK x (es.take d.1)).now),(1,.ai 159 7 (ah aX (bK x (es.take d.1)).now.ag)),(2,df (bK x (es.take d.1)).now.an),(3,d7 (bK x (es.take d.1)).now.aq),(14,.ai 92 2 (lH d.2 (bK x (es.take d.1)).ps)),(15,pR (bK x (es.take d.1)).jD)]) (fun d=>fZ d.2 (bK x (es.take d.1)).ps) (fun d=>d.1<=es.length/\d.2.length=(bK x (es.take d.1)).ps.length) (fun d=>es.length-d.1) ((0,[])) (⟨Nat.zero_le _,by rw[List.take_zero];rfl⟩) ⟨rfl,trivial⟩ ⟨(by rw[List.take_zero];rfl),(by rw[List.take_zero];rfl),(by rw[List.take_zero];rfl),(by rw[List.take_zero];rfl),(by rw[List.take_zero];rfl),(by rw[List.take_zero];rfl),trivial⟩ ⟨rfl,rfl,rfl,rfl,rfl,rfl,rfl,rfl,trivial⟩ ⟨rfl,rfl,trivial⟩ (by rw[List.take_zero];exact ki) ?_;intro ⟨k,vs⟩ hI;obtain⟨eN,gl⟩:=hI;replace eN:k<=es.length:=eN;replace gl:vs.length=(bK x (es.take k)).ps.length:=gl;have ke:dS (fZ vs (bK x (es.take k)).ps):=zv;refine sL<|ak Z<|Y<|aS ?_;refine AW.cond rfl ?_ ?_
 ·intro h2;refine aK<|gT<|aS<|aB<|sL ?_;have hk:k<es.length:=by simpa[ap]using h2
  have Ac:=yz k eN;have oF:=Ds (x:=x) k eN;have CU:=zU (x:=x) k eN;refine li k jk Z (bS hk)<|d6 (.agg [U _ _,U _ _,U _ _,U _ _,U _ _,U _ _,vB _]) dD Z<|ab (zA 2011 jl Z) Z<|ab (zB 2011 mZ m0 Z) Z<|Y<|aS ?_;refine AW.mU 1 rfl ?_;intro u1;refine AW.mU 2 rfl ?_;intro u2;refine AW.mU 3 rfl ?_;intro u3;refine aL<|aP (.agg [U _ _,U _ _,U _ _,.own _,.own _,.own _]) cu Z<|aP (.agg [U _ _,U _ _,U _ _,U _ _,U _ _,U _ _,vB _]) dD Z ?_;refine ab (zC [(1,1),(2,2),(3,3),(11,61),(12,62),(13,63),(14,64)] [61,62,63,64] [1,2,3] func41 (OQ (Yi _ es[k] Ac)) (⟨stays.ai rfl,stays.ai rfl,stays.ai rfl,trivial⟩) rfl rfl) rfl ?_;refine xH (fZ vs (bK x (es.take k)).ps) [4,5,6,7,8,9,21,22,23,30] [1,2,3,14,15,61,62,63,64,2002,2004,2007,2011] ?_;refine cT (.au [.agg [U _ _,U _ _,U _ _,.own _,.own _,.own _],.agg [U _ _,.own _],U _ _]) Z<|iB (.agg [U _ _,U _ _,U _ _,.own _,.own _,.own _]) Z<|iB (.agg [U _ _,.own _]) Z<|dE Z<|ab (zA 2012 mD rfl) Z<|ab (zA 2013 pC rfl) Z<|ab (zB 2012 eu ew rfl) Z<|ab (zB 2013 na nb rfl) Z<|ao Z<|nA<|bW Z<|ae Z<|ab (zS 2036 (ah kt [dG (bK x (es.take k)).now es[k]]) iU lY rfl) Z<|ab (zP 15 iU lY uy rfl (Src.own rfl rfl) (by simp[ah,zu gl];omega)) Z<|bD Z<|Y<|aS<|sL<|ae Z<|ak Z<|Y ?_;refine AW.cond rfl ?_ ?_
  ·intro h3;refine aE<|eT<|eB<|gT ?_;have cQ:dG (bK x (es.take k)).now es[k]≠0:=by simpa using h3
   refine iQ 1 rfl ?_;refine iQ 2 rfl ?_;refine iQ 3 rfl ?_;refine mi (fZ vs (bK x (es.take k)).ps) [4,5,6,7,8,9,21,22,23] [1,2,3,14,15,2002,2004,2007,2011,2012,2013,2036] ?_;refine aL<|bg Z<|ae Z<|Y ?_;have hn:(kz (bK x (es.take k)) es[k]).now=(bK x (es.take k)).now:=Ol cQ;have hp:(kz (bK x (es.take k)) es[k]).ps=(bK x (es.take k)).ps:=On cQ;refine⟨(k+1,vs),⟨hk,(by rw[fl hk,hp];exact gl)⟩,by show es.length-(k+1)<es.length-k;omega,⟨(iq rfl),trivial⟩,⟨(Eq.trans (congrArg qx hn.symm) (congrArg (fun s:fg=>qx s.now) (fl hk).symm)),(Eq.trans (congrArg (fun b:aw=>AO.ai 159 7 (ah aX b.ag)) hn.symm) (congrArg (fun s:fg=>AO.ai 159 7 (ah aX s.now.ag)) (fl hk).symm)),(Eq.trans (congrArg (fun b:aw=>df b.an) hn.symm) (congrArg (fun s:fg=>df s.now.an) (fl hk).symm)),(Eq.trans (congrArg (fun b:aw=>d7 b.aq) hn.symm) (congrArg (fun s:fg=>d7 s.now.aq) (fl hk).symm)),(Eq.trans (congrArg (fun p=>AO.ai 92 2 (lH vs p)) hp.symm) (congrArg (fun s:fg=>AO.ai 92 2 (lH vs s.ps)) (fl hk).symm)),(Eq.trans (Eq.trans (b:=pR ((bK x (es.take k)).jD++[dG (bK x (es.take k)).now es[k]])) (congrArg (AO.ai 3 1) (fx kt _ [_]).symm) rfl) (congrArg (fun s:fg=>pR s.jD) (fl hk).symm)),trivial⟩,⟨rfl,rfl,rfl,rfl,rfl,rfl,rfl,rfl,trivial⟩,⟨rfl,rfl,trivial⟩,(by rw[fl hk,hp];exact ki)⟩
  intro h3;refine aK<|gA<|aP (.agg [U _ _,U _ _,U _ _,.own _,.own _,.own _]) cu Z<|ab (zB 2007 eu ew Z) Z<|nA<|lf 1 t7 Z<|iO gY Z<|ba hZ Z<|ak Z<|Y ?_;refine AW.cond rfl ?_ ?_
  ·intro h4;refine mi (fZ vs (bK x (es.take k)).ps) [4,5,6,7,8,9,13,21,22,23] [1,2,3,14,15,61,62,63,64,2002,2004,2007,2011,2012,2013,2036] ?_;refine AW.mU 64 rfl ?_;intro u64;refine mi (fZ vs (bK x (es.take k)).ps) [4,5,6,7,8,9,13,21,22,23] [1,2,3,14,15,61,62,63,64,2002,2004,2007,2011,2012,2013,2036] ?_;refine Oz 64 rfl rfl zv ?_;have Yj:dS (fZ vs (bK x (es.take k)).ps++[.ai ⟨167,some u64⟩ 3 (ah ct (dl (bK x (es.take k)).now es[k]).lines)]):=zv.gJ (fun o ho=>by rw[List.mem_singleton.1 ho];rfl);refine aL<|bW Z<|aP (.agg [U _ _,vV _]) ol Z<|ab (zS 2047 [[.v (.int .i64 (dl (bK x (es.take k)).now es[k]).id),.v u64]] vb pC rfl (by intro r hr;simp at hr;subst hr;rfl)) Z<|ab (zP 14 vb pC NC rfl (Src.own rfl rfl) (by simp[ah,zu gl];omega)) Z<|bD Z<|lN<|gB<|gT ?_;have cQ:dG (bK x (es.take k)).now es[k]=0:=by simpa using h3
   refine AW.swap 61 1 ?_;refine mi ((fZ vs (bK x (es.take k)).ps++[.ai ⟨167,some u64⟩ 3 (ah ct (dl (bK x (es.take k)).now es[k]).lines)])) [4,5,6,7,8,9,21,22,23] [1,2,3,14,15,61,62,63,2002,2004,2007,2011,2012,2013,2036,2047] ?_;refine AW.swap 62 2 ?_;refine mi ((fZ vs (bK x (es.take k)).ps++[.ai ⟨167,some u64⟩ 3 (ah ct (dl (bK x (es.take k)).now es[k]).lines)])) [4,5,6,7,8,9,21,22,23] [1,2,3,14,15,61,62,63,2002,2004,2007,2011,2012,2013,2036,2047] ?_;refine AW.swap 63 3 ?_;refine mi ((fZ vs (bK x (es.take k)).ps++[.ai ⟨167,some u64⟩ 3 (ah ct (dl (bK x (es.take k)).now es[k]).lines)])) [4,5,6,7,8,9,21,22,23] [1,2,3,14,15,61,62,63,2002,2004,2007,2011,2012,2013,2036,2047] ?_;refine mi ((fZ vs (bK x (es.take k)).ps++[.ai ⟨167,some u64⟩ 3 (ah ct (dl (bK x (es.take k)).now es[k]).lines)])) [4,5,6,7,8,9,21,22,23] [1,2,3,14,15,2002,2004,2007,2011,2012,2013,2036,2047] ?_;refine aL<|bg Z<|ae Z<|Y ?_;have hn:(kz (bK x (es.take k)) es[k]).now=dp (bK x (es.take k)).now es[k]:=Fk cQ;have dY:(dl (bK x (es.take k)).now es[k]).lines≠[]:=fun q=>by have h:=h4;rw[q]at h;simp[ah]at h
   have hp:(kz (bK x (es.take k)) es[k]).ps=(bK x (es.take k)).ps++[dl (bK x (es.take k)).now es[k]]:=Om cQ dY;refine⟨(k+1,vs++[u64]),⟨hk,(by rw[fl hk,hp];simp;omega)⟩,by show es.length-(k+1)<es.length-k;omega,⟨(iq rfl),trivial⟩,⟨(Eq.trans (congrArg qx hn.symm) (congrArg (fun s:fg=>qx s.now) (fl hk).symm)),(Eq.trans (congrArg (fun b:aw=>AO.ai 159 7 (ah aX b.ag)) hn.symm) (congrArg (fun s:fg=>AO.ai 159 7 (ah aX s.now.ag)) (fl hk).symm)),(Eq.trans (congrArg (fun b:aw=>df b.an) hn.symm) (congrArg (fun s:fg=>df s.now.an) (fl hk).symm)),(Eq.trans (congrArg (fun b:aw=>d7 b.aq) hn.symm) (congrArg (fun s:fg=>d7 s.now.aq) (fl hk).symm)),(Eq.trans (congrArg (AO.ai 92 2) (show _=lH (vs++[u64]) (kz (bK x (es.take k)) es[k]).ps by rw[hp,OM gl])) (congrArg (fun s:fg=>AO.ai 92 2 (lH (vs++[u64]) s.ps)) (fl hk).symm)),(Eq.trans (Eq.trans (b:=pR ((bK x (es.take k)).jD++[dG (bK x (es.take k)).now es[k]])) (congrArg (AO.ai 3 1) (fx kt _ [_]).symm) rfl) (congrArg (fun s:fg=>pR s.jD) (fl hk).symm)),trivial⟩,⟨rfl,rfl,rfl,rfl,rfl,rfl,rfl,rfl,trivial⟩,⟨rfl,rfl,trivial⟩,(by rw[fl hk,hp,ON gl];exact ki)⟩
  intro h4;refine aK<|gB<|gT ?_;have cQ:dG (bK x (es.take k)).now es[k]=0:=by simpa using h3
  refine AW.swap 61 1 ?_;refine mi (fZ vs (bK x (es.take k)).ps) [4,5,6,7,8,9,21,22,23] [1,2,3,14,15,61,62,63,64,2002,2004,2007,2011,2012,2013,2036] ?_;refine AW.swap 62 2 ?_;refine mi (fZ vs (bK x (es.take k)).ps) [4,5,6,7,8,9,21,22,23] [1,2,3,14,15,61,62,63,64,2002,2004,2007,2011,2012,2013,2036] ?_;refine AW.swap 63 3 ?_;refine mi (fZ vs (bK x (es.take k)).ps) [4,5,6,7,8,9,21,22,23] [1,2,3,14,15,61,62,63,64,2002,2004,2007,2011,2012,2013,2036] ?_;refine mi (fZ vs (bK x (es.take k)).ps) [4,5,6,7,8,9,21,22,23] [1,2,3,14,15,2002,2004,2007,2011,2012,2013,2036] ?_;refine aL<|bg Z<|ae Z<|Y ?_;have hn:(kz (bK x (es.take k)) es[k]).now=dp (bK x (es.take k)).now es[k]:=Fk cQ;have dY:(dl (bK x (es.take k)).now es[k]).lines=[]:=List.length_eq_zero_iff.1 (by have h:=h4;simp only[ap,decide_eq_false_iff_not]at h;omega);have hp:(kz (bK x (es.take k)) es[k]).ps=(bK x (es.take k)).ps:=Oo dY;refine⟨(k+1,vs),⟨hk,(by rw[fl hk,hp];exact gl)⟩,by show es.length-(k+1)<es.length-k;omega,⟨(iq rfl),trivial⟩,⟨(Eq.trans (congrArg qx hn.symm) (congrArg (fun s:fg=>qx s.now) (fl hk).symm)),(Eq.trans (congrArg (fun b:aw=>AO.ai 159 7 (ah aX b.ag)) hn.symm) (congrArg (fun s:fg=>AO.ai 159 7 (ah aX s.now.ag)) (fl hk).symm)),(Eq.trans (congrArg (fun b:aw=>df b.an) hn.symm) (congrArg (fun s:fg=>df s.now.an) (fl hk).symm)),(Eq.trans (congrArg (fun b:aw=>d7 b.aq) hn.symm) (congrArg (fun s:fg=>d7 s.now.aq) (fl hk).symm)),(Eq.trans (congrArg (fun p=>AO.ai 92 2 (lH vs p)) hp.symm) (congrArg (fun s:fg=>AO.ai 92 2 (lH vs s.ps)) (fl hk).symm)),(Eq.trans (Eq.trans (b:=pR ((bK x (es.take k)).jD++[dG (bK x (es.take k)).now es[k]])) (congrArg (AO.ai 3 1) (fx kt _ [_]).symm) rfl) (congrArg (fun s:fg=>pR s.jD) (fl hk).symm)),trivial⟩,⟨rfl,rfl,rfl,rfl,rfl,rfl,rfl,rfl,trivial⟩,⟨rfl,rfl,trivial⟩,(by rw[fl hk,hp];exact ki)⟩
 intro h2;refine aE<|eT<|eT<|eB<|gA<|aP (.agg [U _ _,U _ _,U _ _,.own _,.own _,.own _]) cu Z<|bW Z<|bW Z<|ab (zB 2004 eu ew Z) Z<|bD Z<|bD Z<|Y<|aR ?_;have dZ:k=es.length:=by have h:=h2;simp only[ap,decide_eq_false_iff_not]at h;omega
 subst dZ;rw[OO jr];rw[List.take_length]at gl ke;have CU:=zU (x:=x) (es:=es) es.length (Nat.le_refl _);rw[List.take_length]at CU ⊢;refine vW (F1:=(fZ vs (bK x es).ps)) (CS (bK x es)) (Ag (bK x es) vs) ?_ (by rw[OL gl];omega) rfl rfl ⟨rfl,rfl,rfl,rfl,rfl,trivial⟩ ki;exact⟨vs,gl,rfl,rfl,rfl⟩
theorem Tn(x:aw)(es:List aV)(hw:di x)(we:∀e∈es,l7 e)(hm:es.length<=1048576):GN prog 167 [cj x,.p (.ab 81 7 (ah fR es))] [] ([]) (GW (sB x es)):=by
 refine GN.intro (rs:=[.cell 4 50 (some 6),.tmp 5,.tmp 6]) func167 rfl ntmps167 (Nat.le_of_ble_eq_true rfl) ⟨rfl,rfl,cu,rfl,rfl,trivial⟩ rfl ?_;intro L O w0;refine sL<|ab (zX 2002 Z) Z<|ab (zA 2004 mD Z) Z<|e9 Z<|e9 Z<|Y<|aS<|sL<|aP (.agg [U _ _,U _ _,U _ _,vL _ _ _,vL _ _ _,vL _ _ _]) cu Z<|ab (zL func179 (Dn x hw) Z) Z<|bX Z<|Y ?_;refine AW.cond rfl ?_ ?_
 ·intro V;refine sL<|lq (rd (x:=.agg [U _ _,U _ _,U _ _,vV _,vV _,vV _]) (cP Z s6 Z Z Z) Z)<|ab (zB 2004 eu ew Z) Z<|e9 Z<|e9 Z<|Y ?_;refine AW.pi 1 2004 3 159 7 rfl (by decide) rfl ?_;refine AW.pi 2 2004 4 218 7 rfl (by decide) rfl ?_;refine AW.pi 3 2004 5 220 5 rfl (by decide) rfl ?_;refine AW.oP 14 5 92 2 rfl ?_;refine AW.oP 15 6 3 1 rfl ?_;refine aR<|rT ?_;have jr:eG x=false:=by simpa using V
  rw[OP jr];refine vW (F1:=[]) (CS ⟨rg,[],[]⟩) (Ag ⟨rg,[],[]⟩ []) ?_ (by simp) rfl rfl ⟨rfl,rfl,rfl,rfl,rfl,trivial⟩ ki;exact⟨[],rfl,rfl,rfl,rfl⟩
 intro V;refine aK<|gT<|aS ?_;have jr:eG x=true:=by simpa using V
 have fi:=CT jr;have sm:=fi.sm;have yz:=D9 hw we;refine aL<|aP (.agg [U _ _,U _ _,U _ _,vL _ _ _,vL _ _ _,vL _ _ _]) cu Z<|ab (zC [(2003,1),(2008,2),(2013,3)] [1,2,3] [] func132 (OR x (by have:=sm.lc;have:=sm.lh;have:=sm.li;omega)) (trivial) rfl rfl) Z<|ab (zA 2007 mD rfl) rfl ?_;refine xH ([]) [1,4,5,6,7,20] [1,2,3,2002,2004,2007] ?_;refine ab (zB 2007 eu ew rfl) Z<|nA<|ab (zS 14 [] vb pC rfl (by simp)) Z<|bD Z<|nA<|ab (zS 15 [] iU lY rfl (by simp)) Z<|bD Z<|Y<|aS<|sL<|bm Z<|ba jZ Z<|ae Z<|Y<|aB ?_;refine E8 (D:=Nat×List Value) [(4,.ptr 2004 _ 0),(5,vV _),(6,vV _),(7,.ptr 2007 _ 0),(8,.own _),(9,.own _),(23,vL _ _ _),(24,U _ _)] [(2002,.box _ _ [U _ _,U _ _,U _ _,vL _ _ _,vL _ _ _,vL _ _ _]),(2004,.box _ _ [U _ _,U _ _,U _ _,vV _,vV _,vV _])] (fun d=>[(25,int (d.1:Int))]) (fun d=>[(2007,qx (bK x (es.take d.1)).now),(1,.ai 159 7 (ah aX (bK x (es.take d.1)).now.ag)),(2,df (bK x (es.take d.1)).now.an),(3,d7 (bK x (es.take d.1)).now.aq),(14,.ai 92 2 (lH d.2 (bK x (es.take d.1)).ps)),(15,pR (bK x (es.take d.1)).jD)]) (fun d=>fZ d.2 (bK x (es.take d.1)).ps) (fun d=>d.1<=es.length/\d.2.length=(bK x (es.take d.1)).ps.length) (fun d=>es.length-d.1) ((0,[])) (⟨Nat.zero_le _,by rw[List.take_zero];rfl⟩) ⟨rfl,trivial⟩ ⟨(by rw[List.take_zero];rfl),(by rw[List.take_zero];rfl),(by rw[List.take_zero];rfl),(by rw[List.take_zero];rfl),(by rw[List.take_zero];rfl),(by rw[List.take_zero];rfl),trivial⟩ ⟨rfl,rfl,rfl,rfl,rfl,rfl,rfl,rfl,trivial⟩ ⟨rfl,rfl,trivial⟩ (by rw[List.take_zero];exact ki) ?_;intro ⟨k,vs⟩ hI;obtain⟨eN,gl⟩:=hI;replace eN:k<=es.length:=eN;replace gl:vs.length=(bK x (es.take k)).ps.length:=gl;have ke:dS (fZ vs (bK x (es.take k)).ps):=zv;refine sL<|ak Z<|Y<|aS ?_;refine AW.cond rfl ?_ ?_
 ·intro h2;refine aK<|gT<|aS<|aB<|sL ?_;have hk:k<es.length:=by simpa[ap]using h2
  have Ac:=yz k eN;have oF:=Ds (x:=x) k eN;have CU:=zU (x:=x) k eN;refine li k jk Z (bS hk)<|d6 (.agg [U _ _,U _ _,U _ _,U _ _,U _ _,U _ _,vB _]) dD Z<|ab (zA 2011 jl Z) Z<|ab (zB 2011 mZ m0 Z) Z<|Y<|aS ?_;refine AW.mU 1 rfl ?_;intro u1;refine AW.mU 2 rfl ?_;intro u2;refine AW.mU 3 rfl ?_;intro u3;refine aL<|aP (.agg [U _ _,U _ _,U _ _,.own _,.own _,.own _]) cu Z<|aP (.agg [U _ _,U _ _,U _ _,U _ _,U _ _,U _ _,vB _]) dD Z ?_;refine ab (zC [(1,1),(2,2),(3,3),(11,61),(12,62),(13,63),(14,64)] [61,62,63,64] [1,2,3] func107 (OQ (Yk _ es[k] Ac)) (⟨stays.ai rfl,stays.ai rfl,stays.ai rfl,trivial⟩) rfl rfl) rfl ?_;refine xH (fZ vs (bK x (es.take k)).ps) [4,5,6,7,8,9,23,24,25,32] [1,2,3,14,15,61,62,63,64,2002,2004,2007,2011] ?_;refine cT (.au [.agg [U _ _,U _ _,U _ _,.own _,.own _,.own _],.agg [U _ _,.own _],U _ _]) Z<|iB (.agg [U _ _,U _ _,U _ _,.own _,.own _,.own _]) Z<|iB (.agg [U _ _,.own _]) Z<|dE Z<|ab (zA 2012 mD Z) Z<|ab (zA 2013 pC Z) Z<|ab (zB 2012 eu ew Z) Z<|ab (zB 2013 na nb Z) Z<|ao Z<|Y<|aS<|sL<|ae Z<|ak Z<|Y ?_;refine AW.cond rfl ?_ ?_
  ·intro h3;refine sL<|aP (.agg [U _ _,U _ _,U _ _,.own _,.own _,.own _]) cu Z<|ab (zB 2007 eu ew Z) Z<|nA<|lf 0 wN Z<|aj ac Z<|ak Z<|Y ?_;refine AW.cond rfl ?_ ?_
   ·intro h4;refine mi (fZ vs (bK x (es.take k)).ps) [4,5,6,7,8,9,13,14,23,24,25] [1,2,3,14,15,61,62,63,64,2002,2004,2007,2011,2012,2013] ?_;refine AW.mU 64 rfl ?_;intro u64;refine mi (fZ vs (bK x (es.take k)).ps) [4,5,6,7,8,9,13,14,23,24,25] [1,2,3,14,15,61,62,63,64,2002,2004,2007,2011,2012,2013] ?_;refine Oz 64 rfl rfl zv ?_;have Yj:dS (fZ vs (bK x (es.take k)).ps++[.ai ⟨167,some u64⟩ 3 (ah ct (dl (bK x (es.take k)).now es[k]).lines)]):=zv.gJ (fun o ho=>by rw[List.mem_singleton.1 ho];rfl);refine aL<|bW Z<|aP (.agg [U _ _,vV _]) ol Z<|ab (zS 2044 [[.v (.int .i64 (dl (bK x (es.take k)).now es[k]).id),.v u64]] vb pC rfl (by intro r hr;simp at hr;subst hr;rfl)) Z<|ab (zP 14 vb pC NC rfl (Src.own rfl rfl) (by simp[ah,zu gl];omega)) Z<|bD Z<|Y<|aL<|bW Z<|ae Z<|ab (zS 2048 (ah kt [dG (bK x (es.take k)).now es[k]]) iU lY rfl) Z<|ab (zP 15 iU lY uy rfl (Src.own rfl rfl) (by simp[ah,zu gl];omega)) Z<|bD Z<|lN<|gB<|gT ?_;have cQ:dG (bK x (es.take k)).now es[k]=0:=by simpa using h3
    refine AW.swap 61 1 ?_;refine mi ((fZ vs (bK x (es.take k)).ps++[.ai ⟨167,some u64⟩ 3 (ah ct (dl (bK x (es.take k)).now es[k]).lines)])) [4,5,6,7,8,9,23,24,25] [1,2,3,14,15,61,62,63,2002,2004,2007,2011,2012,2013,2044,2048] ?_;refine AW.swap 62 2 ?_;refine mi ((fZ vs (bK x (es.take k)).ps++[.ai ⟨167,some u64⟩ 3 (ah ct (dl (bK x (es.take k)).now es[k]).lines)])) [4,5,6,7,8,9,23,24,25] [1,2,3,14,15,61,62,63,2002,2004,2007,2011,2012,2013,2044,2048] ?_;refine AW.swap 63 3 ?_;refine mi ((fZ vs (bK x (es.take k)).ps++[.ai ⟨167,some u64⟩ 3 (ah ct (dl (bK x (es.take k)).now es[k]).lines)])) [4,5,6,7,8,9,23,24,25] [1,2,3,14,15,61,62,63,2002,2004,2007,2011,2012,2013,2044,2048] ?_;refine mi ((fZ vs (bK x (es.take k)).ps++[.ai ⟨167,some u64⟩ 3 (ah ct (dl (bK x (es.take k)).now es[k]).lines)])) [4,5,6,7,8,9,23,24,25] [1,2,3,14,15,2002,2004,2007,2011,2012,2013,2044,2048] ?_;refine aL<|bg Z<|ae Z<|Y ?_;have hn:(kz (bK x (es.take k)) es[k]).now=dp (bK x (es.take k)).now es[k]:=Fk cQ;have hid:=Ok cQ;have dY:(dl (bK x (es.take k)).now es[k]).lines≠[]:=by have h:=h4;rw[hid]at h;simpa using h
    have hp:(kz (bK x (es.take k)) es[k]).ps=(bK x (es.take k)).ps++[dl (bK x (es.take k)).now es[k]]:=Om cQ dY;refine⟨(k+1,vs++[u64]),⟨hk,(by rw[fl hk,hp];simp;omega)⟩,by show es.length-(k+1)<es.length-k;omega,⟨(iq rfl),trivial⟩,⟨(Eq.trans (congrArg qx hn.symm) (congrArg (fun s:fg=>qx s.now) (fl hk).symm)),(Eq.trans (congrArg (fun b:aw=>AO.ai 159 7 (ah aX b.ag)) hn.symm) (congrArg (fun s:fg=>AO.ai 159 7 (ah aX s.now.ag)) (fl hk).symm)),(Eq.trans (congrArg (fun b:aw=>df b.an) hn.symm) (congrArg (fun s:fg=>df s.now.an) (fl hk).symm)),(Eq.trans (congrArg (fun b:aw=>d7 b.aq) hn.symm) (congrArg (fun s:fg=>d7 s.now.aq) (fl hk).symm)),(Eq.trans (congrArg (AO.ai 92 2) (show _=lH (vs++[u64]) (kz (bK x (es.take k)) es[k]).ps by rw[hp,OM gl])) (congrArg (fun s:fg=>AO.ai 92 2 (lH (vs++[u64]) s.ps)) (fl hk).symm)),(Eq.trans (Eq.trans (b:=pR ((bK x (es.take k)).jD++[dG (bK x (es.take k)).now es[k]])) (congrArg (AO.ai 3 1) (fx kt _ [_]).symm) rfl) (congrArg (fun s:fg=>pR s.jD) (fl hk).symm)),trivial⟩,⟨rfl,rfl,rfl,rfl,rfl,rfl,rfl,rfl,trivial⟩,⟨rfl,rfl,trivial⟩,(by rw[fl hk,hp,ON gl];exact ki)⟩
   intro h4;refine aK<|gT<|aL<|bW Z<|ae Z<|ab (zS 2048 (ah kt [dG (bK x (es.take k)).now es[k]]) iU lY rfl) Z<|ab (zP 15 iU lY uy rfl (Src.own rfl rfl) (by simp[ah,zu gl];omega)) Z<|bD Z<|lN<|gB<|gT ?_;have cQ:dG (bK x (es.take k)).now es[k]=0:=by simpa using h3
   refine AW.swap 61 1 ?_;refine mi (fZ vs (bK x (es.take k)).ps) [4,5,6,7,8,9,23,24,25] [1,2,3,14,15,61,62,63,64,2002,2004,2007,2011,2012,2013,2048] ?_;refine AW.swap 62 2 ?_;refine mi (fZ vs (bK x (es.take k)).ps) [4,5,6,7,8,9,23,24,25] [1,2,3,14,15,61,62,63,64,2002,2004,2007,2011,2012,2013,2048] ?_;refine AW.swap 63 3 ?_;refine mi (fZ vs (bK x (es.take k)).ps) [4,5,6,7,8,9,23,24,25] [1,2,3,14,15,61,62,63,64,2002,2004,2007,2011,2012,2013,2048] ?_;refine mi (fZ vs (bK x (es.take k)).ps) [4,5,6,7,8,9,23,24,25] [1,2,3,14,15,2002,2004,2007,2011,2012,2013,2048] ?_;refine aL<|bg Z<|ae Z<|Y ?_;have hn:(kz (bK x (es.take k)) es[k]).now=dp (bK x (es.take k)).now es[k]:=Fk cQ;have hid:=Ok cQ;have dY:(dl (bK x (es.take k)).now es[k]).lines=[]:=by have h:=h4;rw[hid]at h;simpa using h
   have hp:(kz (bK x (es.take k)) es[k]).ps=(bK x (es.take k)).ps:=Oo dY;refine⟨(k+1,vs),⟨hk,(by rw[fl hk,hp];exact gl)⟩,by show es.length-(k+1)<es.length-k;omega,⟨(iq rfl),trivial⟩,⟨(Eq.trans (congrArg qx hn.symm) (congrArg (fun s:fg=>qx s.now) (fl hk).symm)),(Eq.trans (congrArg (fun b:aw=>AO.ai 159 7 (ah aX b.ag)) hn.symm) (congrArg (fun s:fg=>AO.ai 159 7 (ah aX s.now.ag)) (fl hk).symm)),(Eq.trans (congrArg (fun b:aw=>df b.an) hn.symm) (congrArg (fun s:fg=>df s.now.an) (fl hk).symm)),(Eq.trans (congrArg (fun b:aw=>d7 b.aq) hn.symm) (congrArg (fun s:fg=>d7 s.now.aq) (fl hk).symm)),(Eq.trans (congrArg (fun p=>AO.ai 92 2 (lH vs p)) hp.symm) (congrArg (fun s:fg=>AO.ai 92 2 (lH vs s.ps)) (fl hk).symm)),(Eq.trans (Eq.trans (b:=pR ((bK x (es.take k)).jD++[dG (bK x (es.take k)).now es[k]])) (congrArg (AO.ai 3 1) (fx kt _ [_]).symm) rfl) (congrArg (fun s:fg=>pR s.jD) (fl hk).symm)),trivial⟩,⟨rfl,rfl,rfl,rfl,rfl,rfl,rfl,rfl,trivial⟩,⟨rfl,rfl,trivial⟩,(by rw[fl hk,hp];exact ki)⟩
  intro h3;refine aK<|gT<|aL<|bW Z<|ae Z<|ab (zS 2048 (ah kt [dG (bK x (es.take k)).now es[k]]) iU lY rfl) Z<|ab (zP 15 iU lY uy rfl (Src.own rfl rfl) (by simp[ah,zu gl];omega)) Z<|bD Z<|lN<|gB<|gT ?_;have cQ:dG (bK x (es.take k)).now es[k]≠0:=by simpa using h3
  refine iQ 1 rfl ?_;refine iQ 2 rfl ?_;refine iQ 3 rfl ?_;refine mi (fZ vs (bK x (es.take k)).ps) [4,5,6,7,8,9,23,24,25] [1,2,3,14,15,2002,2004,2007,2011,2012,2013,2048] ?_;refine aL<|bg Z<|ae Z<|Y ?_;have hn:(kz (bK x (es.take k)) es[k]).now=(bK x (es.take k)).now:=Ol cQ;have hp:(kz (bK x (es.take k)) es[k]).ps=(bK x (es.take k)).ps:=On cQ;refine⟨(k+1,vs),⟨hk,(by rw[fl hk,hp];exact gl)⟩,by show es.length-(k+1)<es.length-k;omega,⟨(iq rfl),trivial⟩,⟨(Eq.trans (congrArg qx hn.symm) (congrArg (fun s:fg=>qx s.now) (fl hk).symm)),(Eq.trans (congrArg (fun b:aw=>AO.ai 159 7 (ah aX b.ag)) hn.symm) (congrArg (fun s:fg=>AO.ai 159 7 (ah aX s.now.ag)) (fl hk).symm)),(Eq.trans (congrArg (fun b:aw=>df b.an) hn.symm) (congrArg (fun s:fg=>df s.now.an) (fl hk).symm)),(Eq.trans (congrArg (fun b:aw=>d7 b.aq) hn.symm) (congrArg (fun s:fg=>d7 s.now.aq) (fl hk).symm)),(Eq.trans (congrArg (fun p=>AO.ai 92 2 (lH vs p)) hp.symm) (congrArg (fun s:fg=>AO.ai 92 2 (lH vs s.ps)) (fl hk).symm)),(Eq.trans (Eq.trans (b:=pR ((bK x (es.take k)).jD++[dG (bK x (es.take k)).now es[k]])) (congrArg (AO.ai 3 1) (fx kt _ [_]).symm) rfl) (congrArg (fun s:fg=>pR s.jD) (fl hk).symm)),trivial⟩,⟨rfl,rfl,rfl,rfl,rfl,rfl,rfl,rfl,trivial⟩,⟨rfl,rfl,trivial⟩,(by rw[fl hk,hp];exact ki)⟩
 intro h2;refine aE<|eT<|eT<|eB<|gA<|aP (.agg [U _ _,U _ _,U _ _,.own _,.own _,.own _]) cu Z<|bW Z<|bW Z<|ab (zB 2004 eu ew Z) Z<|bD Z<|bD Z<|Y<|aR ?_;have dZ:k=es.length:=by have h:=h2;simp only[ap,decide_eq_false_iff_not]at h;omega
 subst dZ;rw[OO jr];rw[List.take_length]at gl ke;have CU:=zU (x:=x) (es:=es) es.length (Nat.le_refl _);rw[List.take_length]at CU ⊢;refine vW (F1:=(fZ vs (bK x es).ps)) (CS (bK x es)) (Ag (bK x es) vs) ?_ (by rw[OL gl];omega) rfl rfl ⟨rfl,rfl,rfl,rfl,rfl,trivial⟩ ki;exact⟨vs,gl,rfl,rfl,rfl⟩

def eY(n:Int):Prop:=0<=n/\n<=1125899906842624
def ed(l:List be)(ch:Int):Prop:=∃c∈l,c.id=ch
structure IX(c:be):Prop where
 id:1<=c.id/\c.id<=99
 loc:eY c.loc
 aC:eY c.aC
 base:eY c.base
 br:0<=c.br/\c.br<=1000000
 cM:-100<=c.cM/\c.cM<=100
 size:eY c.size
structure xu(l:List be)(h:eV):Prop where
 gh:eY h.cW
 out:1<=h.c9/\h.c9<=h.cW
 jP:eY h.jP
 ne:h.gh≠h.out
 ti:ed l h.gh
 to:ed l h.out
structure xw(l:List be)(h:gz):Prop where
 af:1<=h.af/\h.af<=1125899906842624
 ay:eY h.ay
 ne:h.fI≠h.to
 ti:ed l h.fI
 to:ed l h.to
structure hD(x:aw):Prop where
 tick:eY x.tick
 aA:eY x.aA
 next:1<=x.next/\x.next<=1125899906842624
 lc:x.ag.length<=20
 lh:x.an.length<=60
 li:x.aq.length<=20
 hs:∀h∈x.an,xu x.ag h
 cs:∀h∈x.aq,xw x.ag h
 kr:∀k∈dN x,1<=k/\k<=1000000
 kn:(dN x).Pairwise (·≠·)
 gS:x.ag.Pairwise fun a b=>a.id<b.id
 ch:∀c∈x.ag,IX c
 sum:∀c∈x.ag,c.size=c.loc+c.aC+fB x c.id+jh x c.id
theorem MV{l:List be}{ch:Int}:0<=eS l ch↔ed l ch:=by
 constructor
 ·intro h;obtain⟨i,c,_,q,_,r⟩:=p9 h;exact⟨c,dB q,r⟩
 rintro⟨c,hc,rfl⟩;rcases jt l c.id with⟨q,_⟩|⟨i,d,q,_⟩
 ·exact absurd rfl (zY q c hc)
 omega
theorem A9{l:List be}{a b:Int}:two l a b=true↔a≠b/\ed l a/\ed l b:=by
 unfold two;simp only[Bool.and_eq_true,Bool.not_eq_true',beq_eq_false_iff_ne,decide_eq_true_eq,MV];constructor
 ·rintro⟨⟨V,h2⟩,h3⟩;exact⟨V,h2,h3⟩
 rintro⟨V,h2,h3⟩;exact⟨⟨V,h2⟩,h3⟩
theorem OS{ks:List Int}:wj ks=true↔(∀k∈ks,1<=k/\k<=1000000)/\ks.Pairwise (·≠·):=by
 constructor
 ·intro h;refine⟨fun k hk=>?_,OT h⟩;obtain⟨j,hj,rfl⟩:=List.getElem_of_mem hk;have:=List.all_eq_true.1 h j (by simpa using hj);unfold kV at this;rw[Bool.and_eq_true]at this;have V:=this.1;rw[List.getD_eq_getElem?_getD,List.getElem?_eq_getElem hj]at V;exact cJ.1 V
 rintro⟨V,h2⟩;refine IY fun j hj=>?_;unfold kV;rw[Bool.and_eq_true,List.getD_eq_getElem?_getD,List.getElem?_eq_getElem hj];refine⟨cJ.2 (V _ (List.getElem_mem hj)),?_⟩;unfold wm;simp only[Option.getD_some,Bool.not_eq_true',List.any_eq_false,beq_iff_eq];intro y hy e;obtain⟨i,hi,rfl⟩:=List.getElem_of_mem hy;rw[List.length_take]at hi;rw[List.getElem_take]at e;exact List.pairwise_iff_getElem.1 h2 i j (by omega) hj (by omega) e
theorem OU{c:be}:pS c=true↔IX c:=by
 constructor
 ·intro h;obtain⟨V,h2,h3,h4,h5,h6,h7⟩:=IZ h;exact⟨V,h2,h3,h4,h5,h6,h7⟩
 rintro⟨V,h2,h3,h4,h5,h6,h7⟩;unfold pS gf xQ;simp only[Bool.and_eq_true,cY,cJ];exact⟨⟨⟨⟨⟨⟨V,h2⟩,h3⟩,h4⟩,h5⟩,h6⟩,h7⟩
theorem mX{x:aw}(h:eG x=true):hD x:=by
 obtain⟨V,h2,h3,h4,h5,h6⟩:=xO h;obtain⟨p1,p2,p3,p4,p5⟩:=CV h5;obtain⟨k1,k2⟩:=OS.1 p5;refine⟨cY.1 V,cY.1 h2,cJ.1 h3,h4,p1,p2,fun y hy=>?_,fun y hy=>?_,k1,k2,?_,fun c hc=>OU.1 (Fq h6 hc).1,fun c hc=>?_⟩
 ·obtain⟨q1,q2,q3,q4,q5⟩:=xR.1 (p3 y hy);obtain⟨r1,r2,r3⟩:=A9.1 q5;exact⟨cY.1 q1,⟨q2,q3⟩,cY.1 q4,r1,r2,r3⟩
 ·obtain⟨q1,q2,q3,q5⟩:=wn.1 (p4 y hy);obtain⟨r1,r2,r3⟩:=A9.1 q5;exact⟨⟨q2,(cY.1 q1).2⟩,cY.1 q3,r1,r2,r3⟩
 ·rw[List.pairwise_iff_getElem];intro i j hi hj gF;exact I0 (fun k hk=>(I1 h6 hk).2.1) j i hj gF
 have:=(Fq h6 hc).2;unfold ss at this;exact beq_iff_eq.1 this
theorem MG{x:aw}(b:hD x):eG x=true:=by
 unfold eG kW;simp only[Bool.and_eq_true,cY,cJ,decide_eq_true_eq,List.all_eq_true];refine⟨⟨⟨⟨⟨b.tick,b.aA⟩,b.next⟩,b.lc⟩,⟨⟨⟨b.lh,b.li⟩,fun y hy=>?_⟩,fun y hy=>?_⟩,OS.2 ⟨b.kr,b.kn⟩⟩,I2 fun j hj=>?_⟩
 ·have q:=b.hs y hy;exact xR.2 ⟨cY.2 q.gh,q.out.1,q.out.2,cY.2 q.jP,A9.2 ⟨q.ne,q.ti,q.to⟩⟩
 ·have q:=b.cs y hy;have:=q.af;exact wn.2 ⟨cY.2 ⟨by omega,q.af.2⟩,q.af.1,cY.2 q.ay,A9.2 ⟨q.ne,q.ti,q.to⟩⟩
 unfold n5;rw[List.getElem?_eq_getElem hj];dsimp only;have hm:=List.getElem_mem hj;rw[Bool.and_eq_true,Bool.and_eq_true];refine⟨⟨OU.2 (b.ch _ hm),?_⟩,?_⟩
 ·unfold su;cases j with
  |zero=>rfl
  |succ j=>
   dsimp only;rw[List.getElem?_eq_getElem (by omega:j<x.ag.length),List.getElem?_eq_getElem hj];simpa using List.pairwise_iff_getElem.1 b.gS j (j+1) (by omega) hj (by omega)
 unfold ss;exact beq_iff_eq.2 (b.sum _ hm)

theorem jT{α:Type}(f:α->Int)(x:α)(l:List α):bG f (x::l)=f x+bG f l:=by unfold bG;rw[List.map_cons,List.sum_cons]
theorem zc{α:Type}(f:α->Int)(l:List α)(x:α):bG f (l++[x])=bG f l+f x:=by unfold bG;rw[List.map_append,List.sum_append];simp
theorem HS{α β:Type}{f:α->Int}{g:β->Int}{m:α->β}{l:List α}(h:∀x∈l,g (m x)=f x):bG g (l.map m)=bG f l:=by
 unfold bG;rw[List.map_map];congr 1;exact List.map_congr_left h
theorem vM{α:Type}{f:α->Int}{l:List α}(h:∀x∈l,f x=0):bG f l=0:=by
 induction l with
 |nil=>rfl
 |cons a l ih=>rw[jT,h a (by simp),ih (fun x hx=>h x (by simp[hx]))];rfl
theorem AH{α:Type}{g:α->Int}{f:α->Int}{l:List α}(jU:l.Pairwise fun a b=>g a≠g b){h:α}(hm:h∈l):bG f (l.filter fun d=>!(g d==g h))+f h=bG f l:=by
 induction l with
 |nil=>cases hm
 |cons a l ih=>
  rw[List.pairwise_cons]at jU;rcases List.mem_cons.1 hm with rfl|Ex
  ·have e:l.filter (fun d=>!(g d==g h))=l:=List.filter_eq_self.2 fun d hd=>by
    have:=jU.1 d hd;simp;exact fun q=>this q.symm
   rw[List.filter_cons_of_neg (by simp),e,jT];omega
  have:=jU.1 h Ex;rw[List.filter_cons_of_pos (by simpa using this),jT,jT];have:=ih jU.2 Ex;omega
theorem tn{l:List be}{a ch:Int}{f:be->be}(hf:∀c,(f c).id=c.id)(h:ed l ch):ed (cC l a f) ch:=by
 obtain⟨c,hc,rfl⟩:=h;refine⟨_,List.mem_map_of_mem hc,?_⟩;split<;>simp[hf]
theorem vJ{l:List be}{a:Int}{f:be->be}(hf:∀c,(f c).id=c.id)(h:l.Pairwise fun a b=>a.id<b.id):(cC l a f).Pairwise fun a b=>a.id<b.id:=by
 unfold cC;rw[List.pairwise_map];refine h.imp fun{c d} q=>?_;have e:∀c:be,(if c.id=a then f c else c).id=c.id:=fun c=>by split<;>simp[hf]
 rw[e,e];exact q
theorem Cs{l:List be}{a:Int}{f:be->be}{c:be}(h:c∈cC l a f):∃d∈l,c=if d.id=a then f d else d:=by
 unfold cC at h;obtain⟨d,hd,rfl⟩:=List.mem_map.1 h;exact⟨d,hd,rfl⟩
theorem hD.UB{x:aw}(b:hD x){n:Int}(hn:1<=n/\n<=1125899906842624):hD { x with next:=n }:=⟨b.tick,b.aA,hn,b.lc,b.lh,b.li,b.hs,b.cs,b.kr,b.kn,b.gS,b.ch,b.sum⟩
theorem hD.Yl{x:aw}(b:hD x){n:Int}(hn:eY n):hD { x with aA:=n }:=⟨b.tick,hn,b.next,b.lc,b.lh,b.li,b.hs,b.cs,b.kr,b.kn,b.gS,b.ch,b.sum⟩
theorem hD.parts{x y:aw}(b:hD x)(ht:eY y.tick)(hw:eY y.aA)(hn:y.next=x.next)(lc:y.ag.length<=20)(lh:y.an.length<=60)(li:y.aq.length<=20)(hs:∀h∈y.an,xu y.ag h)(cs:∀h∈y.aq,xw y.ag h)(kr:∀k∈dN y,1<=k/\k<=1000000)(kn:(dN y).Pairwise (·≠·))
 (gS:y.ag.Pairwise fun a b=>a.id<b.id) (ch:∀c∈y.ag,IX c) (sum:∀c∈y.ag,c.size=c.loc+c.aC+fB y c.id+jh y c.id):hD y:=⟨ht,hw,hn▸b.next,lc,lh,li,hs,cs,kr,kn,gS,ch,sum⟩
theorem xu.ag{l l':List be}{h:eV}(q:xu l h)(k:∀ch,ed l ch->ed l' ch):xu l' h:=⟨q.gh,q.out,q.jP,q.ne,k _ q.ti,k _ q.to⟩
theorem xw.ag{l l':List be}{h:gz}(q:xw l h)(k:∀ch,ed l ch->ed l' ch):xw l' h:=⟨q.af,q.ay,q.ne,k _ q.ti,k _ q.to⟩
theorem Uv{x:aw}{e:aV}(b:hD x)(ho:d8 x e=false)(hk:e.kind=1)(ha:0<=e.af):hD (zb x e).b:=by
 refine b.Yl ?_;have hw:=b.aA;unfold d8 at ho;by_cases hn:x.next=1125899906842624
 ·rw[if_pos hn]at ho;cases ho
 rw[if_neg hn,if_pos hk]at ho;simp only[decide_eq_false_iff_not]at ho;unfold eY at *;omega
theorem Cp(t:Int)(c:be):(l8 t c).id=c.id:=by unfold l8;split<;>rfl
theorem Uz{x:aw}(b:hD x)(ho:x.tick≠1125899906842624):hD (p' x).b:=by
 have ht:=b.tick;have key:∀ch,ed x.ag ch->ed (x.ag.map (l8 x.tick)) ch:=fun ch ⟨c,hc,q⟩=>⟨_,List.mem_map_of_mem hc,by rw[Cp,q]⟩;have o1:∀ch,bG (dK ch) (x.an.map kx)=bG (dK ch) x.an:=fun ch=>HS fun h _=>rfl;have o2:∀ch,bG (gx ch) (x.an.map kx)=bG (gx ch) x.an:=fun ch=>HS fun h _=>rfl;have jF:dN (p' x).b=dN x:=by
  unfold dN p';dsimp only;rw[List.map_map];rfl
 refine b.parts ?_ b.aA rfl ?_ ?_ b.li ?_ (fun h hh=>(b.cs h hh).ag key) ?_ ?_ ?_ ?_ ?_
 ·show eY (x.tick+1);unfold eY at *;omega
 ·show (x.ag.map _).length<=_;rw[List.length_map];exact b.lc
 ·show (x.an.map _).length<=_;rw[List.length_map];exact b.lh
 ·intro h hh;obtain⟨d,hd,rfl⟩:=List.mem_map.1 hh;have q:=(b.hs d hd).ag key;refine⟨q.gh,q.out,?_,q.ne,q.ti,q.to⟩;have:=q.jP;unfold kx eY at *;dsimp only;omega
 ·rw[jF];exact b.kr
 ·rw[jF];exact b.kn
 ·show (x.ag.map _).Pairwise _;rw[List.pairwise_map];exact b.gS.imp fun{c d} q=>by rw[Cp,Cp];exact q
 ·intro c hc;obtain⟨d,hd,rfl⟩:=List.mem_map.1 hc;have q:=b.ch d hd;unfold l8;split
  ·exact⟨q.id,q.loc,q.aC,q.base,q.br,OV _,q.size⟩
  exact q
 intro c hc;obtain⟨d,hd,rfl⟩:=List.mem_map.1 hc;have q:=b.sum d hd;have e:∀ch,fB (p' x).b ch=fB x ch/\jh (p' x).b ch=jh x ch:=fun ch=>by
  unfold fB jh p';exact⟨by rw[<-o1],by rw[<-o2]⟩
 rw[Cp,(e d.id).1,(e d.id).2];unfold l8;split<;>exact q
theorem Ux{x:aw}{e:aV}(b:hD x)(ha:eY e.af)(hf:0<=e.ay/\e.ay<=1000000):hD (ou x e).b:=by
 unfold ou;split
 ·exact b
 have I3:∀c:be,({ c with base:=e.af,br:=e.ay }:be).id=c.id:=fun _=>rfl;refine b.parts b.tick b.aA rfl (by show (cC _ _ _).length<=_;rw[sh];exact b.lc) b.lh b.li (fun h hh=>(b.hs h hh).ag fun ch q=>tn I3 q) (fun h hh=>(b.cs h hh).ag fun ch q=>tn I3 q) b.kr b.kn (vJ I3 b.gS) (fun c hc=>?_) (fun c hc=>?_)
 ·obtain⟨d,hd,rfl⟩:=Cs hc;have q:=b.ch d hd;split
  ·exact⟨q.id,q.loc,q.aC,ha,hf,q.cM,q.size⟩
  exact q
 obtain⟨d,hd,rfl⟩:=Cs hc;have q:=b.sum d hd;split<;>exact q
theorem Ym{l:List be}{c d:be}(h:d∈l\/d=c):d∈ly l c:=by
 unfold ly;simp only[List.mem_append,List.mem_singleton];rcases h with h|h
 ·have:=List.take_append_drop (lV l c.id) l;rw[<-this,List.mem_append]at h;rcases h with h|h
  ·exact .inl (.inl h)
  exact .inr h
 exact .inl (.inr h)
theorem Yn{l:List be}{c:be}(h:l.Pairwise fun a b=>a.id<b.id)(hn:∀d∈l,d.id≠c.id):(ly l c).Pairwise fun a b=>a.id<b.id:=by
 have hp:lV l c.id<=l.length:=List.findIdx_le_length;have V:∀d∈l.take (lV l c.id),d.id<c.id:=fun d hd=>by
  obtain⟨i,hi,rfl⟩:=List.getElem_of_mem hd;rw[List.length_take]at hi;rw[List.getElem_take];have:=List.not_of_lt_findIdx (p:=fun d:be=>!decide (d.id<c.id)) (xs:=l) (i:=i) (by unfold lV at hi;omega);simpa using this
 have h2:∀d∈l.drop (lV l c.id),c.id<d.id:=fun d hd=>by
  obtain⟨i,hi,rfl⟩:=List.getElem_of_mem hd;rw[List.length_drop]at hi;rw[List.getElem_drop];have eI:lV l c.id<l.length:=by omega
  have q0:¬l[lV l c.id].id<c.id:=by
   have:=List.findIdx_getElem (xs:=l) (p:=fun d:be=>!decide (d.id<c.id)) (w:=eI);intro r;rw[show (l[List.findIdx (fun d:be=>!decide (d.id<c.id)) l]'eI)=l[lV l c.id]from rfl]at this;simp[r]at this
  have q1:=hn _ (List.getElem_mem eI);rcases Nat.eq_zero_or_pos i with r|r
  ·subst r;simp only[Nat.add_zero];omega
  have:=List.pairwise_iff_getElem.1 h (lV l c.id) (lV l c.id+i) eI (by omega) (by omega);omega
 unfold ly;rw[List.pairwise_append,List.pairwise_append];refine⟨⟨h.sublist (List.take_sublist _ _),List.pairwise_singleton _ _,fun a ha d hd=>?_⟩,h.sublist (List.drop_sublist _ _),fun a ha d hd=>?_⟩
 ·rw[List.mem_singleton]at hd;subst hd;exact V a ha
 rw[List.mem_append,List.mem_singleton]at ha;rcases ha with ha|rfl
 ·have:=V a ha;have:=h2 d hd;omega
 exact h2 d hd
theorem hD.none{x:aw}(b:hD x){ch:Int}(h:¬ed x.ag ch):fB x ch=0/\jh x ch=0:=by
 unfold fB jh;rw[vM fun y hy=>?_,vM fun y hy=>?_,vM fun y hy=>?_,vM fun y hy=>?_]
 ·exact⟨rfl,rfl⟩
 ·unfold ix;split
  ·rename_i q;exact absurd (q▸(b.cs y hy).to) h
  rfl
 ·unfold gx;split
  ·rename_i q;exact absurd (q▸(b.hs y hy).ti) h
  rfl
 ·unfold eR;split
  ·rename_i q;exact absurd (q▸(b.cs y hy).ti) h
  rfl
 unfold dK;split
 ·rename_i q;exact absurd (q▸(b.hs y hy).to) h
 rfl
theorem Uw{x:aw}{e:aV}(b:hD x)(mq:e.af+e.ay<=1125899906842624)(ha:0<=e.af)(hf:0<=e.ay)(hid:1<=e.ch/\e.ch<=99)(hc:gO x e=0):hD (sJ x e).b:=by
 rw[tK hc];have iY:=zY (DB hc);have EK:¬ed x.ag e.ch:=fun⟨c,q1,q2⟩=>iY c q1 q2;have oF:¬(20:Int)<=(x.ag.length:Int):=fun q=>by
  unfold gO at hc;rw[decide_eq_true q,Bool.or_true]at hc;exact dI (mp (by decide)) hc
 have vX:¬x.aA<e.af:=fun q=>by
  unfold gO at hc;rw[decide_eq_true q]at hc;exact mp (by decide) hc
 have hw:=b.aA;have key:∀ch,ed x.ag ch->ed (ly x.ag (jc e)) ch:=fun ch ⟨c,q1,q2⟩=>⟨c,Ym (.inl q1),q2⟩;refine b.parts b.tick ?_ rfl ?_ b.lh b.li (fun h hh=>(b.hs h hh).ag key) (fun h hh=>(b.cs h hh).ag key) b.kr b.kn (Yn b.gS iY) (fun c hc=>?_) (fun c hc=>?_)
 ·show eY (x.aA-e.af);unfold eY at *;omega
 ·show (ly x.ag _).length<=_;rw[OW];omega
 ·rcases EP hc with q|rfl
  ·exact b.ch c q
  exact⟨hid,⟨ha,by dsimp only;omega⟩,⟨hf,by dsimp only;omega⟩,⟨Int.le_refl _,by dsimp only;omega⟩,⟨Int.le_refl _,by dsimp only;omega⟩,⟨by dsimp only;omega,by dsimp only;omega⟩,⟨by dsimp only;omega,mq⟩⟩
 rcases EP hc with q|rfl
 ·exact b.sum c q
 obtain⟨q1,q2⟩:=b.none EK;show e.af+e.ay=e.af+e.ay+fB x e.ch+jh x e.ch;rw[q1,q2];omega

theorem ky{b:Bool}{c k:Int}(hk:k≠0)(h:bE b c k=0):c=0/\b=false:=by
 unfold bE at h;split at h
 ·exact absurd h hk
 rename_i q;subst h;exact⟨rfl,by simpa using q⟩
theorem Fr{l:List be}(ha:l.Pairwise fun a b=>a.id<b.id){d:be}(hd:d∈l):fz l d.id=d:=by
 rcases jt l d.id with⟨q,_⟩|⟨i,c,q1,q2,q3,q4⟩
 ·exact absurd rfl (zY q d hd)
 rw[q3];have hp:l.Pairwise fun a b=>a.id≠b.id:=ha.imp fun h=>by omega
 obtain⟨j,hj,e⟩:=List.getElem_of_mem hd;have:i=j:=OX (g:=fun c=>c.id) hp q2 (by rw[List.getElem?_eq_getElem hj,e]) q4;subst this;rw[List.getElem?_eq_getElem hj,e]at q2;injection q2 with q2;exact q2.symm
theorem OY{x:aw}{k:Int}(h:nD x k=false):∀y∈dN x,k≠y:=fun y hy e=>by
 have:=any_keys x k;rw[h]at this;unfold wH at this;unfold dN at hy;have:=List.any_eq_false.1 this y hy;simp[e]at this
theorem xx{l:List be}{a b:Int}{f g:be->be}(hf:∀c,(f c).id=c.id)(kN:a≠b){c:be}(h:c∈cC (cC l a f) b g):∃d∈l,(d.id=a/\c=f d)\/(d.id=b/\c=g d)\/(d.id≠a/\d.id≠b/\c=d):=by
 obtain⟨d',I4,rfl⟩:=Cs h;obtain⟨d,hd,rfl⟩:=Cs I4;refine⟨d,hd,?_⟩;by_cases q1:d.id=a
 ·rw[if_pos q1,if_neg (by rw[hf];omega)];exact .inl ⟨q1,rfl⟩
 rw[if_neg q1];by_cases q2:d.id=b
 ·rw[if_pos q2];exact .inr (.inl ⟨q2,rfl⟩)
 rw[if_neg q2];exact .inr (.inr ⟨q1,q2,rfl⟩)
theorem Uy{x:aw}{e:aV}(b:hD x)(bO:e.ch≠e.to)(AP:1<=e.key/\e.key<=1000000)(ha:1<=e.af)(hc:gg x e=0):hD (sP x e).b:=by
 rw[sR hc];have V:dz x e=0:=by
  by_cases q:dz x e=0
  ·exact q
  rw[jx q]at hc;exact hc
 unfold dz at V;obtain⟨h2,g1⟩:=ky (by decide) V;obtain⟨h3,g2⟩:=ky (by decide) h2;obtain⟨h4,g3⟩:=ky (by decide) h3;unfold im at h4;rw[p8 bO]at h4;obtain⟨h5,g4⟩:=ky (by decide) h4;obtain⟨h6,g5⟩:=ky (by decide) h5;obtain⟨_,g6⟩:=ky (by decide) h6;have I5:two x.ag e.ch e.to=true:=by simpa using g5
 obtain⟨_,t1,t2⟩:=A9.1 I5;simp only[decide_eq_false_iff_not]at g1 g2 g4;unfold gZ at g3;rw[Bool.or_eq_false_iff,Bool.not_eq_false',Bool.not_eq_false']at g3;have hs:cn x e=e.af+kG (fz x.ag e.to).base (fz x.ag e.to).br e.af:=ye g3.2;have g9:=g3.2;unfold gI at g9;simp only[Bool.and_eq_true,cY]at g9;have mq:eY (cn x e)/\e.af<=cn x e:=by rw[hs];unfold eY;omega
 have f1:∀c:be,({ c with aC:=c.aC-cn x e }:be).id=c.id:=fun _=>rfl;have f2:∀c:be,({ c with loc:=c.loc-e.af }:be).id=c.id:=fun _=>rfl;have key:∀ch,ed x.ag ch->ed (mI x e).b.ag ch:=fun ch q=>tn f2 (tn f1 q);have ho:∀ch,fB (mI x e).b ch=fB x ch+(if e.to=ch then e.af else 0):=fun ch=>by
  unfold fB mI;dsimp only;rw[zc];unfold dK;dsimp only;omega
 have hi:∀ch,jh (mI x e).b ch=jh x ch+(if e.ch=ch then cn x e else 0):=fun ch=>by
  unfold jh mI;dsimp only;rw[zc];unfold gx;dsimp only;omega
 have yF:=OY g6;have jF:(dN (mI x e).b).Perm (e.key::dN x):=by
  unfold dN mI;dsimp only;rw[List.map_append,List.append_assoc];exact List.perm_middle
 refine b.parts b.tick b.aA rfl ?_ ?_ b.li (fun h hh=>?_) (fun h hh=>(b.cs h hh).ag key) (fun k hk=>?_) ?_ (vJ f2 (vJ f1 b.gS)) (fun c hc=>?_) (fun c hc=>?_)
 ·show (cC (cC _ _ _) _ _).length<=_;rw[sh,sh];exact b.lc
 ·show (x.an++[_]).length<=_;simp;omega
 ·rcases List.mem_append.1 hh with hh|hh
  ·exact(b.hs h hh).ag key
  rw[List.mem_singleton]at hh;subst hh;exact⟨mq.1,⟨ha,mq.2⟩,⟨Int.le_refl _,by dsimp only;omega⟩,bO,key _ t1,key _ t2⟩
 ·rcases List.mem_cons.1 (jF.mem_iff.1 hk)with rfl|hk
  ·exact AP
  exact b.kr k hk
 ·exact(List.Perm.pairwise_iff (fun h=>Ne.symm h) jF).2 (List.pairwise_cons.2 ⟨yF,b.kn⟩)
 ·obtain⟨d,hd,q|q|q⟩:=xx f1 bO hc
  ·have k:=b.ch d hd;have e1:=Fr b.gS hd;rw[q.1]at e1;rw[e1]at g2;have:=k.aC;rw[q.2];refine⟨k.id,k.loc,?_,k.base,k.br,k.cM,k.size⟩;have:=mq.1;unfold eY at *;dsimp only;omega
  ·have k:=b.ch d hd;have e1:=Fr b.gS hd;rw[q.1]at e1;rw[e1]at g1;have:=k.loc;rw[q.2];refine⟨k.id,?_,k.aC,k.base,k.br,k.cM,k.size⟩;unfold eY at *;dsimp only;omega
  rw[q.2.2];exact b.ch d hd
 obtain⟨d,hd,q|q|q⟩:=xx f1 bO hc
 ·have k:=b.sum d hd;rw[q.2];dsimp only;rw[ho,hi,if_neg (by omega),if_pos q.1.symm];omega
 ·have k:=b.sum d hd;rw[q.2];dsimp only;rw[ho,hi,if_pos q.1.symm,if_neg (by omega)];omega
 have k:=b.sum d hd;rw[q.2.2,ho,hi,if_neg (fun r=>q.2.1 r.symm),if_neg (fun r=>q.1 r.symm)];omega
theorem UA{x:aw}{e:aV}(b:hD x)(bO:e.ch≠e.to)(AP:1<=e.key/\e.key<=1000000)(ha:1<=e.af)(hc:fL x e=0):hD (sS x e).b:=by
 rw[uZ hc];unfold fL at hc;obtain⟨h2,g1⟩:=ky (by decide) hc;obtain⟨h3,g2⟩:=ky (by decide) h2;obtain⟨h4,g3⟩:=ky (by decide) h3;unfold kv at h4;rw[p8 bO]at h4;obtain⟨h5,g4⟩:=ky (by decide) h4;obtain⟨h6,g5⟩:=ky (by decide) h5;obtain⟨_,g6⟩:=ky (by decide) h6;have I5:two x.ag e.ch e.to=true:=by simpa using g5
 obtain⟨_,t1,t2⟩:=A9.1 I5;simp only[decide_eq_false_iff_not]at g1 g2 g4;have CW:gI e.af e.ay=true:=by simpa using g3
 have hs:=ye CW;unfold gI at CW;simp only[Bool.and_eq_true,cY]at CW;rw[hs]at g2;have f1:∀c:be,({ c with loc:=c.loc-eM e.af e.ay }:be).id=c.id:=fun _=>rfl;have f2:∀c:be,({ c with aC:=c.aC-e.af }:be).id=c.id:=fun _=>rfl;have key:∀ch,ed x.ag ch->ed (oH x e).b.ag ch:=fun ch q=>tn f2 (tn f1 q);have ho:∀ch,fB (oH x e).b ch=fB x ch+(if e.ch=ch then e.af+e.ay else 0):=fun ch=>by
  unfold fB oH;dsimp only;rw[zc];unfold eR;dsimp only;omega
 have hi:∀ch,jh (oH x e).b ch=jh x ch+(if e.to=ch then e.af else 0):=fun ch=>by
  unfold jh oH;dsimp only;rw[zc];unfold ix;dsimp only;omega
 have yF:=OY g6;have jF:(dN (oH x e).b).Perm (e.key::dN x):=by
  unfold dN oH;dsimp only;rw[List.map_append,<-List.append_assoc];exact List.perm_append_singleton _ _
 refine b.parts b.tick b.aA rfl ?_ b.lh ?_ (fun h hh=>(b.hs h hh).ag key) (fun h hh=>?_) (fun k hk=>?_) ?_ (vJ f2 (vJ f1 b.gS)) (fun c hc=>?_) (fun c hc=>?_)
 ·show (cC (cC _ _ _) _ _).length<=_;rw[sh,sh];exact b.lc
 ·show (x.aq++[_]).length<=_;simp;omega
 ·rcases List.mem_append.1 hh with hh|hh
  ·exact(b.cs h hh).ag key
  rw[List.mem_singleton]at hh;subst hh;exact⟨⟨ha,by dsimp only;omega⟩,⟨CW.1.2.1,CW.1.2.2⟩,bO,key _ t1,key _ t2⟩
 ·rcases List.mem_cons.1 (jF.mem_iff.1 hk)with rfl|hk
  ·exact AP
  exact b.kr k hk
 ·exact(List.Perm.pairwise_iff (fun h=>Ne.symm h) jF).2 (List.pairwise_cons.2 ⟨yF,b.kn⟩)
 ·obtain⟨d,hd,q|q|q⟩:=xx f1 bO hc
  ·have k:=b.ch d hd;have e1:=Fr b.gS hd;rw[q.1]at e1;rw[e1]at g2;have:=k.loc;rw[q.2];refine⟨k.id,?_,k.aC,k.base,k.br,k.cM,k.size⟩;unfold eY at *;dsimp only;rw[hs];omega
  ·have k:=b.ch d hd;have e1:=Fr b.gS hd;rw[q.1]at e1;rw[e1]at g1;have:=k.aC;rw[q.2];refine⟨k.id,k.loc,?_,k.base,k.br,k.cM,k.size⟩;unfold eY at *;dsimp only;omega
  rw[q.2.2];exact b.ch d hd
 obtain⟨d,hd,q|q|q⟩:=xx f1 bO hc
 ·have k:=b.sum d hd;rw[q.2];dsimp only;rw[ho,hi,if_pos q.1.symm,if_neg (by omega),hs];omega
 ·have k:=b.sum d hd;rw[q.2];dsimp only;rw[ho,hi,if_neg (by omega),if_pos q.1.symm];omega
 have k:=b.sum d hd;rw[q.2.2,ho,hi,if_neg (fun r=>q.1 r.symm),if_neg (fun r=>q.2.1 r.symm)];omega
end Go.Proofs.YtflhgkmhmcfimaaGreat

