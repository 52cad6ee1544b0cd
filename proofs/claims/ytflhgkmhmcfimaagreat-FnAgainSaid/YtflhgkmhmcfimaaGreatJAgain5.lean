/- Texts of the proof of FnFnAgain, joined: E22, E23, E24, E25, E26, E27, Fil, E28, E29, E30, LogD, ET. -/
import Derived.Test.YtflhgkmhmcfimaaGreatJAgain4
import Derived.Test.YtflhgkmhmcfimaaGreatJAgain3
import Derived.Laws.BytesArg
import Derived.Laws.Strings
import Derived.Test.YtflhgkmhmcfimaaGreatQNum
namespace Go.Proofs.YtflhgkmhmcfimaaGreat
set_option maxRecDepth 100000
open Tryz
open Go.RowKit
set_option linter.unusedSimpArgs false
set_option linter.unusedVariables false
mutual
def ns:AV->Bool
 |.own id=>Nat.blt id 1000000
 |.sub id _ _=>Nat.blt id 1000000
 |.ptr id _ _=>Nat.blt id 1000000
 |.agg cs=>km cs
 |.au cs=>km cs
 |.fQ _ f cs=>km f&&km cs
 |_=>true
def km:List AV->Bool
 |[]=>true
 |x::xs=>ns x&&km xs
end
def kR:AO->Bool
 |.box _ _ cells=>km cells
 |_=>true
def tw{α:Type}(k k':Nat->α):Prop:=∀i,i<1000000->k i=k' i
mutual
theorem Ou{k k':Nat->Bool}(h:tw k k'):∀x,ns x=true->bq k x=bq k' x
 |.own id,q=>by rw[bq,bq,h id (Nat.le_of_ble_eq_true q)]
 |.sub id off len,q=>by rw[bq,bq,h id (Nat.le_of_ble_eq_true q)]
 |.ptr id r c,q=>by rw[bq,bq,h id (Nat.le_of_ble_eq_true q)]
 |.agg cs,q=>by rw[bq,bq,A6 h cs q]
 |.au cs,q=>by rw[bq,bq,A6 h cs q]
 |.fQ fn f cs,q=>by
  have q':km f=true/\km cs=true:=by rw[<-Bool.and_eq_true];exact q
  rw[bq,bq,A6 h f q'.1,A6 h cs q'.2]
 |.p _,_=>by simp[bq]
 |.rp _,_=>by simp[bq]
 |.dead,_=>by simp[bq]
 |.bad,_=>by simp[bq]
theorem A6{k k':Nat->Bool}(h:tw k k'):∀l,km l=true->iA k l=iA k' l
 |[],_=>rfl
 |x::xs,q=>by
  have q':ns x=true/\km xs=true:=by rw[<-Bool.and_eq_true];exact q
  rw[iA,iA,Ou h x q'.1,A6 h xs q'.2]
end
theorem kR.bq{k k':Nat->Bool}(h:tw k k'){o:AO}(q:kR o=true):o.bq k=o.bq k':=by
 cases o with
 |box T p cells=>show AO.box T p _=AO.box T p _;rw[A6 h cells q]
 |_=>rfl
mutual
theorem Ov{r r':List (Nat×Nat)}(h:tw (rn r) (rn r')):∀x,ns x=true->cX r x=cX r' x
 |.own id,q=>by rw[cX,cX,h id (Nat.le_of_ble_eq_true q)]
 |.sub id off len,q=>by rw[cX,cX,h id (Nat.le_of_ble_eq_true q)]
 |.ptr id i c,q=>by rw[cX,cX,h id (Nat.le_of_ble_eq_true q)]
 |.agg cs,q=>by rw[cX,cX,zt h cs q]
 |.au cs,q=>by rw[cX,cX,zt h cs q]
 |.fQ fn f cs,q=>by
  have q':km f=true/\km cs=true:=by rw[<-Bool.and_eq_true];exact q
  rw[cX,cX,zt h f q'.1,zt h cs q'.2]
 |.p _,_=>by simp[cX]
 |.rp _,_=>by simp[cX]
 |.dead,_=>by simp[cX]
 |.bad,_=>by simp[cX]
theorem zt{r r':List (Nat×Nat)}(h:tw (rn r) (rn r')):∀l,km l=true->kU r l=kU r' l
 |[],_=>rfl
 |x::xs,q=>by
  have q':ns x=true/\km xs=true:=by rw[<-Bool.and_eq_true];exact q
  rw[kU,kU,Ov h x q'.1,zt h xs q'.2]
end
theorem kR.cX{r r':List (Nat×Nat)}(h:tw (rn r) (rn r')){o:AO}(q:kR o=true):o.cX r=o.cX r':=by
 cases o with
 |box T p cells=>show AO.box T p _=AO.box T p _;rw[zt h cells q]
 |_=>rfl
section
variable {P:Program}{L O:Nat->Prop}{w0:World}{N:Nat}{τ τ':Nat->AV}{H H':Nat->AO}{Q:AQ}{c:Code}{F:List AO}
theorem RR.plain{ρ:Nat->Value}{fp:Nat->List Nat}{a:Act}{w:World}(h:RR L O w0 N τ H ρ fp a w)(id:Nat){e:TypeId}{u:Value}{sz:Nat}{rows:List (List PV)}(hH:H id=.ai ⟨e,some u⟩ sz rows) :
 RR L O w0 N (fun t=>cO id (.v u) (τ t)) (fun j=>(H j).cO id (.v u)) ρ fp a w:=by
 have bY:=h.ob id
 rw[hH]at bY
 obtain⟨xs,fr,b1,b2,b3,b4,b5⟩:=bY
 have hu:ρ id=u:=b5 u rfl
 have V:(ρ id).oneCell'=true:=by rcases b3.2 with⟨q,_⟩|⟨g,cap,cur,q,_⟩<;>rw[q]<;>rfl
 have re:∀b,live L ρ (fun j=>(H j).cO id (.v u)) b->live L ρ H b:=by
  rintro b (hl|⟨j,q1,q2⟩)
  ·exact .inl hl
  exact .inr ⟨j,by grind[A4],q2⟩
 have R:Fb id (.v u) L ρ H (fun j=>(H j).cO id (.v u)) w:=⟨fun b hn hl=>hn (re b hl),fun j _ hh=>by
  grind[A4,NZ,N0],by rw[hH];rfl,by grind[fX]⟩
 refine⟨h.jp,h.size,h.defers,fun t=>RV.cO R _ (h.tm t),fun j=>?_,h.dj,h.own,h.lo⟩
 have:=h.ob j
 show OB _ _ _ _ _ _ ((H j).cO id (.v u))
 cases hj:H j with
 |box T p cells=>
  rw[hj]at this
  obtain⟨ys,V,h2,h3,h4,h5⟩:=this
  exact⟨ys,bf.cO R cells V,Iv _ _ cells h2,by grind[Fa],h4,h5⟩
 |ai e' s' r'=>
  rw[hj]at this
  obtain⟨ys,tp,V,h2,h3,h4⟩:=this
  exact⟨ys,tp,V,fun b hb=>R.live b (h2 b hb),h3,h4⟩
 |gone=>rw[hj]at this;exact this
theorem XY{k:List Nat}{v:List AV}(h:km v=true):∀t,ns (eh .bad k v t)=true:=by
 induction k generalizing v with
 |nil=>intro t;rfl
 |cons s k ih=>
  cases v with
  |nil=>intro t;rfl
  |cons x v=>
   intro t;have q':ns x=true/\km v=true:=by rw[<-Bool.and_eq_true];exact h
   grind[eh]
theorem XZ{k:List Nat}{v:List AO}(h:v.all kR=true):∀t,kR (eh .gone k v t)=true:=by
 induction k generalizing v with
 |nil=>intro t;rfl
 |cons s k ih=>
  cases v with
  |nil=>intro t;rfl
  |cons x v=>
   intro t;rw[List.all_cons,Bool.and_eq_true]at h;grind[eh]
mutual
theorem Ow(id:Nat)(y:PV):∀x,ns x=true->ns (cO id y x)=true
 |.own j,q=>by rw[cO];split<;>first|rfl|exact q
 |.sub j _ _,q=>by rw[cO];split<;>first|rfl|exact q
 |.ptr j _ _,q=>by rw[cO];split<;>first|rfl|exact q
 |.agg cs,q=>by rw[cO];exact A7 id y cs q
 |.au cs,q=>by rw[cO];exact A7 id y cs q
 |.fQ fn f cs,q=>by
  have q':km f=true/\km cs=true:=by rw[<-Bool.and_eq_true];exact q
  rw[cO];show (km _&&km _)=true;rw[A7 id y f q'.1,A7 id y cs q'.2];rfl
 |.p _,_=>by simp[cO,ns]
 |.rp _,_=>by simp[cO,ns]
 |.dead,_=>by simp[cO,ns]
 |.bad,_=>by simp[cO,ns]
theorem A7(id:Nat)(y:PV):∀l,km l=true->km (qv id y l)=true
 |[],_=>rfl
 |x::xs,q=>by
  have q':ns x=true/\km xs=true:=by rw[<-Bool.and_eq_true];exact q
  show (ns _&&km _)=true;rw[Ow id y x q'.1,A7 id y xs q'.2];rfl
end
theorem X0(id:Nat)(y:PV){o:AO}(q:kR o=true):kR (o.cO id y)=true:=by
 cases o with
 |box T p cells=>exact A7 id y cells q
 |_=>rfl
theorem RR.X2(j m:Nat){k i:List Nat}{v:List AV}{b:List AO}{e:TypeId}{u:Value}{sz:Nat}{rows:List (List PV)}{F':List AO}{ρ:Nat->Value}{fp:Nat->List Nat}{a:Act}{w:World}(hr:RR L O w0 N (eh .bad k v) (tl (eh .gone i b) F) ρ fp a w)(hj:(eh .gone i b j,Nat.blt j 1000000)=(.ai ⟨e,some u⟩ sz rows,true))(hl:(km v&&b.all kR)=true)(hF:dS F)
 (hm:(F[m]?).getD .gone=.gone) (X3:∀x,(F'[x]?).getD .gone=if x=m then .ai ⟨e,some u⟩ sz rows else (F[x]?).getD .gone) :
 ∃ρ fp,RR L O w0 N (fun t=>cO j (.v u) (eh .bad k v t)) (tl (aH (fun x=>(eh .gone i b x).cO j (.v u)) j .gone) F') ρ fp a w:=by
 rw[Bool.and_eq_true]at hl
 have Ox:eh .gone i b j=.ai ⟨e,some u⟩ sz rows:=congrArg (·.1) hj
 have Eg:j<1000000:=Nat.le_of_ble_eq_true (congrArg (·.2) hj)
 have V:=hr.plain j (e:=e) (u:=u) (sz:=sz) (rows:=rows) (by rw[uI Eg];exact Ox)
 have e0:(fun x=>(tl (eh .gone i b) F x).cO j (.v u))=tl (fun x=>(eh .gone i b x).cO j (.v u)) F:=funext fun x=>by
  rcases yM x with q|⟨m,rfl⟩
  ·rw[uI q,uI q]
  rw[uJ,uJ];exact nr.cO (dS.at hF m)
 rw[e0]at V
 have CQ:tl (fun x=>(eh .gone i b x).cO j (.v u)) F (1000000+m)=.gone:=by rw[uJ];exact hm
 have EB:tl (fun x=>(eh .gone i b x).cO j (.v u)) F j=.ai ⟨e,some u⟩ sz rows:=by rw[uI Eg,Ox];rfl
 have h2:=V.rename (i:=j) (j:=1000000+m) x_2 CQ (by rw[EB];rfl) (cK (1000000+m)) (by simp[cK])
 have Oy:tw (cK (1000000+m)) kT:=fun x hx=>by unfold cK kT;simp;omega
 have e1:(fun t=>bq (cK (1000000+m)) (cO j (.v u) (eh .bad k v t)))=fun t=>cO j (.v u) (eh .bad k v t):=funext fun t=>by
  rw[Ou Oy _ (Ow _ _ _ (XY hl.1 t)),mf]
 have e2:aH (aH (fun x=>(tl (fun x=>(eh .gone i b x).cO j (.v u)) F x).bq (cK (1000000+m))) j .gone) (1000000+m) (tl (fun x=>(eh .gone i b x).cO j (.v u)) F j)=tl (aH (fun x=>(eh .gone i b x).cO j (.v u)) j .gone) F':=funext fun x=>by
  rw[EB];rcases yM x with q|⟨y,rfl⟩
  ·rw[eX _ _ x_2,uI q];by_cases xj:x=j
   ·subst xj;rw[dV,dV]
   rw[eX _ _ xj,eX _ _ xj];show (tl _ F x).bq _=_;rw[uI q,kR.bq Oy (X0 _ _ (XZ hl.2 x)),AO.mf]
  rw[uJ,X3 y];by_cases hy:y=m
  ·subst hy;rw[dV,if_pos rfl]
  rw[eX _ _ x_2,eX _ _ x_2,if_neg hy];show (tl _ F (1000000+y)).bq _=_;rw[uJ,nr.bq (dS.at hF y)]
 grind
theorem Oz(j:Nat){k i:List Nat}{v:List AV}{b:List AO}{e:TypeId}{u:Value}{sz:Nat}{rows:List (List PV)}(hj:(eh .gone i b j,Nat.blt j 1000000)=(.ai ⟨e,some u⟩ sz rows,true))(hl:(km v&&b.all kR)=true)(hF:dS F)
 (hK:AW P L O w0 N c (fun t=>cO j (.v u) (eh .bad k v t)) (tl (aH (fun x=>(eh .gone i b x).cO j (.v u)) j .gone) (F++[.ai ⟨e,some u⟩ sz rows])) Q):AW P L O w0 N c (eh .bad k v) (tl (eh .gone i b) F) Q:=fun ρ fp a w hr=>by
 obtain⟨ci,bH,h⟩:=hr.X2 j F.length (F':=F++[.ai ⟨e,some u⟩ sz rows]) hj hl hF x_19 (fun x=>by
  grind)
 exact hK ci bH a w h
end
def o9(s M:Nat):List (Nat×Nat):=(List.range M).map fun i=>(1000000+i,1000000+s+i)
theorem A8{r r':List (Nat×Nat)}{i:Nat}:rn (r++r') i=match rn r i with|some j=>some j|none=>rn r' i:=by
 induction r with
 |nil=>rfl
 |cons p r ih=>
  obtain⟨a,b⟩:=p;show (if i=a then some b else rn (r++r') i)=match (if i=a then some b else rn r i)with|some j=>some j|none=>rn r' i
  grind
theorem OA{r r':List (Nat×Nat)}:sw (r++r')=sw r++sw r':=List.map_append
theorem IV{s M:Nat}:((o9 s M).map Prod.fst).Nodup:=by
 grind[o9,List.nodup_range]
theorem OC{s M:Nat}:((o9 s M).map Prod.snd).Nodup:=by
 unfold o9;rw[List.map_map];exact List.pairwise_map.2 (List.Pairwise.imp (fun{a b} (h:a≠b)=>fun q=>h (by simp_all)) List.nodup_range)
theorem IW{s M i:Nat}(h:i<M):rn (o9 s M) (1000000+i)=some (1000000+s+i):=Ez IV (List.mem_map.2 ⟨i,by grind,rfl⟩)
theorem X4{s M i:Nat}(h:i<1000000):rn (o9 s M) i=none:=CR fun p hp=>by
 obtain⟨j,_,rfl⟩:=List.mem_map.1 hp;omega
theorem X5{s M i:Nat}(h:i<1000000):rn (sw (o9 s M)) i=none:=CR fun p hp=>by
 unfold sw at hp;obtain⟨q,hq,rfl⟩:=List.mem_map.1 hp;obtain⟨j,_,rfl⟩:=List.mem_map.1 hq;omega
theorem OD{r:List (Nat×Nat)}{s M:Nat}:tw (rn (r++o9 s M)) (rn r):=fun i hi=>by
 grind[A8,X4]
theorem Fm{r:List (Nat×Nat)}{s M:Nat}:tw (rn (sw (r++o9 s M))) (rn (sw r)):=fun i hi=>by
 grind[OA,A8,X5]
theorem X6{r:List (Nat×Nat)}{s M:Nat}(hr:mV r=true)(h:(r.map Prod.fst).Nodup):((r++o9 s M).map Prod.fst).Nodup:=by
 rw[List.map_append];refine List.nodup_append.2 ⟨h,IV,fun a ha b hb kN=>?_⟩;obtain⟨p,hp,rfl⟩:=List.mem_map.1 ha;obtain⟨q,hq,rfl⟩:=List.mem_map.1 hb;obtain⟨j,_,rfl⟩:=List.mem_map.1 hq;grind[mV.at]
theorem X7{r:List (Nat×Nat)}{s M:Nat}(hr:mV r=true)(h:(r.map Prod.snd).Nodup):((r++o9 s M).map Prod.snd).Nodup:=by
 rw[List.map_append];refine List.nodup_append.2 ⟨h,OC,fun a ha b hb kN=>?_⟩;obtain⟨p,hp,rfl⟩:=List.mem_map.1 ha;obtain⟨q,hq,rfl⟩:=List.mem_map.1 hb;obtain⟨j,_,rfl⟩:=List.mem_map.1 hq;grind[mV.at]
theorem X8{r:List (Nat×Nat)}{s M m:Nat}(hr:mV r=true):rn (sw (r++o9 s M)) (1000000+m)=if s<=m/\m-s<M then some (1000000+(m-s))else none:=by
 rw[OA,A8,mV.hi hr m];dsimp only;split
 ·rename_i q;have V:=IW (s:=s) q.2;rw[Ms IV OC]at V;grind
 rename_i q;refine CR fun p hp=>?_;unfold sw at hp;obtain⟨x,hx,rfl⟩:=List.mem_map.1 hp;obtain⟨j,hj,rfl⟩:=List.mem_map.1 hx;grind
def GN(P:Program)(f:FuncId)(args:List AV)(ob0:List (Nat×AO))(F0:List AO)(R:AV->List (Nat×AO)->List AO->Prop):Prop:=
 GX P f args (ob0++je 1000000 F0) fun x bd=>∃l1 F1,(s9 l1&&(l1.all (fun p=>kR p.2)&&ns x))=true/\dS F1/\F1.length<=10000000/\bd=l1++je 1000000 F1/\R x l1 F1
def xP(kl:List Nat):Nat->Bool:=fun j=>kh kl j||Nat.ble 1000000 j
theorem X9{l:List (Nat×AO)}(h:(l.all fun p=>kR p.2)=true)(i:Nat):kR (bx l i)=true:=by
 induction l with
 |nil=>rfl
 |cons p l ih=>
  obtain⟨a,o⟩:=p;rw[List.all_cons,Bool.and_eq_true]at h;grind[bx]
theorem Ya{kl:List Nat}:tw (xP kl) (kh kl):=fun i hi=>by
 unfold xP;have:Nat.ble 1000000 i=false:=by
  cases e:Nat.ble 1000000 i with
  |false=>rfl
  |true=>have:=Nat.le_of_ble_eq_true e;omega
 grind
theorem OE{ob0 l1:List (Nat×AO)}{F0 F1:List AO}:∀ {pl:List Nat},pl.all (fun i=>Nat.blt i 1000000)=true->pins ob0 l1 pl->pins (ob0++je 1000000 F0) (l1++je 1000000 F1) pl
 |[],_,_=>trivial
 |i::pl,hs,h=>by
  rw[List.all_cons,Bool.and_eq_true]at hs;refine⟨?_,OE hs.2 h.2⟩;rw[yN (Nat.le_of_ble_eq_true hs.1),yN (Nat.le_of_ble_eq_true hs.1)];exact h.1
theorem OF{r:List (Nat×Nat)}{H:Nat->AO}:∀ {l m:List (Nat×AO)},mP r H l->mP r H m->mP r H (l++m)
 |[],m,_,h=>h
 |(i,o)::l,m,V,h=>⟨V.1,OF V.2 h⟩
theorem OG{r:List (Nat×Nat)}{H:Nat->AO}:∀ {F:List AO} {n:Nat},(∀i,i<F.length->∃j,rn r (n+i)=some j/\(H j).cX (sw r)=(F[i]?).getD .gone)->mP r H (je n F)
 |[],n,_=>trivial
 |o::F,n,h=>⟨by have:=h 0 x_19;grind,OG fun i hi=>by
  have:=h (i+1) x_74;grind⟩
theorem OH{r r':List (Nat×Nat)}{H:Nat->AO}(V:∀i j,rn r i=some j->rn r' i=some j)(h2:tw (rn (sw r)) (rn (sw r')))(h3:∀i j,rn r i=some j->kR (H j)=true):∀ {l:List (Nat×AO)},mP r H l->mP r' H l
 |[],_=>trivial
 |(i,o)::l,h=>by
  obtain⟨⟨j,q1,q2⟩,q3⟩:=h;exact⟨⟨j,V i j q1,by rw[<-q2];exact(kR.cX h2 (h3 i j q1)).symm⟩,OH V h2 h3 q3⟩
theorem GS:∀ {F:List AO} {n i:Nat} {o:AO},(i,o)∈je n F->∃m,m<F.length/\i=n+m
 |[],n,i,o,h=>by cases h
 |x::F,n,i,o,h=>by
  rcases List.mem_cons.1 h with h|h
  ·simp_all
  obtain⟨m,q1,q2⟩:=GS h;exact⟨m+1,by grind,by omega⟩
section
variable {P:Program}{o:Oper}{N:Nat}{τ:Nat->AV}{H:Nat->AO}{F:List AO}
theorem A2(r:List (Nat×Nat))(kl pl:List Nat)(s:Nat){y:Operand}{l:List Operand}{ts:Array TypeId}{f:FuncId}{fn:Func}{fs mv args:List AV}{ob0:List (Nat×AO)}{F0 Fp:List AO}{R:AV->List (Nat×AO)->List AO->Prop}(hf:P.funcs[f]? = some fn)(hc:GN P f args ob0 F0 R)(hT:Tl H F)(e0:F.drop s=F0)(e1:F.take s=Fp)(hs:s<=F.length)(hM:F.length<=10000000)(hp:∀x l1 F1,R x l1 F1->pins ob0 l1 pl)
 (h : (o.op,ux o.dst N,ev τ y,(fn.name == "runtime.NumGoroutine"),fn.body.isNone,kU (sw r) (fs ++ l.map (ev τ) ++ mv),km (fs ++ l.map (ev τ) ++ mv),r.all (fun p => kR (H p.2))) = (.call { callee := .value y,args := l.toArray,argTypes := ts },true,.fQ (.func f) fs mv,false,false,args,true,true)) (h0 : si r H ob0 = zh ob0)
 (hr:(tg (r.map Prod.fst)&&(tg (r.map Prod.snd)&&(xg r kl pl&&(mV r&&pl.all (fun i=>Nat.blt i 1000000)))))=true:=by decide) :
 wW P o N τ H (AB r ob0++(List.range F0.length).map fun i=>1000000+s+i) fun τ' H'=>∃x l1 F1,R x l1 F1/\dS F1/\F1.length<=10000000/\τ'=mb (fun t=>bq (xP kl) (τ t)) o.dst (cX r x)/\H'=tl (mg r (xP kl) l1 H) (Fp++F1):=by
 subst e0 e1
 simp only[Prod.mk.injEq]at h
 obtain⟨ho,ht,hy,vG,nX,ha,gH,Yb⟩:=h
 simp only[Bool.and_eq_true]at hr
 obtain⟨qY,lD,BT,nS,Yc⟩:=hr
 have Yd:=X6 (s:=s) (M:=10000000) nS (Cl qY)
 have Ye:=X7 (s:=s) (M:=10000000) nS (Cl lD)
 have hlen:(F.drop s).length<=10000000:=by simp;omega
 have OI:∀i j,rn r i=some j->rn (r++o9 s 10000000) i=some j:=fun i j q=>by rw[A8,q]
 have Yf:∀i j,rn r i=some j->kR (H j)=true:=fun i j q=>List.all_eq_true.1 Yb _ (AA q)
 refine⟨?_⟩
 intro L O w0 ρ fp a w K Q bV hk
 have ey:=bV.ev y
 rw[hy,RV]at ey
 obtain⟨cf,cc,ey,e1,e2⟩:=ey
 have hv:bf L ρ H w (fs++l.map (ev τ)++mv) (cf++l.map a.eval++cc):=(e1.append (bf.map (fun z=>bV.ev z) l)).append e2
 have vE:=Mw bV (r:=r++o9 s 10000000) (k:=xP kl) (pl:=pl) hc Yd Ye (by
  refine OF (OH OI (fun i hi=>(Fm (r:=r) (s:=s) i hi).symm) Yf (si.mP h0)) (OG fun i hi=>?_);refine⟨1000000+s+i,?_,?_⟩
  ·rw[A8,mV.hU nS i];exact IW x_2
  ·rw[show 1000000+s+i=1000000+(s+i) by omega,hT.1 (s+i),nr.cX (dS.at hT.2 _),List.getElem?_drop])
  (fun j hj i hi=>by
    have Fo:j<1000000:=by
     unfold xP at hj;rw[Bool.or_eq_false_iff]at hj;rcases Nat.lt_or_ge j 1000000 with q|q
     ·exact q
     have:=Nat.ble_eq_true_of_le q;rw[hj.2]at this;cases this
    rw[Fm j Fo]at hi;refine xg.at BT j ?_ i hi;rw[<-Ya j Fo];exact hj)
  (fun x bd ⟨l1,F1,q1,q2,q3,q4,q5⟩=>by subst q4;exact OE Yc (hp x l1 F1 q5)) hv (by rw[<-ha];exact(zt (fun i hi=>Fm i hi) _ gH))
 have rq:(execOp a.eval o).run P w=.ok (.enter f (cf++l.map a.eval++cc).toArray) w:=by
  simp only[execOp,ho,resolve,Deferred.ofValue,ey,invoke,callFunc,Sem.run_bind,Sem.run_pure,Result.andThen_ok,run_program,hf,vG,nX,Bool.false_eq_true,if_false,List.map_toArray,List.append_toArray]
 unfold Oper.wp
 rw[rq]
 show Calls P f _ w _
 refine Calls.mono vE ?_
 rintro e w' ⟨x,bd,⟨l1,F1,q1,q2,q3,rfl,q5⟩,v,ci,bH,rfl,g1,g2,g3⟩
 simp only[Bool.and_eq_true]at q1
 have eH:mg (r++o9 s 10000000) (xP kl) (l1++je 1000000 F1) H=tl (mg r (xP kl) l1 H) (F.take s++F1):=funext fun j=>by
  rcases yM j with q|⟨m,rfl⟩
  ·rw[uI q];unfold mg;rw[Fm j q];cases hj:rn (sw r) j with
   |none=>rfl
   |some i=>
    have hi:i<1000000:=by
     have:=AA hj;unfold sw at this;obtain⟨p,hp,e⟩:=List.mem_map.1 this;injection e with e1 e2;subst e2;exact(mV.at nS p hp).1
    show (bx (l1++je 1000000 F1) i).cX _=(bx l1 i).cX _;rw[yN hi];exact kR.cX OD (X9 q1.2.1 i)
  rw[uJ];unfold mg;rw[X8 nS];have dM:(F.take s).length=s:=by rw[List.length_take];omega
  by_cases c:s<=m/\m-s<10000000
  ·rw[if_pos c];show (bx (l1++je 1000000 F1) (1000000+(m-s))).cX _=_;rw[Af q1.1,Ar,if_pos x_2,show 1000000+(m-s)-1000000=m-s by omega,nr.cX (dS.at q2 _),List.getElem?_append_right x_2,dM]
  rw[if_neg c];show (H (1000000+m)).bq _=_;rw[hT.1 m,nr.bq (dS.at hT.2 m)];rcases Nat.lt_or_ge m s with z|z
  ·rw[List.getElem?_append_left x_2,List.getElem?_take_of_lt z]
  rw[List.getElem?_eq_none x_2,List.getElem?_append_right x_2,List.getElem?_eq_none x_2]
 have ex:cX (r++o9 s 10000000) x=cX r x:=Ov (fun i hi=>OD i hi) x q1.2.2
 rw[eH,ex]at g2
 rw[eH]at g1
 refine hk _ _ _ _ _ _ ⟨x,l1,F1,q5,q2,q3,rfl,rfl⟩ (g1.Az o.dst g2 (ux.at ht)) (fun X hX=>?_)
 rw[<-eH]
 refine g3 X (fun i o' xh j hj=>?_)
 rcases List.mem_append.1 xh with xh|xh
 ·obtain⟨⟨j',z1,_⟩,_⟩:(∃j',rn r i=some j'/\True)/\True:=by
   refine⟨?_,trivial⟩;have:∀(l:List (Nat×AO)),mP r H l->(i,o')∈l->∃j',rn r i=some j'/\True:=by
    intro l;induction l with
    |nil=>intro _ h;cases h
    |cons p l ih=>
     obtain⟨a',b'⟩:=p;intro h hm;rcases List.mem_cons.1 hm with hm|hm
     ·injection hm with hm1 hm2;subst hm1;obtain⟨⟨j',z,_⟩,_⟩:=h;exact⟨j',z,trivial⟩
     exact ih h.2 hm
   exact this ob0 (si.mP h0) xh
  rw[OI i j' z1]at hj
  injection hj with hj
  subst hj
  exact hX _ (List.mem_append_left _ (List.mem_filterMap.2 ⟨_,xh,z1⟩))
 obtain⟨m,hm,rfl⟩:=GS xh
 rw[A8,mV.hU nS m]at hj
 dsimp only at hj
 rw[IW x_2]at hj
 injection hj with hj
 subst hj
 exact hX _ (List.mem_append_right _ (List.mem_map.2 ⟨m,by simpa using hm,rfl⟩))
end

inductive kf {α β:Type} (R:α->β->Prop):List α->List β->Prop
 |nil:kf R [] []
 |cons {a:α} {b:β} {l:List α} {m:List β}:R a b->kf R l m->kf R (a::l) (b::m)
theorem kf.len{α β:Type}{R:α->β->Prop}{l:List α}{m:List β}(h:kf R l m):l.length=m.length:=by
 induction h with
 |nil=>rfl
 |cons _ _ ih=>simp[ih]
theorem Eh{α β:Type}{R:α->β->Prop}:∀ {l:List α} {m:List β},l.length=m.length->(∀(i:Nat) (a:α) (b:β),l[i]? = some a->m[i]? = some b->R a b)->kf R l m
 |[],[],_,_=>.nil
 |a::l,b::m,hl,h=>.cons (h 0 a b rfl rfl) (Eh x_14 fun i x y V h2=>h (i+1) x y x_14 x_14)
 |[],_::_,hl,_=>by cases hl
 |_::_,[],hl,_=>by cases hl
def vm(H:Nat->AO)(p q:PV):Prop:=p=q\/∃v m e sz rows,p=.v v/\H m=.ai ⟨e,some v⟩ sz rows/\q=.ab e sz rows
section
variable {L:Nat->Prop}{ρ:Nat->Value}{H:Nat->AO}{w:World}
theorem OJ(bY:∀id,∃f,OB L ρ H w (ρ id) f (H id)):∀ {x y:List PV} {c:List Value} {fp:List Nat},kf (vm H) x y->bP w false x c fp->∃bH,bP w false y c bH
 |_,_,c,fp,.nil,h=>⟨fp,h⟩
 |_,_,c,fp,.cons V h2,h=>by
  rw[bP]at h;obtain⟨c,r,f1,f2,rfl,rfl,k1,k2⟩:=h;obtain⟨g2,k3⟩:=OJ bY h2 k2;rcases V with rfl|⟨v,m,e,sz,rows,rfl,hm,rfl⟩
  ·exact⟨f1++g2,by rw[bP];grind⟩
  obtain⟨f,ho⟩:=bY m;rw[hm]at ho;obtain⟨g1,k4⟩:=OB.IA ho;have hv:ρ m=v:=by obtain⟨_,_,_,_,_,_,k⟩:=ho;exact k v rfl
  rw[RW]at k1;rw[k1.1,<-hv];exact⟨g1++g2,by rw[bP];grind⟩
theorem OK(bY:∀id,∃f,OB L ρ H w (ρ id) f (H id)){sz:Nat}:∀ {x y:List (List PV)} {c:List Value} {fp:List Nat},kf (kf (vm H)) x y->bI w false sz x c fp->∃bH,bI w false sz y c bH
 |_,_,c,fp,.nil,h=>⟨fp,h⟩
 |_,_,c,fp,.cons V h2,h=>by
  rw[bI]at h;obtain⟨hl,c,r,f1,f2,rfl,rfl,k1,k2⟩:=h;obtain⟨g1,k3⟩:=OJ bY V k1;obtain⟨g2,k4⟩:=OK bY h2 k2;exact⟨g1++g2,by rw[bI];exact⟨by rw[<-V.len];exact hl,c,r,g1,g2,rfl,rfl,k3,k4⟩⟩
end
def Reads(H:Nat->AO)(x y:AV):Prop:=∀ {L:Nat->Prop} {ρ:Nat->Value} {w:World} {c:Value},(∀id,∃f,OB L ρ H w (ρ id) f (H id))->RV L ρ H w x c->RV L0 s8 (bx []) w y c
theorem Reads.jB{H:Nat->AO}{x y:AV}(h:jB H x=y):Reads H x y:=fun bY hx=>h▸RV.jB bY x hx
theorem Reads.own{H:Nat->AO}{id:Nat}{t:TypeId}{pt:Option Value}{sz:Nat}{rows rows':List (List PV)}(hH:H id=.ai ⟨t,pt⟩ sz rows)(h:kf (kf (vm H)) rows rows'):Reads H (.own id) (.p (.ab t sz rows')):=fun{L ρ w c} bY hx=>by
 rw[RV]at hx;have hc:=hx.2 x_122;obtain⟨f,ho⟩:=bY id;rw[hH]at ho;obtain⟨xs,fr,b1,b2,b3,b4,b5⟩:=ho;obtain⟨g,k1⟩:=OK bY h b1;have hr:=OB.IA (L:=L) (ρ:=ρ) (H:=H) (w:=w) (v:=ρ id) (f:=f) (e:=⟨t,pt⟩) (sz:=sz) (rows:=rows) ⟨xs,fr,b1,b2,b3,b4,b5⟩;rw[hc];rw[RV];have hlen:rows'.length=rows.length:=h.len.symm;rcases b3.2 with⟨q,q2⟩|⟨gb,cap,cur,q,_,hg,hnc,bC,_⟩
 ·refine⟨[]++g,?_,fun b _=>mh⟩;rw[RW];refine⟨xs,[],g,k1,?_,rfl⟩;unfold iF;simp only[Bool.false_eq_true,if_false];exact⟨none,0,by rw[q,hlen,q2],by omega,by simp[maxLen],.inl ⟨by omega,trivial⟩⟩
 have tc:=b3;rw[q]at tc;refine⟨[gb]++g,?_,fun b _=>mh⟩;rw[RW];refine⟨xs,[gb],g,k1,?_,rfl⟩;unfold iF;simp only[Bool.false_eq_true,if_false];exact⟨_,cap,by rw[q,hlen],by omega,bC,.inr ⟨gb,0,rfl,vl tc,(Array.getElem?_eq_some_iff.1 hg).1,rfl⟩⟩
theorem bf.reads{H:Nat->AO}{L:Nat->Prop}{ρ:Nat->Value}{w:World}(bY:∀id,∃f,OB L ρ H w (ρ id) f (H id)):∀ {l m:List AV} {cs:List Value},kf (Reads H) l m->bf L ρ H w l cs->bf L0 s8 (bx []) w m cs
 |_,_,cs,.nil,h=>by trivial
 |_,_,cs,.cons V h2,h=>by
  rw[bf]at *;obtain⟨c,r,rfl,k1,k2⟩:=h;exact⟨c,r,rfl,V bY k1,bf.reads bY h2 k2⟩
theorem Reads.agg{H:Nat->AO}{l m:List AV}(h:kf (Reads H) l m):Reads H (.agg l) (.agg m):=fun bY hx=>by
 rw[RV]at *;obtain⟨cs,rfl,V⟩:=hx;exact⟨cs,rfl,bf.reads bY h V⟩
section
variable {P:Program}{o:Oper}{N:Nat}{τ:Nat->AV}{H:Nat->AO}
theorem zLN{y:Operand}{l:List Operand}{ts:Array TypeId}{f:FuncId}{fn:Func}{args:List AV}{x:AV}(hf:P.funcs[f]? = some fn)(hc:GC P f args [] x [])
 (h : (o.op,ux o.dst N,ev τ y,(fn.name == "runtime.NumGoroutine"),fn.body.isNone,qs x) = (.call { callee := .value y,args := l.toArray,argTypes := ts },true,.fQ (.func f) [] [],false,false,true)) (ha : kf (Reads H) (l.map (ev τ)) args) : St P o N τ H [] (mb τ o.dst x) H := by
 simp only[Prod.mk.injEq]at h
 obtain⟨ho,ht,hy,vG,nX,hx⟩:=h
 refine⟨?_⟩
 intro L O w0 ρ fp a w K Q bV hk
 have ey:=bV.ev y
 rw[hy,RV]at ey
 obtain⟨cf,cc,ey,e1,e2⟩:=ey
 rw[bf]at e1 e2
 subst e1 e2
 have hv:=bf.reads (fun id=>⟨_,bV.ob id⟩) ha (bf.map (fun z=>bV.ev z) l)
 have vE:=hc L0 w (l.map a.eval) s8 (fun _=>[]) (fun _ q=>q.elim) hv (fun i=>rfl) x_19 x_19
 have rq:(execOp a.eval o).run P w=.ok (.enter f (l.map a.eval).toArray) w:=by
  simp only[execOp,ho,resolve,Deferred.ofValue,ey,invoke,callFunc,Sem.run_bind,Sem.run_pure,Result.andThen_ok,run_program,hf,vG,nX,Bool.false_eq_true,if_false,List.map_toArray,List.append_toArray,List.nil_append,List.append_nil]
 unfold Oper.wp
 rw[rq]
 show Calls P f _ w _
 refine Calls.mono vE ?_
 rintro e w' ⟨_,_,⟨rfl,rfl⟩,v,ci,bH,rfl,g1,g2,g3⟩
 have hg:pL (fun _=>False) w w':=⟨g1.os,g1.tape,g1.output,g1.size,fun b hb _=>g1.block b hb x_19,fun b o hb eI=>g1.nf b o (by simpa using hb) eI⟩
 exact hk _ _ _ _ ((bV.grow hg).Az o.dst (N4 _ hx g2) (ux.at ht)) (fun X hX=>⟨⟨hg.size,fun b hb _=>hg.block b hb (fun q=>q)⟩,fun j V h2 b h3=>.inr ⟨j,V,h2,h3⟩⟩)
end
theorem dS.gJ{F G:List AO}(h:dS F)(g:dS G):dS (F++G):=fun o ho=>by
 rcases List.mem_append.1 ho with q|q
 ·exact h o q
 exact g o q
theorem ki{H:Nat->AO}{F:List AO}(h:Tl H F:=by repeat (first|exact IN rfl|exact Tl.tl x_32|refine Tl.cO rfl ?_|refine Tl.aH rfl ?_|refine Tl.bq ?_|refine Tl.call rfl ?_|refine Tl.swap rfl ?_)):Tl H F:=h
def nR(R:AV->List (Nat×AO)->List AO->Prop):AV->List (Nat×AO)->Prop:=fun x bd=>∃l1 F1,(s9 l1&&(l1.all (fun p=>kR p.2)&&ns x))=true/\dS F1/\F1.length<=10000000/\bd=l1++je 1000000 F1/\R x l1 F1
section
variable {P:Program}{L O:Nat->Prop}{w0:World}{N:Nat}{τ:Nat->AV}{H:Nat->AO}{Q:AQ}{c:Code}{ops:Array Oper}{l:List Oper}{F:List AO}
theorem GN.intro{f:FuncId}{fn:Func}{c:Code}{args:List AV}{ob0:List (Nat×AO)}{F0:List AO}{R:AV->List (Nat×AO)->List AO->Prop}{rs:List mQ}(hf:P.funcs[f]? = some fn)(hb:fn.body=some c)(hn:fn.ntmps=N)(hl:args.length<=N)(vD:vH P fn.results.toList rs)(h0:s9 ob0=true)
 (h:∀L O w0,AW P L O w0 N c (AC args) (tl (bx ob0) F0) (yX rs (nR R))):GN P f args ob0 F0 R:=GX.intro hf hb hn hl vD (fun L O w0=>by rw[Gm h0];exact h L O w0)
theorem vW{rs:List mQ}{R:AV->List (Nat×AO)->List AO->Prop}(x:AV)(l1:List (Nat×AO)){F1:List AO}(hR:R x l1 F1)(hM:F1.length<=10000000)(h0:th τ H rs=some x)(V:(s9 l1&&(l1.all (fun p=>kR p.2)&&ns x))=true)(h2:fo l1 H)(h3:Tl H F1):yX rs (nR R) .ret τ H:=
 ⟨x,l1++je 1000000 F1,⟨l1,F1,V,h3.2,hM,rfl,hR⟩,h0,Oq h2 h3.all⟩
end

def GP:AO->Prop
 |.ai e sz rows=>∀r∈rows,∀p∈r,∃v,p=PV.v v
 |_=>False
theorem GX.Ae{P:Program}{f:FuncId}{args qj:List AV}{ob0:List (Nat×AO)}{R:AV->List (Nat×AO)->Prop}(hc:GX P f args [] R)(hl:qk (bx ob0) qj=args)(h0:∀p∈ob0,GQ p.2=true)
 (hR:∀x bd,R x bd->ql x=true/\(∀id∈s7 x,eb bd id=true)/\(∀p∈bd,GP p.2)/\(∀p∈ob0,eb bd p.1=false)) :
 GX P f qj ob0 fun x ob=>∃bd,R x bd/\ob=bd++ob0:=by
 intro L w cs ρ fp hL pF bY pG ud
 have hv:=bf.jB (fun id=>⟨_,bY id⟩) qj pF
 rw[hl]at hv
 refine Calls.mono (hc L0 w cs s8 (fun _=>[]) (fun _ q=>q.elim) hv (fun i=>rfl) x_19 x_19) ?_
 rintro e w' ⟨x,bd,hR1,v,ci,bH,rfl,g1,g2,g3,g4,g5⟩
 obtain⟨hx,hn,V,hd⟩:=hR x bd hR1
 have nW:∀i,∀b∈bH i,w.heap.size<=b:=fun i b hb=>by
  rcases(g5 i b hb).1 with⟨j,q⟩|q
  ·cases q
  exact q
 have oY:∀b,b<w.heap.size->w'.heap[b]? = w.heap[b]?:=fun b hb=>g1.block b hb x_19
 generalize wR:(fun i=>if eb bd i=true then ci i else ρ i)=jR
 generalize nX:(fun i=>if eb bd i=true then bH i else fp i)=f2
 have yI:∀ {i},eb bd i=true->jR i=ci i:=fun{i} h=>by rw[<-wR];simp only[h,if_true]
 have yJ:∀ {i},eb bd i=false->jR i=ρ i:=fun{i} h=>by rw[<-wR];simp[h]
 have rb:∀ {i},eb bd i=true->f2 i=bH i:=fun{i} h=>by rw[<-nX];simp only[h,if_true]
 have oZ:∀ {i},eb bd i=false->f2 i=fp i:=fun{i} h=>by rw[<-nX];simp[h]
 have BY:∀ {i},eb bd i=true->bx (bd++ob0) i=bx bd i:=fun{i} h=>by rw[yK,if_pos h]
 have yL:∀ {i},eb bd i=false->bx (bd++ob0) i=bx ob0 i:=fun{i} h=>by rw[yK,if_neg x_137]
 have re:∀b,b<w.heap.size->¬live L ρ (bx ob0) b->¬live L jR (bx (bd++ob0)) b:=by
  rintro b hb hn (hl|⟨i,q1,q2⟩)
  ·exact hn (.inl hl)
  rcases hi:eb bd i with _|_
  ·rw[yL hi]at q1;rw[yJ hi]at q2;exact hn (.inr ⟨i,q1,q2⟩)
  rw[BY hi]at q1;rw[yI hi]at q2;have:=nW i b ((g3 i).top q1 q2);omega
 have E:Env L ρ jR (bx ob0) (bx (bd++ob0)) w w' (eb bd):=⟨g1.size,fun b hb hn=>⟨oY b hb,re b hb hn⟩,fun i hk hi=>by
  rw[yL hk]at hi ⊢;exact⟨hi,yJ hk,rfl,rfl⟩⟩
 refine⟨x,bd++ob0,⟨bd,hR1,rfl⟩,v,jR,f2,rfl,⟨g1.os,g1.tape,g1.output,g1.size,fun b hb _=>oY b hb,fun b o hb eI=>?_⟩,?_,fun i=>?_,fun i j gF b hb ec=>?_,fun i b hb=>?_⟩
 ·rcases Nat.lt_or_ge b w.heap.size with kA|kA
  ·rcases hb with⟨i,hi⟩|hb
   ·rw[World.frozen?_of_block (w:=w) (oY b kA)]
    exact(bY i).frozen b hi o
   omega
  exact g1.nf b o (.inr kA) eI
 ·refine GR x hx g2 fun id hid=>?_
  obtain⟨o,q1,q2⟩:=wS (hn id hid)
  have jC:=V _ q1
  refine⟨?_,yI (hn id hid)⟩
  rw[q2]
  cases o with
  |ai e sz rows=>rfl
  |box T p c=>exact jC.elim
  |gone=>exact jC.elim
 ·rcases hi:eb bd i with _|_
  ·rw[yL hi,yJ hi,oZ hi]
   have h:=(bY i).env E (fun b hb=>oY b ((bY i).lt b hb))
   have ek:(bx ob0 i).bq (eb bd)=bx ob0 i:=by
    rcases hj:eb ob0 i with _|_
    ·rw[D6 hj];rfl
    obtain⟨o,q1,q2⟩:=wS hj;have:=h0 _ q1;rw[q2];cases o with
    |ai e sz rows=>rfl
    |box T p c=>cases this
    |gone=>rfl
   rwa [ek]at h
  rw[BY hi,yI hi,rb hi]
  obtain⟨o,q1,q2⟩:=wS hi
  have jC:=V _ q1
  have h:=g3 i
  rw[q2]at h ⊢
  cases o with
  |ai e sz rows=>
   obtain⟨xs,fr,k1,k2,k3,k4,k5⟩:=h
   have ke:=k1.vj jC
   subst ke
   exact⟨xs,[],k1,by simp,k3,k4,k5⟩
  |box T p c=>exact jC.elim
  |gone=>exact jC.elim
 ·rcases hi:eb bd i with _|_<;>rcases hj:eb bd j with _|_
  ·rw[oZ hi]at hb;rw[oZ hj]at ec;exact pG i j gF b hb ec
  ·rw[oZ hi]at hb;rw[rb hj]at ec
   have:=(bY i).lt b hb
   have:=nW j b ec
   omega
  ·rw[rb hi]at hb;rw[oZ hj]at ec
   have:=(bY j).lt b ec
   have:=nW i b hb
   omega
  rw[rb hi]at hb;rw[rb hj]at ec;exact g4 i j gF b hb ec
 grind
theorem GX.same{P:Program}{f:FuncId}{args:List AV}{ob0:List (Nat×AO)}{R R':AV->List (Nat×AO)->Prop}(h:GX P f args ob0 R)(hR:∀x ob,R x ob->∃D7,R' x D7/\bx D7=bx ob):GX P f args ob0 R':=fun L w cs ρ fp V h2 h3 h4 h5=>
 Calls.mono (h L w cs ρ fp V h2 h3 h4 h5) fun e w' ⟨x,ob,q,r⟩=>by
  obtain⟨D7,q1,q2⟩:=hR x ob q;exact⟨x,D7,q1,by simp_all⟩
theorem Ly{F:List AO}{i:Nat}(h:i<1000000):eb (je 1000000 F) i=false:=by
 grind[wS,GS]
theorem GT{l m:List (Nat×AO)}{i:Nat}:eb (l++m) i=(eb l i||eb m i):=by grind[eb]
theorem GN.Ae{P:Program}{f:FuncId}{args qj:List AV}{ob0:List (Nat×AO)}{R:AV->List (Nat×AO)->List AO->Prop}(hc:GN P f args [] [] R)(hl:qk (bx ob0) qj=args)(h0:(ob0.all fun p=>GQ p.2&&(kR p.2&&Nat.blt p.1 1000000))=true)
 (hR:∀x l1 F1,R x l1 F1->ql x=true/\(∀id∈s7 x,eb l1 id=true)/\(∀p∈l1,GP p.2)/\(∀o∈F1,GP o)/\(∀p∈ob0,eb l1 p.1=false)) :
 GN P f qj ob0 [] fun x l F=>∃l1,R x l1 F/\l=l1++ob0:=by
 have hs:s9 ob0=true:=List.all_eq_true.2 fun p hp=>by
  grind
 have gH:(ob0.all fun p=>kR p.2)=true:=List.all_eq_true.2 fun p hp=>by
  grind
 have Tj:GX P f args [] _:=hc
 have h:=GX.Ae (ob0:=ob0) Tj hl (fun p hp=>by
  grind) (fun x bd ⟨l1,F1,q1,q2,q3,q4,q5⟩=>by
  subst q4;obtain⟨r1,r2,r3,r4,r5⟩:=hR x l1 F1 q5;refine⟨r1,fun id hid=>by grind[GT],fun p hp=>?_,fun p hp=>?_⟩
  ·rcases List.mem_append.1 hp with hp|hp
   ·grind
   have:∀(F:List AO) (n:Nat),p∈je n F->p.2∈F:=by
    intro F;induction F with
    |nil=>intro n h;cases h
    |cons o F ih=>
     intro n h;rcases List.mem_cons.1 h with h|h
     ·rw[h];simp
     exact List.mem_cons_of_mem _ (ih _ h)
   grind
  rw[GT,r5 p hp,Ly (Nat.le_of_ble_eq_true (List.all_eq_true.1 hs p hp))];rfl)
 show GX P f qj (ob0++[]) _
 rw[List.append_nil]
 refine h.same fun x ob ⟨bd,⟨l1,F1,q1,q2,q3,q4,q5⟩,q6⟩=>?_
 subst q4 q6
 simp only[Bool.and_eq_true]at q1
 have s1:s9 (l1++ob0)=true:=by unfold s9 at *;rw[List.all_append,q1.1,hs];rfl
 refine⟨(l1++ob0)++je 1000000 F1,⟨l1++ob0,F1,?_,q2,q3,rfl,l1,q5,rfl⟩,?_⟩
 ·grind
 funext i
 rcases yM i with q|⟨m,rfl⟩
 ·rw[yN q,yK,yK,GT,Ly q,Bool.or_false,yN q]
 grind[Af,yK,D6]
theorem exK{E l:List Nat}{X:Nat->Bool}(h:E=l)(h2:l.all X=true):∀id∈E,X id=true:=fun id hid=>by subst h;exact List.all_eq_true.1 h2 id hid

section
variable {P:Program}{o:Oper}{N:Nat}{τ:Nat->AV}{H:Nat->AO}
theorem akn(id:Nat){t e e':TypeId}{pn:Option Value}{x:Operand}{hi:Option Operand}{sz h d:Nat}{rows:List (List PV)}(ho:o.op=.slice t x none hi none)(hd:o.dst=some d)(hN:d<N)(ht:iw P t=some (e,sz))(hx:ev τ x=.own id)(hH:H id=.ai ⟨e',pn⟩ sz rows)(un:xd τ rows.length hi h)(hn:h<=rows.length) :
 St P o N τ H [] (mb (fun s=>bq (cK id) (τ s)) o.dst (.own id)) (aH (fun j=>(H j).bq (cK id)) id (.ai ⟨e',none⟩ sz (rows.take h))):=by
 refine St.ahH id (cK id) (.own id) (.ai ⟨e',none⟩ sz (rows.take h)) [] (fun s hs=>by rw[hd]at hs;cases hs;exact hN) (fun{L O w0 ρ fp a w} hr=>?_)
 have hv:=hr.ev x
 rw[hx,RV]at hv
 have h0:=hv.2 x_122
 have hO:=hr.ob id
 rw[hH]at hO
 obtain⟨xs,fr,r1,r2,jE,Xu,_⟩:=hO
 have hlen:(rows.take h).length=h:=by rw[List.length_take];omega
 obtain⟨g1,t1,t2⟩:=r1.take h
 have aju:w.grownBy w none:=⟨rfl,rfl,rfl,Nat.le_refl _,fun _ _ _=>rfl⟩
 rcases jE.2 with⟨q,q'⟩|⟨g,cap,cur,q,tA,hg,c1,c2,c3,c4⟩
 ·have rq:=Hq (o:=o) (a:=a) (l:=0) (fun z=>hr.ev z) ho ht (by show (0:Nat)=0;rfl) un (Nat.zero_le _) hn (Nat.le_of_eq q') (by rw[h0,q,q']) w
  have hz:h=0:=by omega
  subst hz
  refine⟨w,.slice none 0 0,none,_,_,rq,.inl rfl,aju,by simp,(fun b off hb eI=>?_),(fun hk=>by simp[cK]at hk),(fun b hb=>by cases hb),(fun E=>⟨⟨[],g1,?_,?_,?_,rfl,(fun u hu=>by cases hu)⟩,?_⟩)⟩
  ·rcases hb with hb|hb
   ·cases hb
   omega
  ·have:xs.take (0*sz)=[]:=by simp
   rw[this]at t1;exact t1
  ·intro b hb hl
   have eI:=bI.lt _ r1 b (t2 hb)
   exact(E.block b eI (r2 b (t2 hb))).2 hl
  ·have:(rows.take 0).length=0:=by simp
   rw[this]
   exact World.ownsRow_nil _ _ _ _
  rw[RV,dV]
  exact⟨by rfl,fun _=>by rw[dV];(try rfl);(try simp)⟩
 have rq:=Hq (o:=o) (a:=a) (l:=0) (fun z=>hr.ev z) ho ht (by show (0:Nat)=0;rfl) un (Nat.zero_le _) hn c1 (h0.trans q) w
 have ead:(if cap=0 then (some ⟨g,0,none⟩:Option Addr)else (some ⟨g,0,none⟩:Option Addr).map (·.add (0*sz)))=some ⟨g,0,none⟩:=by
  split
  ·rfl
  show some ((⟨g,0,none⟩:Addr).add (0*sz))=_;unfold Addr.add;split<;>simp_all
 rw[ead,Nat.sub_zero,Nat.sub_zero]at rq
 refine⟨w,.slice (some ⟨g,0,none⟩) h cap,none,_,_,rq,.inl rfl,aju,by simp,(fun b off hb eI=>?_),(fun hk=>by simp[cK]at hk),(fun b hb=>.inr ⟨by rw[hH];rfl,by rw[q];exact hb⟩),(fun E=>⟨⟨xs.take (h*sz),g1,t1,?_,?_,rfl,(fun u hu=>by cases hu)⟩,?_⟩)⟩
 ·rcases hb with hb|hb
  ·cases hb
  omega
 ·intro b hb hl
  have eI:=bI.lt _ r1 b (t2 hb)
  exact(E.block b eI (r2 b (t2 hb))).2 hl
 ·rw[hlen]
  refine⟨?_,.inr ⟨g,cap,cur,rfl,tA,hg,by omega,c2,c3,?_⟩⟩
  ·rw[List.length_take,jE.1]
   have:=Nat.mul_le_mul_right sz hn
   omega
  rw[<-c4,List.take_take]
  have:=Nat.mul_le_mul_right sz hn
  congr 1
  omega
 rw[RV,dV]
 exact⟨by rfl,fun _=>by rw[dV];(try rfl);(try simp)⟩
end

theorem GC.amZ{P:Program}{f:FuncId}{args qj:List AV}{x:AV}(h:GC P f args [] x [])(hi:ff qj args):GC P f qj [] x []:=fun L w cs ρ fp V h2 h3 h4 h5=>h L w cs ρ fp V (hi h2) h3 h4 h5
theorem D8{L:Nat->Prop}{ρ:Nat->Value}{b:Nat}(h:¬L b):¬live L ρ (bx []) b:=by
 rintro(q|⟨_,q,_⟩);all_goals trivial
def Lz{α:Type}(sz:Nat)(dg:World->Nat->Nat->List Value->α->Prop)(xs:List α)(w:World)(lo:Nat)(v:Value):Prop:=dd sz dg w lo w.heap.size v xs
theorem Lz.rv{α:Type}{enc:α->List Value}{e:TypeId}{sz:Nat}{dg:World->Nat->Nat->List Value->α->Prop}{xs:List α}(GU:∀w lo hi cs x,dg w lo hi cs x->cs=enc x)(hs:∀x,(enc x).length=sz)(V:∀x,∀u∈enc x,u.oneCell'=true)
 {L:Nat->Prop} {ρ:Nat->Value} {w:World} {lo:Nat} {v:Value} (hL:∀b,L b->b<lo) (h:Lz sz dg xs w lo v):RV L ρ (bx []) w (.p (.ab e sz (ah enc xs))) v:=
 wU h (fun _ _ q=>GU _ _ _ _ _ q) hs V (Nat.le_refl _) (fun b q _=>D8 fun z=>by grind)
section
variable {L:Nat->Prop}{ρ:Nat->Value}{H:Nat->AO}{w:World}{S:Nat->Prop}
def vk(L:Nat->Prop)(ρ:Nat->Value)(H:Nat->AO)(w:World)(S:Nat->Prop):Prop:=(∀id,∃f,OB L ρ H w (ρ id) f (H id)/\∀b∈f,S b)/\∀b,¬live L ρ H b->S b
theorem vk.row(hl:vk L ρ H w S){id:Nat}{e:ga}{sz:Nat}{rows rows':List (List PV)}(hH:H id=.ai e sz rows)(h:∀ {xs fp},bI w false sz rows xs fp->(∀b∈fp,S b)->∃g,bI w false sz rows' xs g/\∀b∈g,S b)(hlen:rows'.length=rows.length) :
 ∃g,RW w false (.ab e.ty sz rows') (ρ id) g/\∀b∈g,S b:=by
 obtain⟨f,ho,hf⟩:=hl.1 id
 rw[hH]at ho
 obtain⟨xs,fr,b1,b2,b3,b4,b5⟩:=ho
 obtain⟨g,k1,k2⟩:=h b1 (fun b hb=>hl.2 b (b2 b hb))
 rcases b3.2 with⟨q,q2⟩|⟨gb,cap,cur,q,_,hg,hnc,bC,_⟩
 ·refine⟨[]++g,?_,fun b hb=>k2 b (by simpa using hb)⟩
  rw[RW]
  refine⟨xs,[],g,k1,?_,rfl⟩
  unfold iF
  simp only[Bool.false_eq_true,if_false]
  exact⟨none,0,by rw[q,hlen,q2],by omega,by simp[maxLen],.inl ⟨by omega,trivial⟩⟩
 have tc:=b3
 rw[q]at tc
 refine⟨[gb]++g,?_,fun b hb=>?_⟩
 ·rw[RW]
  refine⟨xs,[gb],g,k1,?_,rfl⟩
  unfold iF
  simp only[Bool.false_eq_true,if_false]
  exact⟨_,cap,by rw[q,hlen],by omega,bC,.inr ⟨gb,0,rfl,vl tc,(Array.getElem?_eq_some_iff.1 hg).1,rfl⟩⟩
 rcases List.mem_append.1 hb with hb|hb
 ·refine hf b ?_
  rw[List.mem_singleton.1 hb,b4,q]
  simp[Value.ownBlock]
 exact k2 b hb
theorem vk.self(hl:vk L ρ H w S){id:Nat}{e:ga}{sz:Nat}{rows:List (List PV)}(hH:H id=.ai e sz rows):∃g,RW w false (.ab e.ty sz rows) (ρ id) g/\∀b∈g,S b:=hl.row hH (fun h hs=>⟨_,h,hs⟩) rfl
theorem LA(hl:vk L ρ H w S):∀ {x y:List PV} {c:List Value} {fp:List Nat},kf (vm H) x y->bP w false x c fp->(∀b∈fp,S b)->∃bH,bP w false y c bH/\∀b∈bH,S b
 |_,_,c,fp,.nil,h,hs=>⟨fp,h,hs⟩
 |_,_,c,fp,.cons V h2,h,hs=>by
  rw[bP]at h;obtain⟨c,r,f1,f2,rfl,rfl,k1,k2⟩:=h;obtain⟨g2,k3,k4⟩:=LA hl h2 k2 (fun b hb=>hs b (List.mem_append_right _ hb));rcases V with rfl|⟨v,m,e,sz,rows,rfl,hm,rfl⟩
  ·refine⟨f1++g2,by rw[bP];exact⟨c,r,f1,g2,rfl,rfl,k1,k3⟩,fun b hb=>?_⟩;grind
  obtain⟨g1,k5,k6⟩:=hl.self hm;have hv:ρ m=v:=by
   obtain⟨f,ho,_⟩:=hl.1 m;rw[hm]at ho;obtain⟨_,_,_,_,_,_,k⟩:=ho;exact k v rfl
  rw[RW]at k1;rw[k1.1,<-hv];refine⟨g1++g2,by rw[bP];exact⟨ρ m,r,g1,g2,rfl,rfl,k5,k3⟩,fun b hb=>?_⟩;grind
theorem LB(hl:vk L ρ H w S){sz:Nat}:∀ {x y:List (List PV)} {c:List Value} {fp:List Nat},kf (kf (vm H)) x y->bI w false sz x c fp->(∀b∈fp,S b)->∃bH,bI w false sz y c bH/\∀b∈bH,S b
 |_,_,c,fp,.nil,h,hs=>⟨fp,h,hs⟩
 |_,_,c,fp,.cons V h2,h,hs=>by
  rw[bI]at h;obtain⟨hn,c,r,f1,f2,rfl,rfl,k1,k2⟩:=h;obtain⟨g1,k3,k5⟩:=LA hl V k1 (fun b hb=>hs b (List.mem_append_left _ hb));obtain⟨g2,k4,k6⟩:=LB hl h2 k2 (fun b hb=>hs b (List.mem_append_right _ hb));refine⟨g1++g2,by rw[bI];exact⟨by rw[<-V.len];exact hn,c,r,g1,g2,rfl,rfl,k3,k4⟩,fun b hb=>?_⟩;grind
end
structure Still(H:Nat->AO)(x y:AV):Prop where
 to:∀ {L:Nat->Prop} {ρ:Nat->Value} {w:World} {c:Value},vk L ρ H w (fun b=>¬L b)->RV L ρ H w x c->RV L ρ (bx []) w y c
theorem Still.p{H:Nat->AO}(x:PV):Still H (.p x) (.p x):=.mk fun{L ρ w c} hl h=>by
 rw[RV]at *;obtain⟨fp,V,h2⟩:=h;exact⟨fp,V,fun b hb=>D8 (hl.2 b (h2 b hb))⟩
theorem Still.own{H:Nat->AO}{id:Nat}{e:ga}{sz:Nat}{rows rows':List (List PV)}(hH:H id=.ai e sz rows)(h:kf (kf (vm H)) rows rows'):Still H (.own id) (.p (.ab e.ty sz rows')):=.mk fun{L ρ w c} hl hx=>by
 rw[RV]at hx;have hc:=hx.2 x_122;obtain⟨g,k1,k2⟩:=hl.row hH (fun q hs=>LB hl h q hs) h.len.symm;rw[hc,RV];exact⟨g,k1,fun b hb=>D8 (k2 b hb)⟩
theorem Still.row{H:Nat->AO}{id:Nat}{e:ga}{sz:Nat}{rows:List (List PV)}(hH:H id=.ai e sz rows):Still H (.own id) (.p (.ab e.ty sz rows)):=.mk fun{L ρ w c} hl hx=>by
 rw[RV]at hx;have hc:=hx.2 x_122;obtain⟨g,k1,k2⟩:=hl.self hH;grind[RV,D8]
theorem GV{H:Nat->AO}{L:Nat->Prop}{ρ:Nat->Value}{w:World}(hl:vk L ρ H w (fun b=>¬L b)):∀ {l m:List AV} {cs:List Value},kf (Still H) l m->bf L ρ H w l cs->bf L ρ (bx []) w m cs
 |_,_,cs,.nil,h=>by trivial
 |_,_,cs,.cons V h2,h=>by
  rw[bf]at *;obtain⟨c,r,rfl,k1,k2⟩:=h;exact⟨c,r,rfl,V.to hl k1,GV hl h2 k2⟩
theorem Still.agg{H:Nat->AO}{l m:List AV}(h:kf (Still H) l m):Still H (.agg l) (.agg m):=.mk fun hl hx=>by
 rw[RV]at *;obtain⟨cs,rfl,V⟩:=hx;exact⟨cs,rfl,GV hl h V⟩
theorem Still.au{H:Nat->AO}{l m:List AV}(h:kf (Still H) l m):Still H (.au l) (.au m):=.mk fun hl hx=>by
 rw[RV]at *;obtain⟨cs,rfl,V⟩:=hx;exact⟨cs,rfl,GV hl h V⟩
theorem GX.frozen{P:Program}{f:FuncId}{args:List AV}{R:AV->List (Nat×AO)->Prop}{Z:AV->Prop}(h:GX P f args [] R)(hR:∀x bd,R x bd->∃y,Still (bx bd) x y/\Z y):GX P f args [] fun y ob=>ob=[]/\Z y:=fun L w cs ρ fp V h2 h3 h4 h5=>
 Calls.mono (h L w cs ρ fp V h2 h3 h4 h5) fun e w' ⟨x,bd,q,v,ci,bH,q1,q2,q3,q4,q5,q6⟩=>by
  obtain⟨y,hy,hz⟩:=hR x bd q;have hl:vk L ci (bx bd) w' (fun b=>¬L b):=⟨fun id=>⟨bH id,q4 id,fun b hb=>(q6 id b hb).2⟩,fun b hb=>fun z=>hb (.inl z)⟩;exact⟨y,[],⟨rfl,hz⟩,v,ci,fun _=>[],q1,q2,hy.to hl q3,fun i=>rfl,by simp,by simp⟩

section
variable {P:Program}
theorem G3:∀(fs:List Field) (i:Nat) (a b r r':List Value),vt P fs i a b->dA (a++r) (b++r')=(dA a b&&dA r r')
 |[],i,[],[],r,r',_=>by rfl
 |[],i,a::_,b,r,r',h=>by trivial
 |[],i,[],b::_,r,r',h=>h.elim
 |f::fs,i,[],b,r,r',h=>by trivial
 |f::fs,i,v::a,[],r,r',h=>by cases v<;>exact h.elim
 |f::fs,i,v::a,v'::b,r,r',h=>by
  cases v<;>cases v'<;>first|exact h.elim|skip
  case int.int k x k' y=>
   have ih:=G3 fs (i+1) a b r r' h.2.2.2.2
   show (x==y&&dA (a++r) (b++r'))=((x==y&&dA a b)&&dA r r')
   rw[ih,Bool.and_assoc]
  case bool.bool x y=>
   have ih:=G3 fs (i+1) a b r r' h.2.2.2
   show (x==y&&dA (a++r) (b++r'))=((x==y&&dA a b)&&dA r r')
   rw[ih,Bool.and_assoc]
theorem LM{t:TypeId}{fs:Array Field}(ht:P.underlying t=some (.struct fs)){a r:List Value}(hn:P.cellsOf t=a.length)(W:World):(part t (a++r).toArray 0).run P W=.ok (.agg a.toArray) W:=by
 simp_all[part,LN,B3]
theorem Tt (d : Nat) (W : World) {f0 : Field} {yO fs : List Field} {a b r r' : List Value} (hn : f0.name ≠ "_") (ho : f0.offset = 0) (ht : P.underlying f0.type = some (.struct (P.fieldsOf f0.type))) (hf : P.fieldsOf f0.type = yO.toArray) (hp : P.stoodInHeld f0.type = false)
 (ha:P.cellsOf f0.type=a.length) (hb:b.length=a.length) (h0:vt P yO 0 a b) (V:vt P fs a.length r r'):(Op.eqFields (d+3) (a++r).toArray (b++r').toArray (f0::fs)).run P W=.ok (dA (a++r) (b++r')) W:=by
 have e1:=run_equalIn_struct (P:=P) W (d+2) f0.type a.toArray b.toArray ht hp
 rw[hf]at e1
 have e2:=B4 (P:=P) (d+1) W yO 0 [] [] a b rfl rfl h0
 have e3:(Op.equalIn (d+3) f0.type (.agg a.toArray) (.agg b.toArray)).run P W=.ok (dA a b) W:=e1.trans e2
 have e4:=B4 (P:=P) (d+2) W fs a.length a b r r' rfl hb V
 rw[G3 yO 0 a b r r' h0]
 unfold Op.eqFields
 rw[if_pos hn,Sem.run_bind,ho,LM ht ha,Result.andThen_ok,Sem.run_bind,LM ht (by rw[ha,hb]),Result.andThen_ok,Sem.run_bind,e3,Result.andThen_ok]
 cases kN:dA a b
 all_goals trivial
variable {o:Oper}{τ:Nat->AV}{H:Nat->AO}{X:Nat->Bool}
theorem JW{op:BinOp}{T yT:TypeId}{x y:Operand}{a b r r':List Value}{f0:Field}{yO fs:List Field}(ho:o.op=.binOp op T x y yT)(G4:op=.eql\/op=.neq)(hx:vu (ev τ x)=some (.agg (a++r).toArray))(hy:vu (ev τ y)=some (.agg (b++r').toArray))
 (hf:P.fieldsOf T=(f0::fs).toArray) (ht:P.underlying T=some (.struct (P.fieldsOf T))) (hp:P.stoodInHeld T=false) (hg:P.eqGuardType P.depth T=false)
 (hn : f0.name ≠ "_") (Tu : f0.offset = 0) (Tv : P.underlying f0.type = some (.struct (P.fieldsOf f0.type))) (Tw : P.fieldsOf f0.type = yO.toArray) (Tx : P.stoodInHeld f0.type = false)
 (ha:P.cellsOf f0.type=a.length) (hb:b.length=a.length) (h0:vt P yO 0 a b) (V:vt P fs a.length r r'):Rd P o τ H X (aD (match op with|.eql=>dA (a++r) (b++r')|_=>!dA (a++r) (b++r'))):=by
 have he:∀W,(Op.equal T (.agg (a++r).toArray) (.agg (b++r').toArray)).run P W=.ok (dA (a++r) (b++r')) W:=fun W=>by
  have pD:=run_equalIn_struct (P:=P) W (Op.maxDepth-1) T (a++r).toArray (b++r').toArray ht hp;have h2:=Tt (P:=P) (Op.maxDepth-4) W (fs:=fs) (r:=r) (r':=r') hn Tu Tv Tw Tx ha hb h0 V;rw[hf]at pD;exact pD.trans h2
 apply G5 ho hx hy
 intro W
 rcases G4 with rfl|rfl
 all_goals simp_all[eqGuard,binOp]
end
section
variable {P:Program}{L O:Nat->Prop}{w0:World}{N:Nat}{ops:Array Oper}{F:List Nat}{n:Nat}{av:Array Bool}{o:Oper}{τ:Nat->AV}{H:Nat->AO}{Q:AQ}
theorem abq{i:Nat}{E:List Nat}{Z:(Nat->AV)->(Nat->AO)->Prop}(ho:ops[i]? = some o)(hs:wW P o N τ H E Z)(hF:F.contains i=true\/E=[])(hg:gv τ ops o=some true)
 (h:∀τ' H',Z τ' H'->AF P L O w0 N ops F n (av.setIfInBounds i true) τ' H' Q):d9 P L O w0 N ops F n av i τ H Q:=fun ρ fp a w bV=>
 wpOp_step ho fun K hK=>by
  rw[bV.wanted hg,if_pos rfl];exact hs.run bV (fun τ' H' a' w' ci bH hz gU lI=>hK _ _ ⟨Ef hF lI,h τ' H' hz ci bH a' w' gU⟩)
end

def fill{α:Type}(rows:List α)(z:α)(k:Nat):List α:=rows.take k++List.replicate (rows.length-k) z
section
variable {P:Program}{o:Oper}{τ:Nat->AV}{H:Nat->AO}{X:Nat->Bool}
end

abbrev dF(b:Int):List Value:=[.int .u8 b]
abbrev LO(T:TypeId)(l:List Int):AV:=.p (.ab T 1 (ah dF l))
def fA(l:List Int):Prop:=∀b∈l,0<=b/\b<=255
abbrev LP(l:List Int):AV:=.p (.v (.string (strOfNums l)))
theorem G7:∀ {l:List Int} {cs:List Value} {w:World} {fp:List Nat},bI w false 1 (ah dF l) cs fp->cs=l.map (Value.int .u8)
 |[],cs,w,fp,h=>by grind[ah,bI]
 |x::l,cs,w,fp,h=>by
  have e:ah dF (x::l)=[PV.v (.int .u8 x)]::ah dF l:=rfl;rw[e,bI]at h;obtain⟨_,c,r,f1,f2,rfl,rfl,V,h2⟩:=h;rw[bP]at V;obtain⟨c0,r0,f3,f4,rfl,rfl,h3,h4⟩:=V;rw[RW]at h3;rw[bP]at h4;rw[h3.1,h4.1,G7 h2];rfl
section
variable {P:Program}{o:Oper}{τ:Nat->AV}{H:Nat->AO}{X:Nat->Bool}
theorem LQ{s d e:TypeId}{W:World}{b off len cap:Nat}{l:List Int}(hs:P.underlying s=some (.slice e))(he:P.underlying e=some (.int .u8))(hd:P.underlying d=some .string)(hl:l.length=len)
 (h:jo W b off (l.map (Value.int .u8))):(convert s d (.slice (some ⟨b,off,none⟩) len cap)).run P W=.ok (.string (strOfNums l)) W:=
 run_convert_bytes_arg W s e hs he b off len cap l hl (fun i hi=>by
  have LR:i<l.length:=by omega
  have e1:(l.map (Value.int .u8))[i]? = some (.int .u8 l[i]):=by rw[List.getElem?_map,List.getElem?_eq_getElem LR];rfl
  have:=h i _ e1;grind) d hd
theorem LS{s d e:TypeId}{W:World}{p:Option Addr}{cap:Nat}(hs:P.underlying s=some (.slice e))(he:P.underlying e=some (.int .u8))(hd:P.underlying d=some .string):(convert s d (.slice p 0 cap)).run P W=.ok (.string (strOfNums [])) W:=by
 cases p with
 |none=>rw[run_convert_bytes_nil W s e hs he _ _ d hd];rfl
 |some a=>
  have hl:=run_loadCells_list (P:=P) W a [] (fun j v hj=>by cases hj);rw[run_convert_bytes_string W s d e _ _ _ hs he hd,run_bytesToString W a 0 cap [] hl];rfl
theorem vv{s d e T:TypeId}{x:Operand}{l:List Int}(ho:o.op=.convert s d x)(hs:P.underlying s=some (.slice e))(he:P.underlying e=some (.int .u8))(hd:P.underlying d=some .string)(hx:ev τ x=LO T l):Rd P o τ H X (LP l):=by
 constructor;intro L O w0 N ρ fp a w hr;have h:=hr.ev x;rw[hx,RV]at h;obtain⟨f0,h,hn⟩:=h;rw[RW]at h;obtain⟨xs,f1,f2,V,h2,rfl⟩:=h;have gG:=G7 V;subst gG;rw[ap]at h2;obtain⟨p,cap,q1,q2,q3,q4⟩:=h2;refine⟨.string (strOfNums l),fX rfl,fun W hK=>?_⟩;have e0:execOp a.eval o=(do let v <-convert s d (a.eval x);pure (.value v)):=by simp only[execOp,ho]
 rw[e0,q1,Sem.run_bind];rcases q4 with⟨hz,_⟩|⟨b,off,rfl,hc,hb,rfl⟩
 ·simp_all[LS]
 have hW:W.heap[b]? = w.heap[b]?:=hK.2 b hb (fun id k1 k2 k3=>hn b x_19 (.inr ⟨id,k2,k3⟩));have G8:jo W b off (l.map (Value.int .u8)):=fun j v hj=>by
  rw[World.cell?_of_block (w:=w) (a:=⟨b,off+j,none⟩) hW];exact hc j v hj
 rw[LQ hs he hd rfl G8];rfl
end
theorem LT:∀ {l m:List Int},fA l->fA m->(l.map fun n=>UInt8.ofNat n.toNat)=m.map (fun n=>UInt8.ofNat n.toNat)->l=m
 |[],[],_,_,_=>rfl
 |[],_::_,_,_,h=>by cases h
 |_::_,[],_,_,h=>by cases h
 |a::l,b::m,hl,hm,h=>by
  injection h with V h2;have ha:=hl a x_19;have hb:=hm b x_19;have e1:(UInt8.ofNat a.toNat).toNat=a.toNat:=by rw[UInt8.toNat_ofNat'];exact Nat.mod_eq_of_lt x_2
  have e2:(UInt8.ofNat b.toNat).toNat=b.toNat:=by rw[UInt8.toNat_ofNat'];exact Nat.mod_eq_of_lt x_2
  have e3:a.toNat=b.toNat:=by rw[<-e1,<-e2];exact congrArg UInt8.toNat V
  have:a=b:=by omega
  rw[this,LT (fun x hx=>hl x (by simp[hx])) (fun x hx=>hm x (by simp[hx])) h2]
theorem Ty{l m:List Int}(hl:fA l)(hm:fA m):((strOfNums l).toList==(strOfNums m).toList)=decide (l=m):=by
 rw[ByteArray.toList_eq,ByteArray.toList_eq,strOfNums_data,strOfNums_data];by_cases h:l=m
 ·grind
 rw[decide_eq_false h];exact Bool.eq_false_iff.2 (fun q=>h (LT hl hm x_14))
section
variable {P:Program}{x y:Operand}{T:TypeId}{l m:List Int}
theorem An(hT:P.underlying T=some .string)(hl:fA l)(hm:fA m):∀W,(do eqGuard .neq T x y (.string (strOfNums l)) (.string (strOfNums m));binOp .neq T (.string (strOfNums l)) (.string (strOfNums m)):Sem Value).run P W=.ok (.bool (!decide (l=m))) W:=fun W=>by
 simp_all[Ty,binOp_string_neq,eqGuard]
end

theorem TK(v:Value)(n:Nat):(Builtin.zeroCells #[v] n).toList=List.replicate n v:=by
 unfold Builtin.zeroCells;apply List.ext_getElem;all_goals grind
theorem L3{α:Type}(v:α):∀m,(List.replicate m [v]).flatten=List.replicate m v
 |0=>rfl
 |m+1=>by simp
section
variable {P:Program}
theorem TL{w:World}{t ti ty e:TypeId}{i:TypeInfo}{z v0:Value}(ht:P.underlying t=some (.slice e))(B5:P.underlying ti=some (.int .i64))(hi:P.info? e=some i)(hz:i.zero=some z)(G':z.cells=#[v0])(gR:i.size=1)(rZ:v0.oneCell'=true)
 {g:Nat} {n cap:Nat} {xs:List Value} (jE:w.ownsRow 0 e 1 (.slice (some ⟨g,0,none⟩) n cap) n xs) {m:Nat} (hm:0<m) (yQ:n+m<=maxLen) (wY:(n+m)*i.bytes<=140737488355328) :
 ∃v' w',(Builtin.append_ #[t,ti] ty #[.slice (some ⟨g,0,none⟩) n cap,.int .i64 (m:Int)]).run P w=.ok v' w'/\w'.ownsRow 0 e 1 v' (n+m) (xs++List.replicate m v0)/\w.grownBy w' (some g)/\(v'.ownBlock=some g\/v'.ownBlock=some w.heap.size)/\
  (∀b off,(some g=some b\/w.heap.size<=b)->b<w'.heap.size->w'.frozen? ⟨b,off,none⟩=false):=by
 have L4:n+m<=9223372036854775807:=by simp only[maxLen]at yQ;omega
 have hlen:(xs++List.replicate m v0).length=(n+m)*1:=by rw[List.length_append,jE.1,List.length_replicate];omega
 have L5:IntKind.i64.wrap (m:Int)=(m:Int):=by rw[IntKind.wrap_i64];omega
 have dY:¬((m:Int)<0):=by omega
 have L6:¬(281474976710656<(m:Int)*(i.bytes:Int)):=by
  have V:m*i.bytes<=(n+m)*i.bytes:=Nat.mul_le_mul_right _ x_2;have h2:((m*i.bytes:Nat):Int)<=140737488355328:=by omega
  rw[Int.natCast_mul]at h2;omega
 have L7:¬m=0:=by omega
 have ug:(Builtin.zeroCells #[v0] m).toList=List.replicate m v0:=TK v0 m
 rcases jE.2 with⟨q,_⟩|⟨g',uh,cur,q,te,hg,hnc,bC,pI,htake⟩
 ·cases q
 injection q with q1 q2 q3
 injection q1 with q1
 injection q1 with q1
 subst q1 q3
 by_cases r6:n+m<=cap
 ·have vz:n*1+(List.replicate m v0).length<=cur.size:=by rw[List.length_replicate,pI];omega
  have dM:=run_storeCells_at P g (n*1) e (List.replicate m v0) 0 cur w hg x_2 (fun u hu=>by grind)
  simp only[Nat.add_zero,Nat.mul_one]at dM
  have hr:(Builtin.append_ #[t,ti] ty #[.slice (some ⟨g,0,none⟩) n cap,.int .i64 (m:Int)]).run P w=.ok (.slice (some ⟨g,0,none⟩) (n+m) cap) (w.setRow g (cur.toList.take n++List.replicate m v0++cur.toList.drop (n+(List.replicate m v0).length)).toArray):=by
   simp[Builtin.append_,run_underlying ht,run_underlying B5,sizeOf,typeInfo,zeroValue,hi,hz,G',gR,asInt,asIntOf,L5,dY,L6,L7,r6,ug,Addr.add_lit,dM]
  refine⟨_,_,hr,⟨hlen,.inr ⟨g,cap,_,rfl,te,setRow_heap w g cur _ e _ hg,r6,bC,?_,?_⟩⟩,⟨rfl,rfl,rfl,by simp,fun k _ hk=>setRow_other w g k _ (fun e=>hk (by simp[e]))⟩,.inl rfl,?_⟩
  ·grind
  ·grind
  intro b off hb eI
  rw[setRow_size]at eI
  have te:g=b:=by
   rcases hb with hb|hb
   ·grind
   omega
  subst te
  simp[World.frozen?,setRow_heap w g cur _ e _ hg]
 have holds:∀j u,xs[j]? = some u->w.cell? ((⟨g,0,none⟩:Addr).add j)=some u:=jE.cells (g:=g) rfl
 have hn:¬(n+m<=cap):=r6
 have TN:¬(9223372036854775807<((n:Int)+(m:Int))):=by omega
 have TO:¬(281474976710656<Builtin.nextslicecap (n+m) cap*i.bytes):=by have:=growslice_fits (need:=n+m) (old:=cap) x_2 wY;omega
 have TP:=run_firstCells_some (P:=P) w.drew 1 n ⟨g,0,none⟩ n cap xs jE.1 (by trivial)
 have hr:(Builtin.append_ #[t,ti] ty #[.slice (some ⟨g,0,none⟩) n cap,.int .i64 (m:Int)]).run P w=.ok (.slice (some ⟨w.heap.size,0,none⟩) (n+m) (grownCap w (n+m) cap e)) (w.drew.alloc (.cells (xs.toArray++(List.replicate m v0).toArray++Builtin.zeroCells z.cells (grownCap w (n+m) cap e-(n+m))) e)):=by
  have TQ:Builtin.zeroCells #[v0] m=(List.replicate m v0).toArray:=by rw[<-ug]
  simp[Builtin.append_,run_underlying ht,run_underlying B5,sizeOf,typeInfo,zeroValue,hi,hz,G',gR,asInt,asIntOf,L5,dY,L6,L7,hn,TN,TO,Question.forced,TP,newRow,grownCap,TQ]
 have Hd:=grownCap_ge w (n+m) cap e
 have TR:grownCap w (n+m) cap e<=maxLen:=grownCap_le_maxLen w (n+m) cap e yQ
 refine⟨_,_,hr,⟨hlen,.inr ⟨w.heap.size,_,_,rfl,Nat.zero_le _,heap_alloc_new w.drew _,Hd,TR,?_,?_⟩⟩,⟨rfl,rfl,rfl,by simp,fun k hk _=>heap_alloc_old w.drew _ hk⟩,.inr rfl,?_⟩
 ·grind[size_zeroCells]
 ·grind
 intro b off hb eI
 rcases hb with hb|hb
 ·injection hb with hb
  subst hb
  have Ei:g<w.drew.heap.size:=(Array.getElem?_eq_some_iff.1 hg).1
  rw[World.frozen?_of_block (w:=w.drew) (heap_alloc_old w.drew _ Ei)]
  have:w.drew.heap[g]? = some (.cells cur e (0,0)):=hg
  simp[World.frozen?,this]
 simp_all[yR]
end
section
variable {P:Program}{N:Nat}{τ:Nat->AV}{H:Nat->AO}{o:Oper}
theorem L8(id:Nat){t ti e:TypeId}{s x:Operand}{d m:Nat}{n:Int}{v0:Value}{rows:List (List PV)}{pn:Option Value}(ho:o.op=.call { callee:=.builtin .append,args:=#[s,x],argTypes:=#[t,ti] })(hd:o.dst=some d)(ht:d<N)(he:iw P t=some (e,1))(hz:jg P e=some [v0])(rZ:v0.oneCell'=true)(B5:intKind P ti=some .i64)
 (hs:ev τ s=.own id) (hH:H id=.ai ⟨e,pn⟩ 1 rows) (hx:ev τ x=.p (.v (.int .i64 n))) (hn:n=(m:Int)) (h0:0<rows.length) (Ej:0<m) (hm:rows.length+m<=maxLen) (hb:(rows.length+m)*P.bytesOf e<=140737488355328) :
 St P o N τ H [id] (aH (fun s=>bq (cK id) (τ s)) d (.own id)) (aH (fun j=>(H j).bq (cK id)) id (.ai e 1 (rows++List.replicate m [.v v0]))):=by
 subst hn
 obtain⟨i,z,i1,i2,i3,i4,i5⟩:=B6 hz
 obtain⟨q1,_,q3⟩:=wZ he
 have nj:i.size=1:=i4.trans q3
 have TS:P.underlying ti=some (.int .i64):=by unfold intKind at B5;split at B5<;>simp_all
 have this:St P o N τ H [id] (mb (fun s=>bq (cK id) (τ s)) o.dst (.own id)) (aH (fun j=>(H j).bq (cK id)) id (.ai e 1 (rows++List.replicate m [.v v0]))):=St.ahH id (cK id) (.own id) _ [id] (fun s hs=>by rw[hd]at hs;cases hs;exact ht) (fun{L O w0 ρ fp a w} hr=>by
  have es:=hr.ev s;rw[hs,RV]at es;have es:=es.2 x_122;have ex:=(hr.ev x);rw[hx]at ex;have ex:=ex.gd;have bY:=hr.ob id;rw[hH]at bY;obtain⟨xs,fr,b1,b2,b3,b4,_⟩:=bY;obtain⟨g,cap,hg⟩:∃g cap,ρ id=.slice (some ⟨g,0,none⟩) rows.length cap:=by
   rcases b3.2 with⟨_,q⟩|⟨g,cap,cur,q,_⟩
   ·omega
   exact⟨g,cap,q⟩
  rw[hg]at b3;obtain⟨v',w',r1,r2,r3,r4,r5⟩:=TL (P:=P) (ty:=o.type) q1 TS i1 i2 (v0:=v0) (by rw[i3]) nj rZ b3 Ej hm (by rw[i5];exact hb);have pJ:(ρ id).ownBlock=some g:=by rw[hg];rfl
  refine⟨w',v',(ρ id).ownBlock,v',_,?_,.inl rfl,by rw[pJ];exact r3,fun b hb=>⟨by simp,by rw[hH];rfl,hb⟩,fun b off h=>by rw[pJ]at h;exact r5 b off h,fun hk=>(by simp[cK]at hk),fun b hb=>?_,fun E=>⟨?_,?_⟩⟩
  ·simp only[execOp,ho,resolve,invoke,builtin,Sem.run_bind,Sem.run_pure,Result.andThen_ok,List.map_toArray,List.map_cons,List.map_nil,es,hg,ex,r1]
  ·rcases r4 with q|q
   ·exact .inr ⟨by rw[hH];rfl,by rw[pJ,<-q];exact hb⟩
   rw[q]at hb;injection hb with hb;exact .inl (Nat.le_of_eq hb)
  ·obtain⟨k1,k2⟩:=bI.vA E b1 b2;have k3:bI w' false 1 (List.replicate m [PV.v v0]) (List.replicate m v0) []:=by
    have:=bI.dg (w:=w') (st:=false) (zs:=[v0]) (by intro u hu;rw[List.mem_singleton.1 hu];exact rZ) m;have e:(List.replicate m [v0]).flatten=List.replicate m v0:=L3 v0 m;rw[e]at this;exact this
   refine⟨xs++List.replicate m v0,fr++[],bI.append k1 k3,fun b hb=>?_,?_,rfl,fun u hu=>by cases hu⟩
   ·rw[List.append_nil]at hb;exact k2 b hb
   rw[List.length_append,List.length_replicate];exact r2
  rw[RV,dV,dV];have:v'.oneCell'=true:=by
   rcases r2.2 with⟨q,_⟩|⟨g,cap,cur,q,_⟩<;>rw[q]<;>rfl
  exact⟨this,fun _=>rfl⟩)
 rw[hd]at this
 exact this
end

section
variable {P:Program}{f:FuncId}{args:List AV}{i sz:Nat}{e:TypeId}{rows:List (List PV)}
theorem GC.ui(h:GC P f args [] (.own i) [(i,.ai ⟨e,none⟩ sz rows)]):GC P f args [] (.p (.ab e sz rows)) []:=
 (GX.frozen (Z:=fun y=>y=.p (.ab e sz rows)) h fun x ob ⟨V,h2⟩=>by
   subst V h2;exact⟨_,Still.row (e:=⟨e,none⟩) (sz:=sz) (rows:=rows) (by simp[bx]),rfl⟩).mono fun y o ⟨e1,e2⟩=>⟨e2,e1⟩
theorem GC.Aq{x2:PV}(h:GC P f args [] (.au [.own i,.p x2]) [(i,.ai ⟨e,none⟩ sz rows)]):GC P f args [] (.au [.p (.ab e sz rows),.p x2]) []:=
 (GX.frozen (Z:=fun y=>y=.au [.p (.ab e sz rows),.p x2]) h fun x ob ⟨V,h2⟩=>by
   subst V h2;exact⟨_,Still.au (.cons (Still.row (e:=⟨e,none⟩) (sz:=sz) (rows:=rows) (by simp[bx])) (.cons (Still.p _) .nil)),rfl⟩).mono fun y o ⟨e1,e2⟩=>⟨e2,e1⟩
def L9(e:TypeId)(sz:Nat)(rows:List (List PV)):AV->List (Nat×AO)->List AO->Prop:=fun y l1 F1=>∃v,y=.p (.v v)/\l1=[]/\F1=[.ai ⟨e,some v⟩ sz rows]
theorem GC.TT(h:GC P f args [] (.own i) [(i,.ai ⟨e,none⟩ sz rows)])(jC:∀r∈rows,∀p∈r,∃v,p=PV.v v):GN P f args [] [] (L9 e sz rows):=by
 intro L w cs ρ fp hL pF bY pG ud;refine Calls.mono (h L w cs ρ fp hL pF bY pG ud) ?_;rintro en w' ⟨x,bd,⟨rfl,rfl⟩,v,ci,bH,rfl,g1,g2,g3,g4,g5⟩;have hi:bx [(i,AO.ai ⟨e,none⟩ sz rows)] i=.ai ⟨e,none⟩ sz rows:=by simp[bx]
 rw[RV]at g2;have vC:=g2.1;have hv:=g2.2 (by rw[hi];rfl);have h3:=g3 i;rw[hi]at h3;obtain⟨xs,fr,k1,k2,k3,k4,_⟩:=h3;have ke:=k1.vj jC;subst ke;refine⟨.p (.v v),je 1000000 [.ai ⟨e,some v⟩ sz rows],⟨[],[.ai ⟨e,some v⟩ sz rows],rfl,fun o ho=>by rw[List.mem_singleton.1 ho];rfl,by simp,rfl,v,rfl,rfl,rfl⟩,v,(fun j=>if j=1000000 then v else undef),(fun j=>if j=1000000 then bH i else []),rfl,g1,?_,fun j=>?_,fun j j' hj b hb ec=>?_,fun j b hb=>?_⟩
 ·exact fX vC
 ·by_cases q:j=1000000
  ·subst q;simp only[if_true];have e1:bx (je 1000000 [.ai ⟨e,some v⟩ sz rows]) 1000000=.ai ⟨e,some v⟩ sz rows:=by rw[Ar];simp
   rw[e1];exact⟨xs,[],k1,by simp,by rw[hv];exact k3,by rw[hv];exact k4,fun u hu=>by injection hu⟩
  have e1:bx (je 1000000 [AO.ai ⟨e,some v⟩ sz rows]) j=.gone:=by
   rw[Ar];by_cases z:1000000<=j
   ·rw[if_pos z,List.getElem?_eq_none x_74];rfl
   rw[if_neg z]
  rw[e1];show (if j=1000000 then bH i else [])=[];rw[if_neg q]
 all_goals grind
end

def cl:Nat->Int->List Int
 |0,_=>[]
 |k+1,n=>n/256 ^ k%256::cl k n
theorem da(n:Int):∀k,(cl k n).length=k
 |0=>rfl
 |k+1=>by rw[cl,List.length_cons,da n k]
theorem wX(n:Int):∀k,fA (cl k n)
 |0=>fun b hb=>by cases hb
 |k+1=>fun b hb=>by
  rw[cl]at hb;rcases List.mem_cons.1 hb with rfl|hb
  ·omega
  exact wX n k b hb
theorem LU(n:Int):∀(k j:Nat),j<k->(cl k n)[j]? = some (n/256 ^ (k-1-j)%256)
 |0,j,h=>absurd h x_2
 |k+1,0,_=>by rfl
 |k+1,j+1,h=>by
  rw[cl,List.getElem?_cons_succ,LU n k j x_2,show k+1-1-(j+1)=k-1-j by omega]
theorem Tz{n:Int}{k j:Nat}(h:j<k):(cl k n).take (j+1)=(cl k n).take j++[n/256 ^ (k-1-j)%256]:=by
 have hl:j<(cl k n).length:=by rw[da];exact h
 rw[List.take_succ_eq_append_getElem hl];have:=LU n k j h;grind
def mO(l:List Int):Int:=l.foldl (fun n x=>n*256+x) 0
theorem TA(l:List Int)(x:Int):mO (l++[x])=mO l*256+x:=by grind[mO]
theorem LV:∀(l:List Int) (a:Int),fA l->0<=a->0<=l.foldl (fun n x=>n*256+x) a/\l.foldl (fun n x=>n*256+x) a<(a+1)*256 ^ l.length
 |[],a,_,ha=>by grind
 |x::l,a,h,ha=>by
  have hx:=h x x_19;have ih:=LV l (a*256+x) (fun b hb=>h b (by simp[hb])) x_2;rw[List.foldl_cons,List.length_cons,Int.pow_succ];refine⟨ih.1,Int.lt_of_lt_of_le ih.2 ?_⟩;have V:a*256+x+1<=(a+1)*256:=by omega
  have h2:(0:Int)<=256 ^ l.length:=Int.pow_nonneg x_2;have:=Int.mul_le_mul_of_nonneg_right V h2;grind
theorem LW:∀(k:Nat) (n a:Int),0<=n->n<256 ^ k->(cl k n).foldl (fun n x=>n*256+x) a=a*256 ^ k+n
 |0,n,a,h0,V=>by
  grind[cl]
 |k+1,n,a,h0,V=>by
  rw[cl,List.foldl_cons];have hp:(0:Int)<256 ^ k:=Int.pow_pos x_2;have e1:n/256 ^ k%256=n/256 ^ k:=by
   refine Int.emod_eq_of_lt (Int.ediv_nonneg h0 x_2) (Int.ediv_lt_of_lt_mul hp ?_);rw[Int.pow_succ,Int.mul_comm]at V;exact V
  have e2:∀(j:Nat) (m:Int),j<=k->cl j m=cl j (m%256 ^ k):=by
   intro j;induction j with
   |zero=>intro m _;rfl
   |succ j ih=>
    intro m hj;rw[cl,cl,ih m x_2];congr 1;have Eg:(256:Int) ^ k=256 ^ (j+1)*256 ^ (k-(j+1)):=by rw[<-Int.pow_add];congr 1;omega
    have hpj:(0:Int)<256 ^ j:=Int.pow_pos x_2;have key:m%256 ^ k=m-256 ^ j*(256*(256 ^ (k-(j+1))*(m/256 ^ k))):=by
     rw[Int.emod_def,Eg,Int.pow_succ];simp only[Int.mul_assoc]
    rw[key,Int.sub_mul_ediv_left _ _ x_2,Int.sub_mul_emod_self_left]
  rw[e2 k n (Nat.le_refl _),LW k (n%256 ^ k) _ (Int.emod_nonneg _ x_2) (Int.emod_lt_of_pos _ hp),e1,Int.pow_succ,Int.add_mul,Int.mul_assoc,Int.mul_comm 256];grind[Int.mul_ediv_add_emod]
theorem LX{k:Nat}{n:Int}(h0:0<=n)(V:n<256 ^ k):mO (cl k n)=n:=by
 grind[mO,LW]
end Go.Proofs.YtflhgkmhmcfimaaGreat

namespace Go.Proofs.YtflhgkmhmcfimaaGreat
set_option maxRecDepth 100000
open Tryz
open Go Go.Proofs Go.Proofs.YtflhgkmhmcfimaaGreat
theorem ac:dq prog 3=some none:=by rfl
theorem ca:prog.cellsOf 3=1:=by rfl
theorem uy:prog.bytesOf 3<=512:=Nat.le_of_ble_eq_true (by rfl)
theorem cb:(prog.info? 3).isSome=true:=by rfl
theorem lM:intKind prog 3=some .i64:=by rfl
theorem lY:jg prog 3=some [.int .i64 0]:=by kernel_rfl
theorem jN:dq prog 4=some none:=by rfl
theorem ES:prog.cellsOf 4=1:=by rfl
theorem ET:(prog.info? 4).isSome=true:=by rfl
theorem xD:jg prog 4=some [.bool false]:=by kernel_rfl
theorem tf:dq prog 5=some none:=by rfl
theorem Vs:prog.cellsOf 5=1:=by rfl
theorem mu:prog.bytesOf 5<=512:=Nat.le_of_ble_eq_true (by rfl)
theorem Vt:(prog.info? 5).isSome=true:=by rfl
theorem pK:intKind prog 5=some .u8:=by rfl
theorem ie:jg prog 5=some [.int .u8 0]:=by kernel_rfl
theorem oB:dq prog 40=some none:=by rfl
theorem VF:prog.cellsOf 40=1:=by rfl
theorem VG:(prog.info? 40).isSome=true:=by rfl
theorem xE:iw prog 40=some (195,1):=by rfl
theorem po:isSlice prog 40=true:=by rfl
theorem sk:dq prog 41=some none:=by rfl
theorem VH:prog.cellsOf 41=1:=by rfl
theorem VI:(prog.info? 41).isSome=true:=by rfl
theorem uz:iw prog 41=some (192,2):=by rfl
theorem vT:isSlice prog 41=true:=by rfl
theorem mE:dq prog 43=some (some 2):=by rfl
theorem Dv:prog.cellsOf 43=2:=by rfl
theorem Dw:(prog.info? 43).isSome=true:=by rfl
theorem n9:FA prog 43 0 0 40:=⟨by rfl,by trivial,by rfl⟩
theorem ru:FA prog 43 1 1 41:=⟨by rfl,by trivial,by rfl⟩
theorem Du:jg prog 43=some [.slice none 0 0,.slice none 0 0]:=by kernel_rfl
theorem adU:qp prog 43=some ([.slice none 0 0,.slice none 0 0],[(0,1),(1,1)]):=by kernel_rfl
theorem EY:dq prog 45=some (some 4):=by rfl
theorem Nv:prog.cellsOf 45=4:=by rfl
theorem Nw:(prog.info? 45).isSome=true:=by rfl
theorem Bv:FA prog 45 0 0 43:=⟨by rfl,by trivial,by rfl⟩
theorem wD:FA prog 45 1 2 3:=⟨by rfl,by trivial,by rfl⟩
theorem zW:FA prog 45 2 3 3:=⟨by rfl,by trivial,by rfl⟩
theorem Nx:jg prog 45=some [.slice none 0 0,.slice none 0 0,.int .i64 0,.int .i64 0]:=by kernel_rfl
theorem abQ:qp prog 45=some ([.slice none 0 0,.slice none 0 0,.int .i64 0,.int .i64 0],[(0,2),(2,1),(3,1)]):=by kernel_rfl
theorem eg:dq prog 46=some none:=by rfl
theorem sM:prog.cellsOf 46=1:=by rfl
theorem sN:(prog.info? 46).isSome=true:=by rfl
theorem cz:iw prog 46=some (159,7):=by rfl
theorem kJ:isSlice prog 46=true:=by rfl
theorem fS:dq prog 47=some none:=by rfl
theorem tQ:prog.cellsOf 47=1:=by rfl
theorem tR:(prog.info? 47).isSome=true:=by rfl
theorem f7:iw prog 47=some (218,7):=by rfl
theorem jb:isSlice prog 47=true:=by rfl
theorem ii:dq prog 48=some none:=by rfl
theorem yh:prog.cellsOf 48=1:=by rfl
theorem yk:(prog.info? 48).isSome=true:=by rfl
theorem iI:iw prog 48=some (220,5):=by rfl
theorem j7:isSlice prog 48=true:=by rfl
theorem cu:dq prog 50=some (some 6):=by rfl
theorem eu:prog.cellsOf 50=6:=by rfl
theorem ew:(prog.info? 50).isSome=true:=by rfl
theorem mB:FA prog 50 0 0 3:=⟨by rfl,by trivial,by rfl⟩
theorem mW:FA prog 50 1 1 3:=⟨by rfl,by trivial,by rfl⟩
theorem iW:FA prog 50 2 2 3:=⟨by rfl,by trivial,by rfl⟩
theorem dr:FA prog 50 3 3 46:=⟨by rfl,by trivial,by rfl⟩
theorem eF:FA prog 50 4 4 47:=⟨by rfl,by trivial,by rfl⟩
theorem gn:FA prog 50 5 5 48:=⟨by rfl,by trivial,by rfl⟩
theorem mD:jg prog 50=some [.int .i64 0,.int .i64 0,.int .i64 0,.slice none 0 0,.slice none 0 0,.slice none 0 0]:=by kernel_rfl
theorem s6:qp prog 50=some ([.int .i64 0,.int .i64 0,.int .i64 0,.slice none 0 0,.slice none 0 0,.slice none 0 0],[(0,1),(1,1),(2,1),(3,1),(4,1),(5,1)]):=by rfl
theorem gY:dq prog 51=some none:=by rfl
theorem z8:prog.cellsOf 51=1:=by rfl
theorem z':(prog.info? 51).isSome=true:=by rfl
theorem cV:iw prog 51=some (167,3):=by rfl
theorem hZ:isSlice prog 51=true:=by rfl
theorem eZ:dq prog 53=some (some 2):=by rfl
theorem cA:prog.cellsOf 53=2:=by rfl
theorem cB:(prog.info? 53).isSome=true:=by rfl
theorem pW:FA prog 53 0 0 3:=⟨by rfl,by trivial,by rfl⟩
theorem jY:FA prog 53 1 1 51:=⟨by rfl,by trivial,by rfl⟩
theorem ld:jg prog 53=some [.int .i64 0,.slice none 0 0]:=by kernel_rfl
theorem lP:qp prog 53=some ([.int .i64 0,.slice none 0 0],[(0,1),(1,1)]):=by rfl
theorem tE:dq prog 54=some none:=by rfl
theorem Ny:prog.cellsOf 54=1:=by rfl
theorem Nz:(prog.info? 54).isSome=true:=by rfl
theorem jk:iw prog 54=some (81,7):=by rfl
theorem jZ:isSlice prog 54=true:=by rfl
theorem EZ:dq prog 56=some (some 14):=by rfl
theorem NA:prog.cellsOf 56=14:=by rfl
theorem NB:(prog.info? 56).isSome=true:=by rfl
theorem qL:FA prog 56 0 0 45:=⟨by rfl,by trivial,by rfl⟩
theorem Bw:FA prog 56 1 4 50:=⟨by rfl,by trivial,by rfl⟩
theorem Bx:FA prog 56 2 10 53:=⟨by rfl,by trivial,by rfl⟩
theorem Bz:FA prog 56 3 12 54:=⟨by rfl,by trivial,by rfl⟩
theorem By:FA prog 56 4 13 54:=⟨by rfl,by trivial,by rfl⟩
theorem Ig:jg prog 56=some [.slice none 0 0,.slice none 0 0,.int .i64 0,.int .i64 0,.int .i64 0,.int .i64 0,.int .i64 0,.slice none 0 0,.slice none 0 0,.slice none 0 0,.int .i64 0,.slice none 0 0,.slice none 0 0,.slice none 0 0]:=by kernel_rfl
theorem acf:qp prog 56=some ([.slice none 0 0,.slice none 0 0,.int .i64 0,.int .i64 0,.int .i64 0,.int .i64 0,.int .i64 0,.slice none 0 0,.slice none 0 0,.slice none 0 0,.int .i64 0,.slice none 0 0,.slice none 0 0,.slice none 0 0],[(0,4),(4,6),(10,2),(12,1),(13,1)]):=by kernel_rfl
theorem iU:iw prog 62=some (3,1):=by rfl
theorem x4:isSlice prog 62=true:=by rfl
theorem kb:dq prog 76=some none:=by rfl
theorem Ih:prog.cellsOf 76=1:=by rfl
theorem Ii:(prog.info? 76).isSome=true:=by rfl
theorem fh:iw prog 76=some (5,1):=by rfl
theorem kE:isSlice prog 76=true:=by rfl
theorem dD:dq prog 81=some (some 7):=by rfl
theorem mZ:prog.cellsOf 81=7:=by rfl
theorem sD:prog.bytesOf 81<=512:=Nat.le_of_ble_eq_true (by rfl)
theorem m0:(prog.info? 81).isSome=true:=by rfl
theorem jz:FA prog 81 0 0 3:=⟨by rfl,by trivial,by rfl⟩
theorem gE:FA prog 81 1 1 3:=⟨by rfl,by trivial,by rfl⟩
theorem dn:FA prog 81 2 2 3:=⟨by rfl,by trivial,by rfl⟩
theorem fK:FA prog 81 3 3 3:=⟨by rfl,by trivial,by rfl⟩
theorem bN:FA prog 81 4 4 3:=⟨by rfl,by trivial,by rfl⟩
theorem fC:FA prog 81 5 5 3:=⟨by rfl,by trivial,by rfl⟩
theorem pw:FA prog 81 6 6 4:=⟨by rfl,by trivial,by rfl⟩
theorem jl:jg prog 81=some [.int .i64 0,.int .i64 0,.int .i64 0,.int .i64 0,.int .i64 0,.int .i64 0,.bool false]:=by kernel_rfl
theorem xF:qp prog 81=some ([.int .i64 0,.int .i64 0,.int .i64 0,.int .i64 0,.int .i64 0,.int .i64 0,.bool false],[(0,1),(1,1),(2,1),(3,1),(4,1),(5,1),(6,1)]):=by rfl
theorem vb:iw prog 82=some (92,2):=by rfl
theorem pX:isSlice prog 82=true:=by rfl
theorem ol:dq prog 92=some (some 2):=by rfl
theorem na:prog.cellsOf 92=2:=by rfl
theorem NC:prog.bytesOf 92<=512:=Nat.le_of_ble_eq_true (by rfl)
theorem nb:(prog.info? 92).isSome=true:=by rfl
theorem wN:FA prog 92 0 0 3:=⟨by rfl,by trivial,by rfl⟩
theorem t7:FA prog 92 1 1 51:=⟨by rfl,by trivial,by rfl⟩
theorem pC:jg prog 92=some [.int .i64 0,.slice none 0 0]:=by kernel_rfl
theorem uA:qp prog 92=some ([.int .i64 0,.slice none 0 0],[(0,1),(1,1)]):=by rfl
theorem BQ:dq prog 132=some none:=by rfl
theorem K1:prog.cellsOf 132=1:=by rfl
theorem K2:(prog.info? 132).isSome=true:=by rfl
theorem tY:iw prog 132=some (141,3):=by rfl
theorem yw:isSlice prog 132=true:=by rfl
theorem Su:jg prog 132=some [.slice none 0 0]:=by kernel_rfl
theorem nP:dq prog 141=some (some 3):=by rfl
theorem mL:prog.cellsOf 141=3:=by rfl
theorem Gh:prog.bytesOf 141<=512:=Nat.le_of_ble_eq_true (by rfl)
theorem mM:(prog.info? 141).isSome=true:=by rfl
theorem tX:FA prog 141 0 0 3:=⟨by rfl,by trivial,by rfl⟩
theorem rQ:FA prog 141 1 1 3:=⟨by rfl,by trivial,by rfl⟩
theorem u':FA prog 141 2 2 76:=⟨by rfl,by trivial,by rfl⟩
theorem pB:jg prog 141=some [.int .i64 0,.int .i64 0,.slice none 0 0]:=by kernel_rfl
theorem r9:qp prog 141=some ([.int .i64 0,.int .i64 0,.slice none 0 0],[(0,1),(1,1),(2,1)]):=by rfl
theorem dR:FA prog 153 0 0 50:=⟨by rfl,by trivial,by rfl⟩
theorem DJ:FA prog 153 1 6 51:=⟨by rfl,by trivial,by rfl⟩
theorem mK:FA prog 153 2 7 3:=⟨by rfl,by trivial,by rfl⟩
theorem VJ:qp prog 153=some ([.int .i64 0,.int .i64 0,.int .i64 0,.slice none 0 0,.slice none 0 0,.slice none 0 0,.slice none 0 0,.int .i64 0],[(0,6),(6,1),(7,1)]):=by rfl
theorem fF:dq prog 159=some (some 7):=by rfl
theorem lu:prog.cellsOf 159=7:=by rfl
theorem jL:prog.bytesOf 159<=512:=Nat.le_of_ble_eq_true (by rfl)
theorem lv:(prog.info? 159).isSome=true:=by rfl
theorem kM:FA prog 159 0 0 3:=⟨by rfl,by trivial,by rfl⟩
theorem qS:FA prog 159 1 1 3:=⟨by rfl,by trivial,by rfl⟩
theorem fH:FA prog 159 2 2 3:=⟨by rfl,by trivial,by rfl⟩
theorem ic:FA prog 159 3 3 3:=⟨by rfl,by trivial,by rfl⟩
theorem nE:FA prog 159 4 4 3:=⟨by rfl,by trivial,by rfl⟩
theorem mH:FA prog 159 5 5 3:=⟨by rfl,by trivial,by rfl⟩
theorem ms:FA prog 159 6 6 3:=⟨by rfl,by trivial,by rfl⟩
theorem dy:jg prog 159=some [.int .i64 0,.int .i64 0,.int .i64 0,.int .i64 0,.int .i64 0,.int .i64 0,.int .i64 0]:=by kernel_rfl
theorem BB:qp prog 159=some ([.int .i64 0,.int .i64 0,.int .i64 0,.int .i64 0,.int .i64 0,.int .i64 0,.int .i64 0],[(0,1),(1,1),(2,1),(3,1),(4,1),(5,1),(6,1)]):=by rfl
theorem i0:dq prog 165=some (some 2):=by rfl
theorem Dm:prog.cellsOf 165=2:=by rfl
theorem oW:FA prog 165 0 0 3:=⟨by rfl,by trivial,by rfl⟩
theorem rV:FA prog 165 1 1 3:=⟨by rfl,by trivial,by rfl⟩
theorem KW:qp prog 165=some ([.int .i64 0,.int .i64 0],[(0,1),(1,1)]):=by rfl
theorem iV:dq prog 167=some (some 3):=by rfl
theorem vf:prog.cellsOf 167=3:=by rfl
theorem lE:prog.bytesOf 167<=512:=Nat.le_of_ble_eq_true (by rfl)
theorem vg:(prog.info? 167).isSome=true:=by rfl
theorem jf:FA prog 167 0 0 165:=⟨by rfl,by trivial,by rfl⟩
theorem ni:FA prog 167 1 2 3:=⟨by rfl,by trivial,by rfl⟩
theorem eP:jg prog 167=some [.int .i64 0,.int .i64 0,.int .i64 0]:=by kernel_rfl
theorem DK:qp prog 167=some ([.int .i64 0,.int .i64 0,.int .i64 0],[(0,2),(2,1)]):=by rfl
theorem AY:dq prog 192=some (some 2):=by rfl
theorem E0:prog.cellsOf 192=2:=by rfl
theorem VS:prog.bytesOf 192<=512:=Nat.le_of_ble_eq_true (by rfl)
theorem E1:(prog.info? 192).isSome=true:=by rfl
theorem xG:FA prog 192 0 0 3:=⟨by rfl,by trivial,by rfl⟩
theorem zm:FA prog 192 1 1 76:=⟨by rfl,by trivial,by rfl⟩
theorem CA:jg prog 192=some [.int .i64 0,.slice none 0 0]:=by kernel_rfl
theorem acq:qp prog 192=some ([.int .i64 0,.slice none 0 0],[(0,1),(1,1)]):=by kernel_rfl
theorem zn:dq prog 195=some (some 1):=by rfl
theorem E2:prog.cellsOf 195=1:=by rfl
theorem VT:prog.bytesOf 195<=512:=Nat.le_of_ble_eq_true (by rfl)
theorem E3:(prog.info? 195).isSome=true:=by rfl
theorem uB:FA prog 195 0 0 76:=⟨by rfl,by trivial,by rfl⟩
theorem CB:jg prog 195=some [.slice none 0 0]:=by kernel_rfl
theorem acN:qp prog 195=some ([.slice none 0 0],[(0,1)]):=by kernel_rfl
theorem kZ:dq prog 218=some (some 7):=by rfl
theorem nJ:prog.cellsOf 218=7:=by rfl
theorem sQ:prog.bytesOf 218<=512:=Nat.le_of_ble_eq_true (by rfl)
theorem nL:(prog.info? 218).isSome=true:=by rfl
theorem u7:FA prog 218 0 0 3:=⟨by rfl,by trivial,by rfl⟩
theorem oM:FA prog 218 1 1 3:=⟨by rfl,by trivial,by rfl⟩
theorem mJ:FA prog 218 2 2 3:=⟨by rfl,by trivial,by rfl⟩
theorem n3:FA prog 218 3 3 3:=⟨by rfl,by trivial,by rfl⟩
theorem kw:FA prog 218 4 4 3:=⟨by rfl,by trivial,by rfl⟩
theorem BF:FA prog 218 5 5 4:=⟨by rfl,by trivial,by rfl⟩
theorem tV:FA prog 218 6 6 3:=⟨by rfl,by trivial,by rfl⟩
theorem iu:jg prog 218=some [.int .i64 0,.int .i64 0,.int .i64 0,.int .i64 0,.int .i64 0,.bool false,.int .i64 0]:=by kernel_rfl
theorem z0:qp prog 218=some ([.int .i64 0,.int .i64 0,.int .i64 0,.int .i64 0,.int .i64 0,.bool false,.int .i64 0],[(0,1),(1,1),(2,1),(3,1),(4,1),(5,1),(6,1)]):=by rfl
theorem l5:dq prog 220=some (some 5):=by rfl
theorem oK:prog.cellsOf 220=5:=by rfl
theorem wI:prog.bytesOf 220<=512:=Nat.le_of_ble_eq_true (by rfl)
theorem oL:(prog.info? 220).isSome=true:=by rfl
theorem u9:FA prog 220 0 0 3:=⟨by rfl,by trivial,by rfl⟩
theorem nO:FA prog 220 1 1 3:=⟨by rfl,by trivial,by rfl⟩
theorem py:FA prog 220 2 2 3:=⟨by rfl,by trivial,by rfl⟩
theorem lO:FA prog 220 3 3 3:=⟨by rfl,by trivial,by rfl⟩
theorem pO:FA prog 220 4 4 3:=⟨by rfl,by trivial,by rfl⟩
theorem jO:jg prog 220=some [.int .i64 0,.int .i64 0,.int .i64 0,.int .i64 0,.int .i64 0]:=by kernel_rfl
theorem F8:qp prog 220=some ([.int .i64 0,.int .i64 0,.int .i64 0,.int .i64 0,.int .i64 0],[(0,1),(1,1),(2,1),(3,1),(4,1)]):=by rfl
theorem ajv:FA prog 224 0 0 76:=⟨by kernel_rfl,by rw[show prog.cellsOf 76=1 by kernel_rfl];decide,by kernel_rfl⟩
theorem aiy:FA prog 224 1 1 3:=⟨by kernel_rfl,by rw[show prog.cellsOf 3=1 by kernel_rfl];decide,by kernel_rfl⟩
theorem aiz:FA prog 224 2 2 3:=⟨by kernel_rfl,by rw[show prog.cellsOf 3=1 by kernel_rfl];decide,by kernel_rfl⟩
theorem ajw:qp prog 224=some ([.slice none 0 0,.int .i64 0,.int .i64 0],[(0,1),(1,1),(2,1)]):=by kernel_rfl
theorem n4:iw prog 232=some (4,1):=by rfl
theorem c8:FA prog 236 0 0 50:=⟨by rfl,by trivial,by rfl⟩
theorem E4:FA prog 236 1 6 51:=⟨by rfl,by trivial,by rfl⟩
theorem uC:FA prog 236 2 7 3:=⟨by rfl,by trivial,by rfl⟩
theorem VV:qp prog 236=some ([.int .i64 0,.int .i64 0,.int .i64 0,.slice none 0 0,.slice none 0 0,.slice none 0 0,.slice none 0 0,.int .i64 0],[(0,6),(6,1),(7,1)]):=by rfl
theorem Wo:intKind prog 272=some .u64:=by rfl
theorem AZ:intKind prog 286=some .u64:=by rfl
theorem oz : prog.fieldsOf 81 = ([{ name := "Kind",type := 3,offset := 0,embedded := false,tag := "",pkgPath := "",byteOffset := 0 },{ name := "Key",type := 3,offset := 1,embedded := false,tag := "",pkgPath := "",byteOffset := 8 },{ name := "Ch",type := 3,offset := 2,embedded := false,tag := "",pkgPath := "",byteOffset := 16 },{ name := "To",type := 3,offset := 3,embedded := false,tag := "",pkgPath := "",byteOffset := 24 },{ name := "Amt",type := 3,offset := 4,embedded := false,tag := "",pkgPath := "",byteOffset := 32 },{ name := "Fee",type := 3,offset := 5,embedded := false,tag := "",pkgPath := "",byteOffset := 40 },{ name := "Yes",type := 4,offset := 6,embedded := false,tag := "",pkgPath := "",byteOffset := 48 }] : List Field).toArray := by rfl
theorem pe:prog.underlying 81=some (.struct (prog.fieldsOf 81)):=by rfl
theorem pf:prog.stoodInHeld 81=false:=by rfl
theorem pg:prog.eqGuardType prog.depth 81=false:=by simp
theorem FP : prog.fieldsOf 159 = ([{ name := "Id",type := 3,offset := 0,embedded := false,tag := "",pkgPath := "",byteOffset := 0 },{ name := "Size",type := 3,offset := 1,embedded := false,tag := "",pkgPath := "",byteOffset := 8 },{ name := "Local",type := 3,offset := 2,embedded := false,tag := "",pkgPath := "",byteOffset := 16 },{ name := "Remote",type := 3,offset := 3,embedded := false,tag := "",pkgPath := "",byteOffset := 24 },{ name := "Base",type := 3,offset := 4,embedded := false,tag := "",pkgPath := "",byteOffset := 32 },{ name := "Ppm",type := 3,offset := 5,embedded := false,tag := "",pkgPath := "",byteOffset := 40 },{ name := "Score",type := 3,offset := 6,embedded := false,tag := "",pkgPath := "",byteOffset := 48 }] : List Field).toArray := by rfl
theorem JX:prog.underlying 159=some (.struct (prog.fieldsOf 159)):=by rfl
theorem JY:prog.stoodInHeld 159=false:=by rfl
theorem JZ:prog.eqGuardType prog.depth 159=false:=by simp
theorem uR : prog.fieldsOf 165 = ([{ name := "Kind",type := 3,offset := 0,embedded := false,tag := "",pkgPath := "",byteOffset := 0 },{ name := "Ch",type := 3,offset := 1,embedded := false,tag := "",pkgPath := "",byteOffset := 8 }] : List Field).toArray := by rfl
theorem wA:prog.underlying 165=some (.struct (prog.fieldsOf 165)):=by rfl
theorem wB:prog.stoodInHeld 165=false:=by simp
theorem Ad:prog.eqGuardType prog.depth 165=false:=by simp
theorem FQ : prog.fieldsOf 218 = ([{ name := "Key",type := 3,offset := 0,embedded := false,tag := "",pkgPath := "",byteOffset := 0 },{ name := "In",type := 3,offset := 1,embedded := false,tag := "",pkgPath := "",byteOffset := 8 },{ name := "Out",type := 3,offset := 2,embedded := false,tag := "",pkgPath := "",byteOffset := 16 },{ name := "AmtIn",type := 3,offset := 3,embedded := false,tag := "",pkgPath := "",byteOffset := 24 },{ name := "AmtOut",type := 3,offset := 4,embedded := false,tag := "",pkgPath := "",byteOffset := 32 },{ name := "Kept",type := 4,offset := 5,embedded := false,tag := "",pkgPath := "",byteOffset := 40 },{ name := "Age",type := 3,offset := 6,embedded := false,tag := "",pkgPath := "",byteOffset := 48 }] : List Field).toArray := by rfl
theorem J0:prog.underlying 218=some (.struct (prog.fieldsOf 218)):=by rfl
theorem J1:prog.stoodInHeld 218=false:=by rfl
theorem J2:prog.eqGuardType prog.depth 218=false:=by simp
theorem FR : prog.fieldsOf 220 = ([{ name := "Key",type := 3,offset := 0,embedded := false,tag := "",pkgPath := "",byteOffset := 0 },{ name := "From",type := 3,offset := 1,embedded := false,tag := "",pkgPath := "",byteOffset := 8 },{ name := "To",type := 3,offset := 2,embedded := false,tag := "",pkgPath := "",byteOffset := 16 },{ name := "Amt",type := 3,offset := 3,embedded := false,tag := "",pkgPath := "",byteOffset := 24 },{ name := "Fee",type := 3,offset := 4,embedded := false,tag := "",pkgPath := "",byteOffset := 32 }] : List Field).toArray := by rfl
theorem J3:prog.underlying 220=some (.struct (prog.fieldsOf 220)):=by rfl
theorem J4:prog.stoodInHeld 220=false:=by rfl
theorem J5:prog.eqGuardType prog.depth 220=false:=by simp
end Go.Proofs.YtflhgkmhmcfimaaGreat
