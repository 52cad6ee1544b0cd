/- Texts of the proof of FnFnExactHubCrash, joined: E23, E24, E26, E27, Fil, E28, E29, E30, LogD, ET, EA1. -/
import Derived.Test.YtflhgkmhmcfimaaGreatJHubCrash4
import Derived.Test.YtflhgkmhmcfimaaGreatJHubCrash3
import Derived.Laws.BytesArg
import Derived.Laws.Strings
import Derived.Test.YtflhgkmhmcfimaaGreatKNum
namespace Go.Proofs.YtflhgkmhmcfimaaGreat
set_option maxRecDepth 100000
open Tryz
open Go.RowKit
set_option linter.unusedSimpArgs false
set_option linter.unusedVariables false
inductive kf {α β:Type} (R:α->β->Prop):List α->List β->Prop
 |nil:kf R [] []
 |cons {a:α} {b:β} {l:List α} {m:List β}:R a b->kf R l m->kf R (a::l) (b::m)
theorem kf.len{α β:Type}{R:α->β->Prop}{l:List α}{m:List β}(h:kf R l m):l.length=m.length:=by
 induction h with
 |nil=>rfl
 |cons _ _ ih=>simp[ih]
theorem Eh{α β:Type}{R:α->β->Prop}:∀ {l:List α} {m:List β},l.length=m.length->(∀(i:Nat) (a:α) (b:β),l[i]? = some a->m[i]? = some b->R a b)->kf R l m
 |[],[],_,_=>.nil
 |a::l,b::m,hl,h=>.cons (h 0 a b rfl rfl) (Eh (by grind) fun i x y V h2=>h (i+1) x y (by grind) (by grind))
 |[],_::_,hl,_=>by cases hl
 |_::_,[],hl,_=>by cases hl
def vm(H:Nat->AO)(p q:PV):Prop:=p=q\/∃v m e sz rows,p=.v v/\H m=.ai ⟨e,some v⟩ sz rows/\q=.ab e sz rows
section
variable {L:Nat->Prop}{ρ:Nat->Value}{H:Nat->AO}{w:World}
theorem OJ(bY:∀id,∃f,OB L ρ H w (ρ id) f (H id)):∀ {x y:List PV} {c:List Value} {fp:List Nat},kf (vm H) x y->bP w false x c fp->∃bH,bP w false y c bH
 |_,_,c,fp,.nil,h=>⟨fp,h⟩
 |_,_,c,fp,.cons V h2,h=>by
  rw[bP]at h;obtain⟨c,r,f1,f2,rfl,rfl,k1,k2⟩:=h;obtain⟨g2,k3⟩:=OJ bY h2 k2;rcases V with rfl|⟨v,m,e,sz,rows,rfl,hm,rfl⟩
  ·exact⟨f1++g2,by rw[bP];grind⟩
  obtain⟨f,ho⟩:=bY m;rw[hm]at ho;obtain⟨g1,k4⟩:=OB.IA ho;have hv:ρ m=v:=by obtain⟨_,_,_,_,_,_,k⟩:=ho;exact k v rfl
  rw[RW]at k1;rw[k1.1,<-hv];exact⟨g1++g2,by rw[bP];grind⟩
theorem OK(bY:∀id,∃f,OB L ρ H w (ρ id) f (H id)){sz:Nat}:∀ {x y:List (List PV)} {c:List Value} {fp:List Nat},kf (kf (vm H)) x y->bI w false sz x c fp->∃bH,bI w false sz y c bH
 |_,_,c,fp,.nil,h=>⟨fp,h⟩
 |_,_,c,fp,.cons V h2,h=>by
  rw[bI]at h;obtain⟨hl,c,r,f1,f2,rfl,rfl,k1,k2⟩:=h;obtain⟨g1,k3⟩:=OJ bY V k1;obtain⟨g2,k4⟩:=OK bY h2 k2;exact⟨g1++g2,by rw[bI];exact⟨by rw[<-V.len];exact hl,c,r,g1,g2,rfl,rfl,k3,k4⟩⟩
end
def Reads(H:Nat->AO)(x y:AV):Prop:=∀ {L:Nat->Prop} {ρ:Nat->Value} {w:World} {c:Value},(∀id,∃f,OB L ρ H w (ρ id) f (H id))->RV L ρ H w x c->RV L0 s8 (bx []) w y c
theorem Reads.jB{H:Nat->AO}{x y:AV}(h:jB H x=y):Reads H x y:=fun bY hx=>h▸RV.jB bY x hx
theorem Reads.own{H:Nat->AO}{id:Nat}{t:TypeId}{pt:Option Value}{sz:Nat}{rows oo:List (List PV)}(hH:H id=.ai ⟨t,pt⟩ sz rows)(h:kf (kf (vm H)) rows oo):Reads H (.own id) (.p (.ab t sz oo)):=fun{L ρ w c} bY hx=>by
 rw[RV]at hx;have hc:=hx.2 x_131;obtain⟨f,ho⟩:=bY id;rw[hH]at ho;obtain⟨xs,fr,b1,b2,b3,b4,b5⟩:=ho;obtain⟨g,k1⟩:=OK bY h b1;have hr:=OB.IA (L:=L) (ρ:=ρ) (H:=H) (w:=w) (v:=ρ id) (f:=f) (e:=⟨t,pt⟩) (sz:=sz) (rows:=rows) ⟨xs,fr,b1,b2,b3,b4,b5⟩;rw[hc];rw[RV];have hlen:oo.length=rows.length:=h.len.symm;rcases b3.2 with⟨q,q2⟩|⟨gb,cap,cur,q,_,hg,hnc,bC,_⟩
 ·simp_all[mh]
 have tc:=b3;rw[q]at tc;refine⟨[gb]++g,?_,fun b _=>mh⟩;rw[RW];refine⟨xs,[gb],g,k1,?_,rfl⟩;unfold iF;simp only[Bool.false_eq_true,if_false];exact⟨_,cap,by grind,by omega,bC,.inr ⟨gb,0,rfl,vl tc,(Array.getElem?_eq_some_iff.1 hg).1,rfl⟩⟩
theorem bf.reads{H:Nat->AO}{L:Nat->Prop}{ρ:Nat->Value}{w:World}(bY:∀id,∃f,OB L ρ H w (ρ id) f (H id)):∀ {l m:List AV} {cs:List Value},kf (Reads H) l m->bf L ρ H w l cs->bf L0 s8 (bx []) w m cs
 |_,_,cs,.nil,h=>by trivial
 |_,_,cs,.cons V h2,h=>by
  rw[bf]at *;obtain⟨c,r,rfl,k1,k2⟩:=h;exact⟨c,r,rfl,V bY k1,bf.reads bY h2 k2⟩
theorem Reads.agg{H:Nat->AO}{l m:List AV}(h:kf (Reads H) l m):Reads H (.agg l) (.agg m):=fun bY hx=>by
 rw[RV]at *;obtain⟨cs,rfl,V⟩:=hx;exact⟨cs,rfl,bf.reads bY h V⟩
section
variable {P:Program}{o:Oper}{N:Nat}{τ:Nat->AV}{H:Nat->AO}
theorem zLN{y:Operand}{l:List Operand}{ts:Array TypeId}{f:FuncId}{fn:Func}{args:List AV}{x:AV}(hf:P.funcs[f]? = some fn)(hc:GC P f args [] x [])
 (h : (o.op,ux o.dst N,ev τ y,(fn.name == "runtime.NumGoroutine"),fn.body.isNone,qs x) = (.call { callee := .value y,args := l.toArray,argTypes := ts },true,.fQ (.func f) [] [],false,false,true)) (ha : kf (Reads H) (l.map (ev τ)) args) : St P o N τ H [] (mb τ o.dst x) H := by
 simp only[Prod.mk.injEq]at h
 obtain⟨ho,ht,hy,vG,nX,hx⟩:=h
 refine⟨?_⟩
 intro L O w0 ρ fp a w K Q bV hk
 have ey:=bV.ev y
 rw[hy,RV]at ey
 obtain⟨cf,cc,ey,e1,e2⟩:=ey
 rw[bf]at e1 e2
 subst e1 e2
 have hv:=bf.reads (fun id=>⟨_,bV.ob id⟩) ha (bf.map (fun z=>bV.ev z) l)
 have vE:=hc L0 w (l.map a.eval) s8 (fun _=>[]) (fun _ q=>q.elim) hv (fun i=>rfl) (by simp) (by simp)
 have rq:(execOp a.eval o).run P w=.ok (.enter f (l.map a.eval).toArray) w:=by
  simp only[execOp,ho,resolve,Deferred.ofValue,ey,invoke,callFunc,Sem.run_bind,Sem.run_pure,Result.andThen_ok,run_program,hf,vG,nX,Bool.false_eq_true,if_false,List.map_toArray,List.append_toArray,List.nil_append,List.append_nil]
 unfold Oper.wp
 rw[rq]
 show Calls P f _ w _
 refine Calls.mono vE ?_
 rintro e w' ⟨_,_,⟨rfl,rfl⟩,v,ci,bH,rfl,g1,g2,g3⟩
 have hg:pL (fun _=>False) w w':=⟨g1.os,g1.tape,g1.output,g1.size,fun b hb _=>g1.block b hb (by simp),fun b o hb eI=>g1.nf b o (by simpa using hb) eI⟩
 exact hk _ _ _ _ ((bV.grow hg).Az o.dst (N4 _ hx g2) (ux.at ht)) (fun X hX=>⟨⟨hg.size,fun b hb _=>hg.block b hb (fun q=>q)⟩,fun j V h2 b h3=>.inr ⟨j,V,h2,h3⟩⟩)
end
theorem dS.gJ{F G:List AO}(h:dS F)(g:dS G):dS (F++G):=fun o ho=>by
 rcases List.mem_append.1 ho with q|q
 ·exact h o q
 exact g o q
theorem ki{H:Nat->AO}{F:List AO}(h:Tl H F:=by repeat (first|exact IN rfl|exact Tl.tl x_29|refine Tl.cO rfl ?_|refine Tl.aH rfl ?_|refine Tl.bq ?_|refine Tl.call rfl ?_|refine Tl.swap rfl ?_)):Tl H F:=h
def nR(R:AV->List (Nat×AO)->List AO->Prop):AV->List (Nat×AO)->Prop:=fun x bd=>∃l1 F1,(s9 l1&&(l1.all (fun p=>kR p.2)&&ns x))=true/\dS F1/\F1.length<=10000000/\bd=l1++je 1000000 F1/\R x l1 F1
section
variable {P:Program}{L O:Nat->Prop}{w0:World}{N:Nat}{τ:Nat->AV}{H:Nat->AO}{Q:AQ}{c:Code}{ops:Array Oper}{l:List Oper}{F:List AO}
theorem GN.intro{f:FuncId}{fn:Func}{c:Code}{args:List AV}{ob0:List (Nat×AO)}{F0:List AO}{R:AV->List (Nat×AO)->List AO->Prop}{rs:List mQ}(hf:P.funcs[f]? = some fn)(hb:fn.body=some c)(hn:fn.ntmps=N)(hl:args.length<=N)(vD:vH P fn.results.toList rs)(h0:s9 ob0=true)
 (h:∀L O w0,AW P L O w0 N c (AC args) (tl (bx ob0) F0) (yX rs (nR R))):GN P f args ob0 F0 R:=GX.intro hf hb hn hl vD (fun L O w0=>by rw[Gm h0];exact h L O w0)
theorem vW{rs:List mQ}{R:AV->List (Nat×AO)->List AO->Prop}(x:AV)(l1:List (Nat×AO)){F1:List AO}(hR:R x l1 F1)(hM:F1.length<=10000000)(h0:th τ H rs=some x)(V:(s9 l1&&(l1.all (fun p=>kR p.2)&&ns x))=true)(h2:fo l1 H)(h3:Tl H F1):yX rs (nR R) .ret τ H:=
 ⟨x,l1++je 1000000 F1,⟨l1,F1,V,h3.2,hM,rfl,hR⟩,h0,Oq h2 h3.all⟩
end

def GP:AO->Prop
 |.ai e sz rows=>∀r∈rows,∀p∈r,∃v,p=PV.v v
 |_=>False
theorem GX.Ae{P:Program}{f:FuncId}{args qj:List AV}{ob0:List (Nat×AO)}{R:AV->List (Nat×AO)->Prop}(hc:GX P f args [] R)(hl:qk (bx ob0) qj=args)(h0:∀p∈ob0,GQ p.2=true)
 (hR:∀x bd,R x bd->ql x=true/\(∀id∈s7 x,eb bd id=true)/\(∀p∈bd,GP p.2)/\(∀p∈ob0,eb bd p.1=false)) :
 GX P f qj ob0 fun x ob=>∃bd,R x bd/\ob=bd++ob0:=by
 intro L w cs ρ fp hL pF bY pG ud
 have hv:=bf.jB (fun id=>⟨_,bY id⟩) qj pF
 rw[hl]at hv
 refine Calls.mono (hc L0 w cs s8 (fun _=>[]) (fun _ q=>q.elim) hv (fun i=>rfl) (by simp) (by simp)) ?_
 rintro e w' ⟨x,bd,hR1,v,ci,bH,rfl,g1,g2,g3,g4,g5⟩
 obtain⟨hx,hn,V,hd⟩:=hR x bd hR1
 have nW:∀i,∀b∈bH i,w.heap.size<=b:=fun i b hb=>by
  rcases(g5 i b hb).1 with⟨j,q⟩|q
  ·cases q
  exact q
 have oY:∀b,b<w.heap.size->w'.heap[b]? = w.heap[b]?:=fun b hb=>g1.block b hb (by simp)
 generalize wR:(fun i=>if eb bd i=true then ci i else ρ i)=jR
 generalize nX:(fun i=>if eb bd i=true then bH i else fp i)=f2
 have yI:∀ {i},eb bd i=true->jR i=ci i:=fun{i} h=>by rw[<-wR];simp only[h,if_true]
 have yJ:∀ {i},eb bd i=false->jR i=ρ i:=fun{i} h=>by rw[<-wR];simp[h]
 have rb:∀ {i},eb bd i=true->f2 i=bH i:=fun{i} h=>by rw[<-nX];simp only[h,if_true]
 have oZ:∀ {i},eb bd i=false->f2 i=fp i:=fun{i} h=>by rw[<-nX];simp[h]
 have BY:∀ {i},eb bd i=true->bx (bd++ob0) i=bx bd i:=fun{i} h=>by rw[yK,if_pos h]
 have yL:∀ {i},eb bd i=false->bx (bd++ob0) i=bx ob0 i:=fun{i} h=>by rw[yK,if_neg (by simp[h])]
 have re:∀b,b<w.heap.size->¬live L ρ (bx ob0) b->¬live L jR (bx (bd++ob0)) b:=by
  rintro b hb hn (hl|⟨i,q1,q2⟩)
  ·exact hn (.inl hl)
  rcases hi:eb bd i with _|_
  ·rw[yL hi]at q1;rw[yJ hi]at q2;exact hn (.inr ⟨i,q1,q2⟩)
  rw[BY hi]at q1;rw[yI hi]at q2;have:=nW i b ((g3 i).top q1 q2);omega
 have E:Env L ρ jR (bx ob0) (bx (bd++ob0)) w w' (eb bd):=⟨g1.size,fun b hb hn=>⟨oY b hb,re b hb hn⟩,fun i hk hi=>by
  rw[yL hk]at hi ⊢;exact⟨hi,yJ hk,rfl,rfl⟩⟩
 refine⟨x,bd++ob0,⟨bd,hR1,rfl⟩,v,jR,f2,rfl,⟨g1.os,g1.tape,g1.output,g1.size,fun b hb _=>oY b hb,fun b o hb eI=>?_⟩,?_,fun i=>?_,fun i j gF b hb ec=>?_,fun i b hb=>?_⟩
 ·rcases Nat.lt_or_ge b w.heap.size with kA|kA
  ·rcases hb with⟨i,hi⟩|hb
   ·rw[World.frozen?_of_block (w:=w) (oY b kA)]
    exact(bY i).frozen b hi o
   omega
  exact g1.nf b o (.inr kA) eI
 ·refine GR x hx g2 fun id hid=>?_
  obtain⟨o,q1,q2⟩:=wS (hn id hid)
  have jC:=V _ q1
  refine⟨?_,yI (hn id hid)⟩
  rw[q2]
  cases o with
  |ai e sz rows=>rfl
  |box T p c=>exact jC.elim
  |gone=>exact jC.elim
 ·rcases hi:eb bd i with _|_
  ·rw[yL hi,yJ hi,oZ hi]
   have h:=(bY i).env E (fun b hb=>oY b ((bY i).lt b hb))
   have ek:(bx ob0 i).bq (eb bd)=bx ob0 i:=by
    rcases hj:eb ob0 i with _|_
    ·rw[D6 hj];rfl
    obtain⟨o,q1,q2⟩:=wS hj;have:=h0 _ q1;rw[q2];cases o with
    |ai e sz rows=>rfl
    |box T p c=>cases this
    |gone=>rfl
   rwa [ek]at h
  rw[BY hi,yI hi,rb hi]
  obtain⟨o,q1,q2⟩:=wS hi
  have jC:=V _ q1
  have h:=g3 i
  rw[q2]at h ⊢
  cases o with
  |ai e sz rows=>
   obtain⟨xs,fr,k1,k2,k3,k4,k5⟩:=h
   have ke:=k1.vj jC
   subst ke
   exact⟨xs,[],k1,by simp,k3,k4,k5⟩
  |box T p c=>exact jC.elim
  |gone=>exact jC.elim
 ·rcases hi:eb bd i with _|_<;>rcases hj:eb bd j with _|_
  ·rw[oZ hi]at hb;rw[oZ hj]at ec;exact pG i j gF b hb ec
  ·rw[oZ hi]at hb;rw[rb hj]at ec
   have:=(bY i).lt b hb
   have:=nW j b ec
   omega
  ·rw[rb hi]at hb;rw[oZ hj]at ec
   have:=(bY j).lt b ec
   have:=nW i b hb
   omega
  rw[rb hi]at hb;rw[rb hj]at ec;exact g4 i j gF b hb ec
 grind
theorem GX.same{P:Program}{f:FuncId}{args:List AV}{ob0:List (Nat×AO)}{R R':AV->List (Nat×AO)->Prop}(h:GX P f args ob0 R)(hR:∀x ob,R x ob->∃D7,R' x D7/\bx D7=bx ob):GX P f args ob0 R':=fun L w cs ρ fp V h2 h3 h4 h5=>
 Calls.mono (h L w cs ρ fp V h2 h3 h4 h5) fun e w' ⟨x,ob,q,r⟩=>by
  obtain⟨D7,q1,q2⟩:=hR x ob q;exact⟨x,D7,q1,by simp_all⟩
theorem Ly{F:List AO}{i:Nat}(h:i<1000000):eb (je 1000000 F) i=false:=by
 grind[wS,GS]
theorem GT{l m:List (Nat×AO)}{i:Nat}:eb (l++m) i=(eb l i||eb m i):=by grind[eb]
theorem GN.Ae{P:Program}{f:FuncId}{args qj:List AV}{ob0:List (Nat×AO)}{R:AV->List (Nat×AO)->List AO->Prop}(hc:GN P f args [] [] R)(hl:qk (bx ob0) qj=args)(h0:(ob0.all fun p=>GQ p.2&&(kR p.2&&Nat.blt p.1 1000000))=true)
 (hR:∀x l1 F1,R x l1 F1->ql x=true/\(∀id∈s7 x,eb l1 id=true)/\(∀p∈l1,GP p.2)/\(∀o∈F1,GP o)/\(∀p∈ob0,eb l1 p.1=false)) :
 GN P f qj ob0 [] fun x l F=>∃l1,R x l1 F/\l=l1++ob0:=by
 have hs:s9 ob0=true:=List.all_eq_true.2 fun p hp=>by
  grind
 have gH:(ob0.all fun p=>kR p.2)=true:=List.all_eq_true.2 fun p hp=>by
  grind
 have Tj:GX P f args [] _:=hc
 have h:=GX.Ae (ob0:=ob0) Tj hl (fun p hp=>by
  grind) (fun x bd ⟨l1,F1,q1,q2,q3,q4,q5⟩=>by
  subst q4;obtain⟨r1,r2,r3,r4,r5⟩:=hR x l1 F1 q5;refine⟨r1,fun id hid=>by grind[GT],fun p hp=>?_,fun p hp=>?_⟩
  ·rcases List.mem_append.1 hp with hp|hp
   ·grind
   have:∀(F:List AO) (n:Nat),p∈je n F->p.2∈F:=by
    intro F;induction F with
    |nil=>intro n h;cases h
    |cons o F ih=>
     intro n h;rcases List.mem_cons.1 h with h|h
     ·rw[h];simp
     exact List.mem_cons_of_mem _ (ih _ h)
   grind
  rw[GT,r5 p hp,Ly (Nat.le_of_ble_eq_true (List.all_eq_true.1 hs p hp))];rfl)
 show GX P f qj (ob0++[]) _
 rw[List.append_nil]
 refine h.same fun x ob ⟨bd,⟨l1,F1,q1,q2,q3,q4,q5⟩,q6⟩=>?_
 subst q4 q6
 simp only[Bool.and_eq_true]at q1
 have s1:s9 (l1++ob0)=true:=by unfold s9 at *;rw[List.all_append,q1.1,hs];rfl
 refine⟨(l1++ob0)++je 1000000 F1,⟨l1++ob0,F1,?_,q2,q3,rfl,l1,q5,rfl⟩,?_⟩
 ·grind
 funext i
 rcases yM i with q|⟨m,rfl⟩
 ·rw[yN q,yK,yK,GT,Ly q,Bool.or_false,yN q]
 grind[Af,yK,D6]
theorem acx{A M:List AO}{n:Nat}:∀i,i<n->(A++M)[A.length+i]? = M[i]?:=fun i _=>by rw[List.getElem?_append_right (by omega)];congr 1;omega

theorem Lu{P:Program}{f:FuncId}{args qj:List AV}{x:AV}(h:GC P f args [] x [])(hi:ff qj args):GC P f qj [] x []:=fun L w cs ρ fp V h2 h3 h4 h5=>h L w cs ρ fp V (hi h2) h3 h4 h5
theorem D8{L:Nat->Prop}{ρ:Nat->Value}{b:Nat}(h:¬L b):¬live L ρ (bx []) b:=by
 rintro(q|⟨_,q,_⟩);all_goals trivial
def Lz{α:Type}(sz:Nat)(dg:World->Nat->Nat->List Value->α->Prop)(xs:List α)(w:World)(lo:Nat)(v:Value):Prop:=dd sz dg w lo w.heap.size v xs
theorem Lz.rv{α:Type}{enc:α->List Value}{e:TypeId}{sz:Nat}{dg:World->Nat->Nat->List Value->α->Prop}{xs:List α}(GU:∀w lo hi cs x,dg w lo hi cs x->cs=enc x)(hs:∀x,(enc x).length=sz)(V:∀x,∀u∈enc x,u.oneCell'=true)
 {L:Nat->Prop} {ρ:Nat->Value} {w:World} {lo:Nat} {v:Value} (hL:∀b,L b->b<lo) (h:Lz sz dg xs w lo v):RV L ρ (bx []) w (.p (.ab e sz (ah enc xs))) v:=
 wU h (fun _ _ q=>GU _ _ _ _ _ q) hs V (Nat.le_refl _) (fun b q _=>D8 fun z=>by grind)
section
variable {L:Nat->Prop}{ρ:Nat->Value}{H:Nat->AO}{w:World}{S:Nat->Prop}
def vk(L:Nat->Prop)(ρ:Nat->Value)(H:Nat->AO)(w:World)(S:Nat->Prop):Prop:=(∀id,∃f,OB L ρ H w (ρ id) f (H id)/\∀b∈f,S b)/\∀b,¬live L ρ H b->S b
theorem vk.row(hl:vk L ρ H w S){id:Nat}{e:ga}{sz:Nat}{rows oo:List (List PV)}(hH:H id=.ai e sz rows)(h:∀ {xs fp},bI w false sz rows xs fp->(∀b∈fp,S b)->∃g,bI w false sz oo xs g/\∀b∈g,S b)(hlen:oo.length=rows.length) :
 ∃g,RW w false (.ab e.ty sz oo) (ρ id) g/\∀b∈g,S b:=by
 obtain⟨f,ho,hf⟩:=hl.1 id
 rw[hH]at ho
 obtain⟨xs,fr,b1,b2,b3,b4,b5⟩:=ho
 obtain⟨g,k1,k2⟩:=h b1 (fun b hb=>hl.2 b (b2 b hb))
 rcases b3.2 with⟨q,q2⟩|⟨gb,cap,cur,q,_,hg,hnc,bC,_⟩
 ·refine⟨[]++g,?_,fun b hb=>k2 b (by simpa using hb)⟩
  rw[RW]
  refine⟨xs,[],g,k1,?_,rfl⟩
  unfold iF
  grind
 have tc:=b3
 rw[q]at tc
 refine⟨[gb]++g,?_,fun b hb=>?_⟩
 ·rw[RW]
  refine⟨xs,[gb],g,k1,?_,rfl⟩
  unfold iF
  simp only[Bool.false_eq_true,if_false]
  exact⟨_,cap,by rw[q,hlen],by omega,bC,.inr ⟨gb,0,rfl,vl tc,(Array.getElem?_eq_some_iff.1 hg).1,rfl⟩⟩
 grind[Value.ownBlock]
theorem vk.self(hl:vk L ρ H w S){id:Nat}{e:ga}{sz:Nat}{rows:List (List PV)}(hH:H id=.ai e sz rows):∃g,RW w false (.ab e.ty sz rows) (ρ id) g/\∀b∈g,S b:=hl.row hH (fun h hs=>⟨_,h,hs⟩) rfl
theorem LA(hl:vk L ρ H w S):∀ {x y:List PV} {c:List Value} {fp:List Nat},kf (vm H) x y->bP w false x c fp->(∀b∈fp,S b)->∃bH,bP w false y c bH/\∀b∈bH,S b
 |_,_,c,fp,.nil,h,hs=>⟨fp,h,hs⟩
 |_,_,c,fp,.cons V h2,h,hs=>by
  rw[bP]at h;obtain⟨c,r,f1,f2,rfl,rfl,k1,k2⟩:=h;obtain⟨g2,k3,k4⟩:=LA hl h2 k2 (fun b hb=>hs b (List.mem_append_right _ hb));rcases V with rfl|⟨v,m,e,sz,rows,rfl,hm,rfl⟩
  ·refine⟨f1++g2,by rw[bP];exact⟨c,r,f1,g2,rfl,rfl,k1,k3⟩,fun b hb=>?_⟩;grind
  obtain⟨g1,k5,k6⟩:=hl.self hm;have hv:ρ m=v:=by
   obtain⟨f,ho,_⟩:=hl.1 m;rw[hm]at ho;obtain⟨_,_,_,_,_,_,k⟩:=ho;exact k v rfl
  rw[RW]at k1;rw[k1.1,<-hv];refine⟨g1++g2,by rw[bP];exact⟨ρ m,r,g1,g2,rfl,rfl,k5,k3⟩,fun b hb=>?_⟩;grind
theorem LB(hl:vk L ρ H w S){sz:Nat}:∀ {x y:List (List PV)} {c:List Value} {fp:List Nat},kf (kf (vm H)) x y->bI w false sz x c fp->(∀b∈fp,S b)->∃bH,bI w false sz y c bH/\∀b∈bH,S b
 |_,_,c,fp,.nil,h,hs=>⟨fp,h,hs⟩
 |_,_,c,fp,.cons V h2,h,hs=>by
  rw[bI]at h;obtain⟨hn,c,r,f1,f2,rfl,rfl,k1,k2⟩:=h;obtain⟨g1,k3,k5⟩:=LA hl V k1 (fun b hb=>hs b (List.mem_append_left _ hb));obtain⟨g2,k4,k6⟩:=LB hl h2 k2 (fun b hb=>hs b (List.mem_append_right _ hb));refine⟨g1++g2,by rw[bI];exact⟨by rw[<-V.len];exact hn,c,r,g1,g2,rfl,rfl,k3,k4⟩,fun b hb=>?_⟩;grind
end
structure Still(H:Nat->AO)(x y:AV):Prop where
 to:∀ {L:Nat->Prop} {ρ:Nat->Value} {w:World} {c:Value},vk L ρ H w (fun b=>¬L b)->RV L ρ H w x c->RV L ρ (bx []) w y c
theorem Still.p{H:Nat->AO}(x:PV):Still H (.p x) (.p x):=.mk fun{L ρ w c} hl h=>by
 rw[RV]at *;obtain⟨fp,V,h2⟩:=h;exact⟨fp,V,fun b hb=>D8 (hl.2 b (h2 b hb))⟩
theorem Still.own{H:Nat->AO}{id:Nat}{e:ga}{sz:Nat}{rows oo:List (List PV)}(hH:H id=.ai e sz rows)(h:kf (kf (vm H)) rows oo):Still H (.own id) (.p (.ab e.ty sz oo)):=.mk fun{L ρ w c} hl hx=>by
 rw[RV]at hx;have hc:=hx.2 x_131;obtain⟨g,k1,k2⟩:=hl.row hH (fun q hs=>LB hl h q hs) h.len.symm;grind[RV,D8]
theorem Still.row{H:Nat->AO}{id:Nat}{e:ga}{sz:Nat}{rows:List (List PV)}(hH:H id=.ai e sz rows):Still H (.own id) (.p (.ab e.ty sz rows)):=.mk fun{L ρ w c} hl hx=>by
 rw[RV]at hx;have hc:=hx.2 x_131;obtain⟨g,k1,k2⟩:=hl.self hH;grind[RV,D8]
theorem GV{H:Nat->AO}{L:Nat->Prop}{ρ:Nat->Value}{w:World}(hl:vk L ρ H w (fun b=>¬L b)):∀ {l m:List AV} {cs:List Value},kf (Still H) l m->bf L ρ H w l cs->bf L ρ (bx []) w m cs
 |_,_,cs,.nil,h=>by trivial
 |_,_,cs,.cons V h2,h=>by
  rw[bf]at *;obtain⟨c,r,rfl,k1,k2⟩:=h;exact⟨c,r,rfl,V.to hl k1,GV hl h2 k2⟩
theorem Still.agg{H:Nat->AO}{l m:List AV}(h:kf (Still H) l m):Still H (.agg l) (.agg m):=.mk fun hl hx=>by
 rw[RV]at *;obtain⟨cs,rfl,V⟩:=hx;exact⟨cs,rfl,GV hl h V⟩
theorem Still.au{H:Nat->AO}{l m:List AV}(h:kf (Still H) l m):Still H (.au l) (.au m):=.mk fun hl hx=>by
 rw[RV]at *;obtain⟨cs,rfl,V⟩:=hx;exact⟨cs,rfl,GV hl h V⟩
theorem GX.frozen{P:Program}{f:FuncId}{args:List AV}{R:AV->List (Nat×AO)->Prop}{Z:AV->Prop}(h:GX P f args [] R)(hR:∀x bd,R x bd->∃y,Still (bx bd) x y/\Z y):GX P f args [] fun y ob=>ob=[]/\Z y:=fun L w cs ρ fp V h2 h3 h4 h5=>
 Calls.mono (h L w cs ρ fp V h2 h3 h4 h5) fun e w' ⟨x,bd,q,v,ci,bH,q1,q2,q3,q4,q5,q6⟩=>by
  obtain⟨y,hy,hz⟩:=hR x bd q;have hl:vk L ci (bx bd) w' (fun b=>¬L b):=⟨fun id=>⟨bH id,q4 id,fun b hb=>(q6 id b hb).2⟩,fun b hb=>fun z=>hb (.inl z)⟩;exact⟨y,[],⟨rfl,hz⟩,v,ci,fun _=>[],q1,q2,hy.to hl q3,fun i=>rfl,by simp,by simp⟩

section
variable {P:Program}
theorem G3:∀(fs:List Field) (i:Nat) (a b r r':List Value),vt P fs i a b->dA (a++r) (b++r')=(dA a b&&dA r r')
 |[],i,[],[],r,r',_=>by rfl
 |[],i,a::_,b,r,r',h=>by trivial
 |[],i,[],b::_,r,r',h=>h.elim
 |f::fs,i,[],b,r,r',h=>by trivial
 |f::fs,i,v::a,[],r,r',h=>by cases v<;>exact h.elim
 |f::fs,i,v::a,v'::b,r,r',h=>by
  cases v<;>cases v'<;>first|exact h.elim|skip
  case int.int k x k' y=>
   have ih:=G3 fs (i+1) a b r r' h.2.2.2.2
   show (x==y&&dA (a++r) (b++r'))=((x==y&&dA a b)&&dA r r')
   rw[ih,Bool.and_assoc]
  case bool.bool x y=>
   have ih:=G3 fs (i+1) a b r r' h.2.2.2
   show (x==y&&dA (a++r) (b++r'))=((x==y&&dA a b)&&dA r r')
   rw[ih,Bool.and_assoc]
theorem LM{t:TypeId}{fs:Array Field}(ht:P.underlying t=some (.struct fs)){a r:List Value}(hn:P.cellsOf t=a.length)(W:World):(part t (a++r).toArray 0).run P W=.ok (.agg a.toArray) W:=by
 simp_all[part,LN,B3]
theorem Tt (d : Nat) (W : World) {f0 : Field} {yO fs : List Field} {a b r r' : List Value} (hn : f0.name ≠ "_") (ho : f0.offset = 0) (ht : P.underlying f0.type = some (.struct (P.fieldsOf f0.type))) (hf : P.fieldsOf f0.type = yO.toArray) (hp : P.stoodInHeld f0.type = false)
 (ha:P.cellsOf f0.type=a.length) (hb:b.length=a.length) (h0:vt P yO 0 a b) (V:vt P fs a.length r r'):(Op.eqFields (d+3) (a++r).toArray (b++r').toArray (f0::fs)).run P W=.ok (dA (a++r) (b++r')) W:=by
 have e1:=run_equalIn_struct (P:=P) W (d+2) f0.type a.toArray b.toArray ht hp
 rw[hf]at e1
 have e2:=B4 (P:=P) (d+1) W yO 0 [] [] a b rfl rfl h0
 have e3:(Op.equalIn (d+3) f0.type (.agg a.toArray) (.agg b.toArray)).run P W=.ok (dA a b) W:=e1.trans e2
 have e4:=B4 (P:=P) (d+2) W fs a.length a b r r' rfl hb V
 rw[G3 yO 0 a b r r' h0]
 unfold Op.eqFields
 rw[if_pos hn,Sem.run_bind,ho,LM ht ha,Result.andThen_ok,Sem.run_bind,LM ht (by rw[ha,hb]),Result.andThen_ok,Sem.run_bind,e3,Result.andThen_ok]
 cases kN:dA a b
 all_goals trivial
variable {o:Oper}{τ:Nat->AV}{H:Nat->AO}{X:Nat->Bool}
theorem JW{op:BinOp}{T yT:TypeId}{x y:Operand}{a b r r':List Value}{f0:Field}{yO fs:List Field}(ho:o.op=.binOp op T x y yT)(G4:op=.eql\/op=.neq)(hx:vu (ev τ x)=some (.agg (a++r).toArray))(hy:vu (ev τ y)=some (.agg (b++r').toArray))
 (hf:P.fieldsOf T=(f0::fs).toArray) (ht:P.underlying T=some (.struct (P.fieldsOf T))) (hp:P.stoodInHeld T=false) (hg:P.eqGuardType P.depth T=false)
 (hn : f0.name ≠ "_") (Tu : f0.offset = 0) (Tv : P.underlying f0.type = some (.struct (P.fieldsOf f0.type))) (Tw : P.fieldsOf f0.type = yO.toArray) (Tx : P.stoodInHeld f0.type = false)
 (ha:P.cellsOf f0.type=a.length) (hb:b.length=a.length) (h0:vt P yO 0 a b) (V:vt P fs a.length r r'):Rd P o τ H X (aD (match op with|.eql=>dA (a++r) (b++r')|_=>!dA (a++r) (b++r'))):=by
 have he:∀W,(Op.equal T (.agg (a++r).toArray) (.agg (b++r').toArray)).run P W=.ok (dA (a++r) (b++r')) W:=fun W=>by
  have pD:=run_equalIn_struct (P:=P) W (Op.maxDepth-1) T (a++r).toArray (b++r').toArray ht hp;have h2:=Tt (P:=P) (Op.maxDepth-4) W (fs:=fs) (r:=r) (r':=r') hn Tu Tv Tw Tx ha hb h0 V;rw[hf]at pD;exact pD.trans h2
 apply G5 ho hx hy
 intro W
 rcases G4 with rfl|rfl
 all_goals simp_all[eqGuard,binOp]
end
section
variable {P:Program}{L O:Nat->Prop}{w0:World}{N:Nat}{ops:Array Oper}{F:List Nat}{n:Nat}{av:Array Bool}{o:Oper}{τ:Nat->AV}{H:Nat->AO}{Q:AQ}
theorem abq{i:Nat}{E:List Nat}{Z:(Nat->AV)->(Nat->AO)->Prop}(ho:ops[i]? = some o)(hs:wW P o N τ H E Z)(hF:F.contains i=true\/E=[])(hg:gv τ ops o=some true)
 (h:∀τ' H',Z τ' H'->AF P L O w0 N ops F n (av.setIfInBounds i true) τ' H' Q):d9 P L O w0 N ops F n av i τ H Q:=fun ρ fp a w bV=>
 wpOp_step ho fun K hK=>by
  rw[bV.wanted hg,if_pos rfl];exact hs.run bV (fun τ' H' a' w' ci bH hz gU lI=>hK _ _ ⟨Ef hF lI,h τ' H' hz ci bH a' w' gU⟩)
end

def fill{α:Type}(rows:List α)(z:α)(k:Nat):List α:=rows.take k++List.replicate (rows.length-k) z
theorem Ai{α:Type}(rows:List α)(z:α):fill rows z 0=List.replicate rows.length z:=by rfl
theorem Aj{α:Type}(rows:List α)(z:α):fill rows z rows.length=rows:=by simp[fill]
theorem Ak{α:Type}{rows:List α}{z:α}(k:Nat)(h:k<=rows.length):(fill rows z k).length=rows.length:=by grind[fill]
theorem Al{α:Type}{rows:List α}{z:α}{k:Nat}(h:k<rows.length):(fill rows z k)[k]? = some z:=by
 unfold fill;grind
theorem Am{α:Type}{rows:List α}{z c:α}{k:Nat}(h:rows[k]? = some c):(fill rows z k).set k c=fill rows z (k+1):=by
 obtain⟨hk,rfl⟩:=List.getElem?_eq_some_iff.1 h;unfold fill;rw[List.set_append_right _ _ (by grind)];simp only[List.length_take,Nat.min_eq_left (Nat.le_of_lt hk),Nat.sub_self];rw[show rows.length-k=(rows.length-(k+1))+1 by omega,List.replicate_succ,List.set_cons_zero,List.take_succ_eq_append_getElem hk,List.append_assoc];rfl
def abN{α:Type}(mk:Int->α)(n:Nat)(k:Int):Nat->List α
 |0=>[]
 |m+1=>abN mk n k m++[mk (k+(n:Int)*(m:Int))]
theorem c6{α:Type}{mk:Int->α}{n:Nat}{k:Int}:∀ {m:Nat},(abN mk n k m).length=m
 |0=>rfl
 |m+1=>by unfold abN;rw[List.length_append,c6];rfl
theorem ab2{α:Type}{mk:Int->α}{n:Nat}{k:Int}{m:Nat}:abN mk n k (m+1)=abN mk n k m++[mk (k+(n:Int)*(m:Int))]:=rfl
theorem m6{α:Type}{mk:Int->α}{n:Nat}{k:Int}{j:Nat}:∀ {m:Nat},j<m->(abN mk n k m)[j]? = some (mk (k+(n:Int)*(j:Int)))
 |m+1,h=>by
  rw[ab2];rcases Nat.lt_or_ge j m with q|q
  ·rw[List.getElem?_append_left (by rw[c6];exact q),m6 q]
  have e:j=m:=by omega
  subst e;rw[List.getElem?_append_right (by rw[c6];exact Nat.le_refl _),c6];simp
theorem acd{α:Type}{p l:List α}{j:Nat}(hp:p.length=j)(h:j<l.length):(p++l.drop j)[j]? = some l[j]:=by
 subst hp;rw[List.getElem?_append_right (Nat.le_refl _),Nat.sub_self,List.getElem?_drop,Nat.add_zero];exact List.getElem?_eq_getElem h
theorem ace{α:Type}{p ac9 l:List α}{j:Nat}{c:α}(hp:p.length=j)(Li:ac9=p++[c])(h:j<l.length):(p++l.drop j).set j c=ac9++l.drop (j+1):=by
 subst hp Li;rw[List.set_append_right _ _ (Nat.le_refl _),Nat.sub_self,List.drop_eq_getElem_cons h,List.set_cons_zero,List.append_assoc];rfl
section
variable {P:Program}{o:Oper}{τ:Nat->AV}{H:Nat->AO}{X:Nat->Bool}
theorem G6{T yT:TypeId}{x y:Operand}{a b:Bool}(ho:o.op=.binOp .neq T x y yT)(hx:ev τ x=aD a)(hy:ev τ y=aD b)(ht:P.underlying T=some .bool):Rd P o τ H X (aD (!(a==b))):=by
 have he:∀W,(Op.equal T (.bool a) (.bool b)).run P W=.ok (a==b) W:=fun W=>run_equalIn_bool' W (Op.maxDepth-1) T a b ht;apply G5 ho (by rw[hx];rfl) (by rw[hy];rfl);simp_all[eqGuard,binOp]
end

abbrev dF(b:Int):List Value:=[.int .u8 b]
abbrev LO(T:TypeId)(l:List Int):AV:=.p (.ab T 1 (ah dF l))
def fA(l:List Int):Prop:=∀b∈l,0<=b/\b<=255
abbrev LP(l:List Int):AV:=.p (.v (.string (strOfNums l)))
theorem G7:∀ {l:List Int} {cs:List Value} {w:World} {fp:List Nat},bI w false 1 (ah dF l) cs fp->cs=l.map (Value.int .u8)
 |[],cs,w,fp,h=>by grind[ah,bI]
 |x::l,cs,w,fp,h=>by
  have e:ah dF (x::l)=[PV.v (.int .u8 x)]::ah dF l:=rfl;rw[e,bI]at h;obtain⟨_,c,r,f1,f2,rfl,rfl,V,h2⟩:=h;rw[bP]at V;obtain⟨c0,r0,f3,f4,rfl,rfl,h3,h4⟩:=V;rw[RW]at h3;rw[bP]at h4;rw[h3.1,h4.1,G7 h2];rfl
section
variable {P:Program}{o:Oper}{τ:Nat->AV}{H:Nat->AO}{X:Nat->Bool}
theorem LQ{s d e:TypeId}{W:World}{b off len cap:Nat}{l:List Int}(hs:P.underlying s=some (.slice e))(he:P.underlying e=some (.int .u8))(hd:P.underlying d=some .string)(hl:l.length=len)
 (h:jo W b off (l.map (Value.int .u8))):(convert s d (.slice (some ⟨b,off,none⟩) len cap)).run P W=.ok (.string (strOfNums l)) W:=
 run_convert_bytes_arg W s e hs he b off len cap l hl (fun i hi=>by
  have LR:i<l.length:=by omega
  have e1:(l.map (Value.int .u8))[i]? = some (.int .u8 l[i]):=by rw[List.getElem?_map,List.getElem?_eq_getElem LR];rfl
  have:=h i _ e1;grind) d hd
theorem LS{s d e:TypeId}{W:World}{p:Option Addr}{cap:Nat}(hs:P.underlying s=some (.slice e))(he:P.underlying e=some (.int .u8))(hd:P.underlying d=some .string):(convert s d (.slice p 0 cap)).run P W=.ok (.string (strOfNums [])) W:=by
 cases p with
 |none=>rw[run_convert_bytes_nil W s e hs he _ _ d hd];rfl
 |some a=>
  have hl:=run_loadCells_list (P:=P) W a [] (fun j v hj=>by cases hj);rw[run_convert_bytes_string W s d e _ _ _ hs he hd,run_bytesToString W a 0 cap [] hl];rfl
theorem vv{s d e T:TypeId}{x:Operand}{l:List Int}(ho:o.op=.convert s d x)(hs:P.underlying s=some (.slice e))(he:P.underlying e=some (.int .u8))(hd:P.underlying d=some .string)(hx:ev τ x=LO T l):Rd P o τ H X (LP l):=by
 constructor;intro L O w0 N ρ fp a w hr;have h:=hr.ev x;rw[hx,RV]at h;obtain⟨f0,h,hn⟩:=h;rw[RW]at h;obtain⟨xs,f1,f2,V,h2,rfl⟩:=h;have gG:=G7 V;subst gG;rw[ap]at h2;obtain⟨p,cap,q1,q2,q3,q4⟩:=h2;refine⟨.string (strOfNums l),fX rfl,fun W hK=>?_⟩;have e0:execOp a.eval o=(do let v <-convert s d (a.eval x);pure (.value v)):=by simp only[execOp,ho]
 rw[e0,q1,Sem.run_bind];rcases q4 with⟨hz,_⟩|⟨b,off,rfl,hc,hb,rfl⟩
 ·simp_all[LS]
 have hW:W.heap[b]? = w.heap[b]?:=hK.2 b hb (fun id k1 k2 k3=>hn b (by simp) (.inr ⟨id,k2,k3⟩));have G8:jo W b off (l.map (Value.int .u8)):=fun j v hj=>by
  rw[World.cell?_of_block (w:=w) (a:=⟨b,off+j,none⟩) hW];exact hc j v hj
 rw[LQ hs he hd rfl G8];rfl
end
theorem LT:∀ {l m:List Int},fA l->fA m->(l.map fun n=>UInt8.ofNat n.toNat)=m.map (fun n=>UInt8.ofNat n.toNat)->l=m
 |[],[],_,_,_=>rfl
 |[],_::_,_,_,h=>by cases h
 |_::_,[],_,_,h=>by cases h
 |a::l,b::m,hl,hm,h=>by
  injection h with V h2;have ha:=hl a (by simp);have hb:=hm b (by simp);have e1:(UInt8.ofNat a.toNat).toNat=a.toNat:=by rw[UInt8.toNat_ofNat'];exact Nat.mod_eq_of_lt (by omega)
  have e2:(UInt8.ofNat b.toNat).toNat=b.toNat:=by rw[UInt8.toNat_ofNat'];exact Nat.mod_eq_of_lt (by omega)
  have e3:a.toNat=b.toNat:=by rw[<-e1,<-e2];exact congrArg UInt8.toNat V
  have:a=b:=by omega
  rw[this,LT (fun x hx=>hl x (by simp[hx])) (fun x hx=>hm x (by simp[hx])) h2]
theorem Ty{l m:List Int}(hl:fA l)(hm:fA m):((strOfNums l).toList==(strOfNums m).toList)=decide (l=m):=by
 rw[ByteArray.toList_eq,ByteArray.toList_eq,strOfNums_data,strOfNums_data];by_cases h:l=m
 ·grind
 rw[decide_eq_false h];exact Bool.eq_false_iff.2 (fun q=>h (LT hl hm (by grind)))
section
variable {P:Program}{x y:Operand}{T:TypeId}{l m:List Int}
theorem An(hT:P.underlying T=some .string)(hl:fA l)(hm:fA m):∀W,(do eqGuard .neq T x y (.string (strOfNums l)) (.string (strOfNums m));binOp .neq T (.string (strOfNums l)) (.string (strOfNums m)):Sem Value).run P W=.ok (.bool (!decide (l=m))) W:=fun W=>by
 simp_all[Ty,binOp_string_neq,eqGuard]
end

theorem TK(v:Value)(n:Nat):(Builtin.zeroCells #[v] n).toList=List.replicate n v:=by
 unfold Builtin.zeroCells;apply List.ext_getElem;all_goals grind
theorem L3{α:Type}(v:α):∀m,(List.replicate m [v]).flatten=List.replicate m v
 |0=>rfl
 |m+1=>by simp
section
variable {P:Program}
theorem TL{w:World}{t ti ty e:TypeId}{i:TypeInfo}{z v0:Value}(ht:P.underlying t=some (.slice e))(B5:P.underlying ti=some (.int .i64))(hi:P.info? e=some i)(hz:i.zero=some z)(G':z.cells=#[v0])(gR:i.size=1)(rZ:v0.oneCell'=true)
 {g:Nat} {n cap:Nat} {xs:List Value} (jE:w.ownsRow 0 e 1 (.slice (some ⟨g,0,none⟩) n cap) n xs) {m:Nat} (hm:0<m) (yQ:n+m<=maxLen) (wY:(n+m)*i.bytes<=140737488355328) :
 ∃v' w',(Builtin.append_ #[t,ti] ty #[.slice (some ⟨g,0,none⟩) n cap,.int .i64 (m:Int)]).run P w=.ok v' w'/\w'.ownsRow 0 e 1 v' (n+m) (xs++List.replicate m v0)/\w.grownBy w' (some g)/\(v'.ownBlock=some g\/v'.ownBlock=some w.heap.size)/\
  (∀b off,(some g=some b\/w.heap.size<=b)->b<w'.heap.size->w'.frozen? ⟨b,off,none⟩=false):=by
 have L4:n+m<=9223372036854775807:=by simp only[maxLen]at yQ;omega
 have hlen:(xs++List.replicate m v0).length=(n+m)*1:=by rw[List.length_append,jE.1,List.length_replicate];omega
 have L5:IntKind.i64.wrap (m:Int)=(m:Int):=by rw[IntKind.wrap_i64];omega
 have dY:¬((m:Int)<0):=by omega
 have L6:¬(281474976710656<(m:Int)*(i.bytes:Int)):=by
  have V:m*i.bytes<=(n+m)*i.bytes:=Nat.mul_le_mul_right _ (by omega);have h2:((m*i.bytes:Nat):Int)<=140737488355328:=by omega
  rw[Int.natCast_mul]at h2;omega
 have L7:¬m=0:=by omega
 have ug:(Builtin.zeroCells #[v0] m).toList=List.replicate m v0:=TK v0 m
 rcases jE.2 with⟨q,_⟩|⟨g',uh,cur,q,te,hg,hnc,bC,pI,htake⟩
 ·cases q
 injection q with q1 q2 q3
 injection q1 with q1
 injection q1 with q1
 subst q1 q3
 by_cases r6:n+m<=cap
 ·have vz:n*1+(List.replicate m v0).length<=cur.size:=by rw[List.length_replicate,pI];omega
  have dM:=run_storeCells_at P g (n*1) e (List.replicate m v0) 0 cur w hg (by omega) (fun u hu=>by grind)
  simp only[Nat.add_zero,Nat.mul_one]at dM
  have hr:(Builtin.append_ #[t,ti] ty #[.slice (some ⟨g,0,none⟩) n cap,.int .i64 (m:Int)]).run P w=.ok (.slice (some ⟨g,0,none⟩) (n+m) cap) (w.setRow g (cur.toList.take n++List.replicate m v0++cur.toList.drop (n+(List.replicate m v0).length)).toArray):=by
   simp[Builtin.append_,run_underlying ht,run_underlying B5,sizeOf,typeInfo,zeroValue,hi,hz,G',gR,asInt,asIntOf,L5,dY,L6,L7,r6,ug,Addr.add_lit,dM]
  refine⟨_,_,hr,⟨hlen,.inr ⟨g,cap,_,rfl,te,setRow_heap w g cur _ e _ hg,r6,bC,?_,?_⟩⟩,⟨rfl,rfl,rfl,by simp,fun k _ hk=>setRow_other w g k _ (fun e=>hk (by simp[e]))⟩,.inl rfl,?_⟩
  ·grind
  ·grind
  intro b off hb eI
  rw[setRow_size]at eI
  have te:g=b:=by
   rcases hb with hb|hb
   ·grind
   omega
  subst te
  simp[World.frozen?,setRow_heap w g cur _ e _ hg]
 have holds:∀j u,xs[j]? = some u->w.cell? ((⟨g,0,none⟩:Addr).add j)=some u:=jE.cells (g:=g) rfl
 have hn:¬(n+m<=cap):=r6
 have TN:¬(9223372036854775807<((n:Int)+(m:Int))):=by omega
 have TO:¬(281474976710656<Builtin.nextslicecap (n+m) cap*i.bytes):=by have:=growslice_fits (need:=n+m) (old:=cap) (by omega) wY;omega
 have TP:=run_firstCells_some (P:=P) w.drew 1 n ⟨g,0,none⟩ n cap xs jE.1 (by trivial)
 have hr:(Builtin.append_ #[t,ti] ty #[.slice (some ⟨g,0,none⟩) n cap,.int .i64 (m:Int)]).run P w=.ok (.slice (some ⟨w.heap.size,0,none⟩) (n+m) (grownCap w (n+m) cap e)) (w.drew.alloc (.cells (xs.toArray++(List.replicate m v0).toArray++Builtin.zeroCells z.cells (grownCap w (n+m) cap e-(n+m))) e)):=by
  have TQ:Builtin.zeroCells #[v0] m=(List.replicate m v0).toArray:=by rw[<-ug]
  simp[Builtin.append_,run_underlying ht,run_underlying B5,sizeOf,typeInfo,zeroValue,hi,hz,G',gR,asInt,asIntOf,L5,dY,L6,L7,hn,TN,TO,Question.forced,TP,newRow,grownCap,TQ]
 have Hd:=grownCap_ge w (n+m) cap e
 have TR:grownCap w (n+m) cap e<=maxLen:=grownCap_le_maxLen w (n+m) cap e yQ
 refine⟨_,_,hr,⟨hlen,.inr ⟨w.heap.size,_,_,rfl,Nat.zero_le _,heap_alloc_new w.drew _,Hd,TR,?_,?_⟩⟩,⟨rfl,rfl,rfl,by simp,fun k hk _=>heap_alloc_old w.drew _ hk⟩,.inr rfl,?_⟩
 ·grind[size_zeroCells]
 ·grind
 intro b off hb eI
 rcases hb with hb|hb
 ·injection hb with hb
  subst hb
  have Ei:g<w.drew.heap.size:=(Array.getElem?_eq_some_iff.1 hg).1
  rw[World.frozen?_of_block (w:=w.drew) (heap_alloc_old w.drew _ Ei)]
  have:w.drew.heap[g]? = some (.cells cur e (0,0)):=hg
  simp[World.frozen?,this]
 simp_all[yR]
end
section
variable {P:Program}{N:Nat}{τ:Nat->AV}{H:Nat->AO}{o:Oper}
theorem L8(id:Nat){t ti e:TypeId}{s x:Operand}{d m:Nat}{n:Int}{v0:Value}{rows:List (List PV)}{pn:Option Value}(ho:o.op=.call { callee:=.builtin .append,args:=#[s,x],argTypes:=#[t,ti] })(hd:o.dst=some d)(ht:d<N)(he:iw P t=some (e,1))(hz:jg P e=some [v0])(rZ:v0.oneCell'=true)(B5:intKind P ti=some .i64)
 (hs:ev τ s=.own id) (hH:H id=.ai ⟨e,pn⟩ 1 rows) (hx:ev τ x=.p (.v (.int .i64 n))) (hn:n=(m:Int)) (h0:0<rows.length) (Ej:0<m) (hm:rows.length+m<=maxLen) (hb:(rows.length+m)*P.bytesOf e<=140737488355328) :
 St P o N τ H [id] (aH (fun s=>bq (cK id) (τ s)) d (.own id)) (aH (fun j=>(H j).bq (cK id)) id (.ai e 1 (rows++List.replicate m [.v v0]))):=by
 subst hn
 obtain⟨i,z,i1,i2,i3,i4,i5⟩:=B6 hz
 obtain⟨q1,_,q3⟩:=wZ he
 have nj:i.size=1:=i4.trans q3
 have TS:P.underlying ti=some (.int .i64):=by unfold intKind at B5;split at B5<;>simp_all
 have this:St P o N τ H [id] (mb (fun s=>bq (cK id) (τ s)) o.dst (.own id)) (aH (fun j=>(H j).bq (cK id)) id (.ai e 1 (rows++List.replicate m [.v v0]))):=w9 id (cK id) (.own id) _ [id] (fun s hs=>by grind) (fun{L O w0 ρ fp a w} hr=>by
  have es:=hr.ev s;rw[hs,RV]at es;have es:=es.2 x_131;have ex:=(hr.ev x);rw[hx]at ex;have ex:=ex.gd;have bY:=hr.ob id;rw[hH]at bY;obtain⟨xs,fr,b1,b2,b3,b4,_⟩:=bY;obtain⟨g,cap,hg⟩:∃g cap,ρ id=.slice (some ⟨g,0,none⟩) rows.length cap:=by
   rcases b3.2 with⟨_,q⟩|⟨g,cap,cur,q,_⟩;all_goals grind
  rw[hg]at b3;obtain⟨v',w',r1,r2,r3,r4,r5⟩:=TL (P:=P) (ty:=o.type) q1 TS i1 i2 (v0:=v0) (by rw[i3]) nj rZ b3 Ej hm (by grind);have pJ:(ρ id).ownBlock=some g:=by rw[hg];rfl
  refine⟨w',v',(ρ id).ownBlock,v',_,?_,.inl rfl,by grind,fun b hb=>⟨by simp,by rw[hH];rfl,hb⟩,fun b off h=>by grind,fun hk=>(by grind[cK]),fun b hb=>?_,fun E=>⟨?_,?_⟩⟩
  ·simp_all[execOp,resolve,invoke,builtin]
  ·rcases r4 with q|q
   ·exact .inr ⟨by rw[hH];rfl,by rw[pJ,<-q];exact hb⟩
   grind
  ·obtain⟨k1,k2⟩:=bI.vA E b1 b2;have k3:bI w' false 1 (List.replicate m [PV.v v0]) (List.replicate m v0) []:=by
    have:=bI.dg (w:=w') (st:=false) (zs:=[v0]) (by intro u hu;rw[List.mem_singleton.1 hu];exact rZ) m;have e:(List.replicate m [v0]).flatten=List.replicate m v0:=L3 v0 m;rw[e]at this;exact this
   refine⟨xs++List.replicate m v0,fr++[],bI.append k1 k3,fun b hb=>?_,?_,rfl,fun u hu=>by cases hu⟩;all_goals grind
  rw[RV,dV,dV];have:v'.oneCell'=true:=by
   rcases r2.2 with⟨q,_⟩|⟨g,cap,cur,q,_⟩<;>rw[q]<;>rfl
  grind)
 rw[hd]at this
 exact this
end

section
variable {P:Program}{f:FuncId}{args:List AV}{i sz:Nat}{e:TypeId}{rows:List (List PV)}
theorem GC.ui(h:GC P f args [] (.own i) [(i,.ai ⟨e,none⟩ sz rows)]):GC P f args [] (.p (.ab e sz rows)) []:=
 (GX.frozen (Z:=fun y=>y=.p (.ab e sz rows)) h fun x ob ⟨V,h2⟩=>by
   subst V h2;exact⟨_,Still.row (e:=⟨e,none⟩) (sz:=sz) (rows:=rows) (by simp[bx]),rfl⟩).mono fun y o ⟨e1,e2⟩=>⟨e2,e1⟩
theorem GC.Aq{x2:PV}(h:GC P f args [] (.au [.own i,.p x2]) [(i,.ai ⟨e,none⟩ sz rows)]):GC P f args [] (.au [.p (.ab e sz rows),.p x2]) []:=
 (GX.frozen (Z:=fun y=>y=.au [.p (.ab e sz rows),.p x2]) h fun x ob ⟨V,h2⟩=>by
   subst V h2;exact⟨_,Still.au (.cons (Still.row (e:=⟨e,none⟩) (sz:=sz) (rows:=rows) (by simp[bx])) (.cons (Still.p _) .nil)),rfl⟩).mono fun y o ⟨e1,e2⟩=>⟨e2,e1⟩
def L9(e:TypeId)(sz:Nat)(rows:List (List PV)):AV->List (Nat×AO)->List AO->Prop:=fun y l1 F1=>∃v,y=.p (.v v)/\l1=[]/\F1=[.ai ⟨e,some v⟩ sz rows]
theorem GC.TT(h:GC P f args [] (.own i) [(i,.ai ⟨e,none⟩ sz rows)])(jC:∀r∈rows,∀p∈r,∃v,p=PV.v v):GN P f args [] [] (L9 e sz rows):=by
 intro L w cs ρ fp hL pF bY pG ud;refine Calls.mono (h L w cs ρ fp hL pF bY pG ud) ?_;rintro en w' ⟨x,bd,⟨rfl,rfl⟩,v,ci,bH,rfl,g1,g2,g3,g4,g5⟩;have hi:bx [(i,AO.ai ⟨e,none⟩ sz rows)] i=.ai ⟨e,none⟩ sz rows:=by simp[bx]
 rw[RV]at g2;have vC:=g2.1;have hv:=g2.2 (by rw[hi];rfl);have h3:=g3 i;rw[hi]at h3;obtain⟨xs,fr,k1,k2,k3,k4,_⟩:=h3;have ke:=k1.vj jC;subst ke;refine⟨.p (.v v),je 1000000 [.ai ⟨e,some v⟩ sz rows],⟨[],[.ai ⟨e,some v⟩ sz rows],rfl,fun o ho=>by rw[List.mem_singleton.1 ho];rfl,by simp,rfl,v,rfl,rfl,rfl⟩,v,(fun j=>if j=1000000 then v else undef),(fun j=>if j=1000000 then bH i else []),rfl,g1,?_,fun j=>?_,fun j j' hj b hb ec=>?_,fun j b hb=>?_⟩
 ·exact fX vC
 ·by_cases q:j=1000000
  ·subst q;simp only[if_true];have e1:bx (je 1000000 [.ai ⟨e,some v⟩ sz rows]) 1000000=.ai ⟨e,some v⟩ sz rows:=by rw[Ar];simp
   rw[e1];exact⟨xs,[],k1,by simp,by rw[hv];exact k3,by rw[hv];exact k4,fun u hu=>by injection hu⟩
  have e1:bx (je 1000000 [AO.ai ⟨e,some v⟩ sz rows]) j=.gone:=by
   rw[Ar];by_cases z:1000000<=j
   ·rw[if_pos z,List.getElem?_eq_none x_70];rfl
   rw[if_neg z]
  rw[e1];show (if j=1000000 then bH i else [])=[];rw[if_neg q]
 all_goals grind
end

def cl:Nat->Int->List Int
 |0,_=>[]
 |k+1,n=>n/256 ^ k%256::cl k n
theorem da(n:Int):∀k,(cl k n).length=k
 |0=>rfl
 |k+1=>by rw[cl,List.length_cons,da n k]
theorem wX(n:Int):∀k,fA (cl k n)
 |0=>fun b hb=>by cases hb
 |k+1=>fun b hb=>by
  rw[cl]at hb;rcases List.mem_cons.1 hb with rfl|hb
  ·omega
  exact wX n k b hb
theorem LU(n:Int):∀(k j:Nat),j<k->(cl k n)[j]? = some (n/256 ^ (k-1-j)%256)
 |0,j,h=>absurd h (by omega)
 |k+1,0,_=>by rfl
 |k+1,j+1,h=>by
  rw[cl,List.getElem?_cons_succ,LU n k j (by omega),show k+1-1-(j+1)=k-1-j by omega]
theorem Tz{n:Int}{k j:Nat}(h:j<k):(cl k n).take (j+1)=(cl k n).take j++[n/256 ^ (k-1-j)%256]:=by
 have hl:j<(cl k n).length:=by rw[da];exact h
 rw[List.take_succ_eq_append_getElem hl];have:=LU n k j h;grind
def mO(l:List Int):Int:=l.foldl (fun n x=>n*256+x) 0
theorem TA(l:List Int)(x:Int):mO (l++[x])=mO l*256+x:=by grind[mO]
theorem LV:∀(l:List Int) (a:Int),fA l->0<=a->0<=l.foldl (fun n x=>n*256+x) a/\l.foldl (fun n x=>n*256+x) a<(a+1)*256 ^ l.length
 |[],a,_,ha=>by grind
 |x::l,a,h,ha=>by
  have hx:=h x (by simp);have ih:=LV l (a*256+x) (fun b hb=>h b (by simp[hb])) (by omega);rw[List.foldl_cons,List.length_cons,Int.pow_succ];refine⟨ih.1,Int.lt_of_lt_of_le ih.2 ?_⟩;have V:a*256+x+1<=(a+1)*256:=by omega
  have h2:(0:Int)<=256 ^ l.length:=Int.pow_nonneg (by omega);have:=Int.mul_le_mul_of_nonneg_right V h2;grind
theorem LW:∀(k:Nat) (n a:Int),0<=n->n<256 ^ k->(cl k n).foldl (fun n x=>n*256+x) a=a*256 ^ k+n
 |0,n,a,h0,V=>by
  grind[cl]
 |k+1,n,a,h0,V=>by
  rw[cl,List.foldl_cons];have hp:(0:Int)<256 ^ k:=Int.pow_pos (by omega);have e1:n/256 ^ k%256=n/256 ^ k:=by
   refine Int.emod_eq_of_lt (Int.ediv_nonneg h0 (by omega)) (Int.ediv_lt_of_lt_mul hp ?_);rw[Int.pow_succ,Int.mul_comm]at V;exact V
  have e2:∀(j:Nat) (m:Int),j<=k->cl j m=cl j (m%256 ^ k):=by
   intro j;induction j with
   |zero=>intro m _;rfl
   |succ j ih=>
    intro m hj;rw[cl,cl,ih m (by omega)];congr 1;have Eg:(256:Int) ^ k=256 ^ (j+1)*256 ^ (k-(j+1)):=by rw[<-Int.pow_add];congr 1;omega
    have hpj:(0:Int)<256 ^ j:=Int.pow_pos (by omega);have key:m%256 ^ k=m-256 ^ j*(256*(256 ^ (k-(j+1))*(m/256 ^ k))):=by
     rw[Int.emod_def,Eg,Int.pow_succ];simp only[Int.mul_assoc]
    rw[key,Int.sub_mul_ediv_left _ _ (by omega),Int.sub_mul_emod_self_left]
  rw[e2 k n (Nat.le_refl _),LW k (n%256 ^ k) _ (Int.emod_nonneg _ (by omega)) (Int.emod_lt_of_pos _ hp),e1,Int.pow_succ,Int.add_mul,Int.mul_assoc,Int.mul_comm 256];grind[Int.mul_ediv_add_emod]
theorem LX{k:Nat}{n:Int}(h0:0<=n)(V:n<256 ^ k):mO (cl k n)=n:=by
 grind[mO,LW]
end Go.Proofs.YtflhgkmhmcfimaaGreat

namespace Go.Proofs.YtflhgkmhmcfimaaGreat
set_option maxRecDepth 100000
open Tryz
open Go Go.Proofs Go.Proofs.YtflhgkmhmcfimaaGreat
theorem ac:dq prog 3=some none:=by rfl
theorem ca:prog.cellsOf 3=1:=by rfl
theorem uy:prog.bytesOf 3<=512:=Nat.le_of_ble_eq_true (by rfl)
theorem cb:(prog.info? 3).isSome=true:=by rfl
theorem lM:intKind prog 3=some .i64:=by rfl
theorem lY:jg prog 3=some [.int .i64 0]:=by kernel_rfl
theorem jN:dq prog 4=some none:=by rfl
theorem ES:prog.cellsOf 4=1:=by rfl
theorem ET:(prog.info? 4).isSome=true:=by rfl
theorem xD:jg prog 4=some [.bool false]:=by kernel_rfl
theorem tf:dq prog 5=some none:=by rfl
theorem Vs:prog.cellsOf 5=1:=by rfl
theorem mu:prog.bytesOf 5<=512:=Nat.le_of_ble_eq_true (by rfl)
theorem Vt:(prog.info? 5).isSome=true:=by rfl
theorem pK:intKind prog 5=some .u8:=by rfl
theorem ie:jg prog 5=some [.int .u8 0]:=by kernel_rfl
theorem M7:dq prog 22=some none:=by rfl
theorem M8:iw prog 22=some (202,1):=by rfl
theorem EU:isSlice prog 22=true:=by rfl
theorem M9:dq prog 23=some none:=by rfl
theorem M':iw prog 23=some (204,2):=by rfl
theorem EV:isSlice prog 23=true:=by rfl
theorem Na:dq prog 25=some (some 2):=by rfl
theorem x_3{p:Prop}(c:p:=by exact ⟨by rfl,by trivial,by rfl⟩):p:=c
theorem Nb:FA prog 25 0 0 22:=x_3
theorem Nc:FA prog 25 1 1 23:=x_3
theorem Nd:dq prog 27=some (some 4):=by rfl
theorem Nf:FA prog 27 0 0 25:=x_3
theorem Vu:FA prog 27 1 2 3:=x_3
theorem Vv:FA prog 27 2 3 3:=x_3
theorem Ng:dq prog 28=some none:=by rfl
theorem Vw:iw prog 28=some (254,7):=by rfl
theorem Ib:isSlice prog 28=true:=by rfl
theorem Nh:dq prog 29=some none:=by rfl
theorem Vx:iw prog 29=some (256,7):=by rfl
theorem Ic:isSlice prog 29=true:=by rfl
theorem Ni:dq prog 30=some none:=by rfl
theorem Vy:iw prog 30=some (258,5):=by rfl
theorem Id:isSlice prog 30=true:=by rfl
theorem Nj:dq prog 32=some (some 6):=by rfl
theorem Vz:FA prog 32 0 0 3:=x_3
theorem VA:FA prog 32 1 1 3:=x_3
theorem VB:FA prog 32 2 2 3:=x_3
theorem Nk:FA prog 32 3 3 28:=x_3
theorem Nl:FA prog 32 4 4 29:=x_3
theorem Nm:FA prog 32 5 5 30:=x_3
theorem Nn:dq prog 33=some none:=by rfl
theorem VC:iw prog 33=some (262,3):=by rfl
theorem Ie:isSlice prog 33=true:=by rfl
theorem No:dq prog 35=some (some 2):=by rfl
theorem VD:FA prog 35 0 0 3:=x_3
theorem Np:FA prog 35 1 1 33:=x_3
theorem EW:dq prog 36=some none:=by rfl
theorem VE:iw prog 36=some (181,7):=by rfl
theorem If:isSlice prog 36=true:=by rfl
theorem EX:dq prog 38=some (some 14):=by rfl
theorem Nq:FA prog 38 0 0 27:=x_3
theorem Nr:FA prog 38 1 4 32:=x_3
theorem Ns:FA prog 38 2 10 35:=x_3
theorem Nt:FA prog 38 3 12 36:=x_3
theorem Nu:FA prog 38 4 13 36:=x_3
theorem oB:dq prog 40=some none:=by rfl
theorem VF:prog.cellsOf 40=1:=by rfl
theorem VG:(prog.info? 40).isSome=true:=by rfl
theorem xE:iw prog 40=some (195,1):=by rfl
theorem po:isSlice prog 40=true:=by rfl
theorem sk:dq prog 41=some none:=by rfl
theorem VH:prog.cellsOf 41=1:=by rfl
theorem VI:(prog.info? 41).isSome=true:=by rfl
theorem uz:iw prog 41=some (192,2):=by rfl
theorem vT:isSlice prog 41=true:=by rfl
theorem mE:dq prog 43=some (some 2):=by rfl
theorem Dv:prog.cellsOf 43=2:=by rfl
theorem Dw:(prog.info? 43).isSome=true:=by rfl
theorem n9:FA prog 43 0 0 40:=x_3
theorem ru:FA prog 43 1 1 41:=x_3
theorem Du:jg prog 43=some [.slice none 0 0,.slice none 0 0]:=by kernel_rfl
theorem adU:qp prog 43=some ([.slice none 0 0,.slice none 0 0],[(0,1),(1,1)]):=by kernel_rfl
theorem EY:dq prog 45=some (some 4):=by rfl
theorem Nv:prog.cellsOf 45=4:=by rfl
theorem Nw:(prog.info? 45).isSome=true:=by rfl
theorem Bv:FA prog 45 0 0 43:=x_3
theorem wD:FA prog 45 1 2 3:=x_3
theorem zW:FA prog 45 2 3 3:=x_3
theorem Nx:jg prog 45=some [.slice none 0 0,.slice none 0 0,.int .i64 0,.int .i64 0]:=by kernel_rfl
theorem eg:dq prog 46=some none:=by rfl
theorem sM:prog.cellsOf 46=1:=by rfl
theorem sN:(prog.info? 46).isSome=true:=by rfl
theorem cz:iw prog 46=some (159,7):=by rfl
theorem kJ:isSlice prog 46=true:=by rfl
theorem fS:dq prog 47=some none:=by rfl
theorem tQ:prog.cellsOf 47=1:=by rfl
theorem tR:(prog.info? 47).isSome=true:=by rfl
theorem f7:iw prog 47=some (218,7):=by rfl
theorem jb:isSlice prog 47=true:=by rfl
theorem ii:dq prog 48=some none:=by rfl
theorem yh:prog.cellsOf 48=1:=by rfl
theorem yk:(prog.info? 48).isSome=true:=by rfl
theorem iI:iw prog 48=some (220,5):=by rfl
theorem j7:isSlice prog 48=true:=by rfl
theorem cu:dq prog 50=some (some 6):=by rfl
theorem eu:prog.cellsOf 50=6:=by rfl
theorem ew:(prog.info? 50).isSome=true:=by rfl
theorem mB:FA prog 50 0 0 3:=x_3
theorem mW:FA prog 50 1 1 3:=x_3
theorem iW:FA prog 50 2 2 3:=x_3
theorem dr:FA prog 50 3 3 46:=x_3
theorem eF:FA prog 50 4 4 47:=x_3
theorem gn:FA prog 50 5 5 48:=x_3
theorem mD:jg prog 50=some [.int .i64 0,.int .i64 0,.int .i64 0,.slice none 0 0,.slice none 0 0,.slice none 0 0]:=by kernel_rfl
theorem s6:qp prog 50=some ([.int .i64 0,.int .i64 0,.int .i64 0,.slice none 0 0,.slice none 0 0,.slice none 0 0],[(0,1),(1,1),(2,1),(3,1),(4,1),(5,1)]):=by rfl
theorem gY:dq prog 51=some none:=by rfl
theorem z8:prog.cellsOf 51=1:=by rfl
theorem z':(prog.info? 51).isSome=true:=by rfl
theorem cV:iw prog 51=some (167,3):=by rfl
theorem hZ:isSlice prog 51=true:=by rfl
theorem eZ:dq prog 53=some (some 2):=by rfl
theorem cA:prog.cellsOf 53=2:=by rfl
theorem cB:(prog.info? 53).isSome=true:=by rfl
theorem pW:FA prog 53 0 0 3:=x_3
theorem jY:FA prog 53 1 1 51:=x_3
theorem ld:jg prog 53=some [.int .i64 0,.slice none 0 0]:=by kernel_rfl
theorem lP:qp prog 53=some ([.int .i64 0,.slice none 0 0],[(0,1),(1,1)]):=by rfl
theorem tE:dq prog 54=some none:=by rfl
theorem Ny:prog.cellsOf 54=1:=by rfl
theorem Nz:(prog.info? 54).isSome=true:=by rfl
theorem jk:iw prog 54=some (81,7):=by rfl
theorem jZ:isSlice prog 54=true:=by rfl
theorem EZ:dq prog 56=some (some 14):=by rfl
theorem NA:prog.cellsOf 56=14:=by rfl
theorem NB:(prog.info? 56).isSome=true:=by rfl
theorem qL:FA prog 56 0 0 45:=x_3
theorem Bw:FA prog 56 1 4 50:=x_3
theorem Bx:FA prog 56 2 10 53:=x_3
theorem Bz:FA prog 56 3 12 54:=x_3
theorem By:FA prog 56 4 13 54:=x_3
theorem Ig:jg prog 56=some [.slice none 0 0,.slice none 0 0,.int .i64 0,.int .i64 0,.int .i64 0,.int .i64 0,.int .i64 0,.slice none 0 0,.slice none 0 0,.slice none 0 0,.int .i64 0,.slice none 0 0,.slice none 0 0,.slice none 0 0]:=by kernel_rfl
theorem iU:iw prog 62=some (3,1):=by rfl
theorem x4:isSlice prog 62=true:=by rfl
theorem kb:dq prog 76=some none:=by rfl
theorem Ih:prog.cellsOf 76=1:=by rfl
theorem Ii:(prog.info? 76).isSome=true:=by rfl
theorem fh:iw prog 76=some (5,1):=by rfl
theorem kE:isSlice prog 76=true:=by rfl
theorem dD:dq prog 81=some (some 7):=by rfl
theorem mZ:prog.cellsOf 81=7:=by rfl
theorem sD:prog.bytesOf 81<=512:=Nat.le_of_ble_eq_true (by rfl)
theorem m0:(prog.info? 81).isSome=true:=by rfl
theorem jz:FA prog 81 0 0 3:=x_3
theorem gE:FA prog 81 1 1 3:=x_3
theorem dn:FA prog 81 2 2 3:=x_3
theorem fK:FA prog 81 3 3 3:=x_3
theorem bN:FA prog 81 4 4 3:=x_3
theorem fC:FA prog 81 5 5 3:=x_3
theorem pw:FA prog 81 6 6 4:=x_3
theorem jl:jg prog 81=some [.int .i64 0,.int .i64 0,.int .i64 0,.int .i64 0,.int .i64 0,.int .i64 0,.bool false]:=by kernel_rfl
theorem xF:qp prog 81=some ([.int .i64 0,.int .i64 0,.int .i64 0,.int .i64 0,.int .i64 0,.int .i64 0,.bool false],[(0,1),(1,1),(2,1),(3,1),(4,1),(5,1),(6,1)]):=by rfl
theorem vb:iw prog 82=some (92,2):=by rfl
theorem pX:isSlice prog 82=true:=by rfl
theorem ol:dq prog 92=some (some 2):=by rfl
theorem na:prog.cellsOf 92=2:=by rfl
theorem NC:prog.bytesOf 92<=512:=Nat.le_of_ble_eq_true (by rfl)
theorem nb:(prog.info? 92).isSome=true:=by rfl
theorem wN:FA prog 92 0 0 3:=x_3
theorem t7:FA prog 92 1 1 51:=x_3
theorem pC:jg prog 92=some [.int .i64 0,.slice none 0 0]:=by kernel_rfl
theorem uA:qp prog 92=some ([.int .i64 0,.slice none 0 0],[(0,1),(1,1)]):=by rfl
theorem BQ:dq prog 132=some none:=by rfl
theorem K1:prog.cellsOf 132=1:=by rfl
theorem K2:(prog.info? 132).isSome=true:=by rfl
theorem tY:iw prog 132=some (141,3):=by rfl
theorem yw:isSlice prog 132=true:=by rfl
theorem Su:jg prog 132=some [.slice none 0 0]:=by kernel_rfl
theorem nP:dq prog 141=some (some 3):=by rfl
theorem mL:prog.cellsOf 141=3:=by rfl
theorem Gh:prog.bytesOf 141<=512:=Nat.le_of_ble_eq_true (by rfl)
theorem mM:(prog.info? 141).isSome=true:=by rfl
theorem tX:FA prog 141 0 0 3:=x_3
theorem rQ:FA prog 141 1 1 3:=x_3
theorem u':FA prog 141 2 2 76:=x_3
theorem pB:jg prog 141=some [.int .i64 0,.int .i64 0,.slice none 0 0]:=by kernel_rfl
theorem r9:qp prog 141=some ([.int .i64 0,.int .i64 0,.slice none 0 0],[(0,1),(1,1),(2,1)]):=by rfl
theorem dR:FA prog 153 0 0 50:=x_3
theorem DJ:FA prog 153 1 6 51:=x_3
theorem mK:FA prog 153 2 7 3:=x_3
theorem VJ:qp prog 153=some ([.int .i64 0,.int .i64 0,.int .i64 0,.slice none 0 0,.slice none 0 0,.slice none 0 0,.slice none 0 0,.int .i64 0],[(0,6),(6,1),(7,1)]):=by rfl
theorem fF:dq prog 159=some (some 7):=by rfl
theorem lu:prog.cellsOf 159=7:=by rfl
theorem jL:prog.bytesOf 159<=512:=Nat.le_of_ble_eq_true (by rfl)
theorem lv:(prog.info? 159).isSome=true:=by rfl
theorem kM:FA prog 159 0 0 3:=x_3
theorem qS:FA prog 159 1 1 3:=x_3
theorem fH:FA prog 159 2 2 3:=x_3
theorem ic:FA prog 159 3 3 3:=x_3
theorem nE:FA prog 159 4 4 3:=x_3
theorem mH:FA prog 159 5 5 3:=x_3
theorem ms:FA prog 159 6 6 3:=x_3
theorem dy:jg prog 159=some [.int .i64 0,.int .i64 0,.int .i64 0,.int .i64 0,.int .i64 0,.int .i64 0,.int .i64 0]:=by kernel_rfl
theorem BB:qp prog 159=some ([.int .i64 0,.int .i64 0,.int .i64 0,.int .i64 0,.int .i64 0,.int .i64 0,.int .i64 0],[(0,1),(1,1),(2,1),(3,1),(4,1),(5,1),(6,1)]):=by rfl
theorem i0:dq prog 165=some (some 2):=by rfl
theorem Dm:prog.cellsOf 165=2:=by rfl
theorem ND:(prog.info? 165).isSome=true:=by rfl
theorem oW:FA prog 165 0 0 3:=x_3
theorem rV:FA prog 165 1 1 3:=x_3
theorem NE:jg prog 165=some [.int .i64 0,.int .i64 0]:=by kernel_rfl
theorem KW:qp prog 165=some ([.int .i64 0,.int .i64 0],[(0,1),(1,1)]):=by rfl
theorem iV:dq prog 167=some (some 3):=by rfl
theorem vf:prog.cellsOf 167=3:=by rfl
theorem lE:prog.bytesOf 167<=512:=Nat.le_of_ble_eq_true (by rfl)
theorem vg:(prog.info? 167).isSome=true:=by rfl
theorem jf:FA prog 167 0 0 165:=x_3
theorem ni:FA prog 167 1 2 3:=x_3
theorem eP:jg prog 167=some [.int .i64 0,.int .i64 0,.int .i64 0]:=by kernel_rfl
theorem DK:qp prog 167=some ([.int .i64 0,.int .i64 0,.int .i64 0],[(0,2),(2,1)]):=by rfl
theorem VK:dq prog 181=some (some 7):=by rfl
theorem VL:FA prog 181 0 0 3:=x_3
theorem VM:FA prog 181 1 1 3:=x_3
theorem VN:FA prog 181 2 2 3:=x_3
theorem VO:FA prog 181 3 3 3:=x_3
theorem VP:FA prog 181 4 4 3:=x_3
theorem VQ:FA prog 181 5 5 3:=x_3
theorem VR:FA prog 181 6 6 4:=x_3
theorem AY:dq prog 192=some (some 2):=by rfl
theorem E0:prog.cellsOf 192=2:=by rfl
theorem VS:prog.bytesOf 192<=512:=Nat.le_of_ble_eq_true (by rfl)
theorem E1:(prog.info? 192).isSome=true:=by rfl
theorem xG:FA prog 192 0 0 3:=x_3
theorem zm:FA prog 192 1 1 76:=x_3
theorem CA:jg prog 192=some [.int .i64 0,.slice none 0 0]:=by kernel_rfl
theorem acq:qp prog 192=some ([.int .i64 0,.slice none 0 0],[(0,1),(1,1)]):=by kernel_rfl
theorem zn:dq prog 195=some (some 1):=by rfl
theorem E2:prog.cellsOf 195=1:=by rfl
theorem VT:prog.bytesOf 195<=512:=Nat.le_of_ble_eq_true (by rfl)
theorem E3:(prog.info? 195).isSome=true:=by rfl
theorem uB:FA prog 195 0 0 76:=x_3
theorem CB:jg prog 195=some [.slice none 0 0]:=by kernel_rfl
theorem acN:qp prog 195=some ([.slice none 0 0],[(0,1)]):=by kernel_rfl
theorem NG:dq prog 202=some (some 1):=by rfl
theorem NH:FA prog 202 0 0 76:=x_3
theorem NI:dq prog 204=some (some 2):=by rfl
theorem VU:FA prog 204 0 0 3:=x_3
theorem NJ:FA prog 204 1 1 76:=x_3
theorem kZ:dq prog 218=some (some 7):=by rfl
theorem nJ:prog.cellsOf 218=7:=by rfl
theorem sQ:prog.bytesOf 218<=512:=Nat.le_of_ble_eq_true (by rfl)
theorem nL:(prog.info? 218).isSome=true:=by rfl
theorem u7:FA prog 218 0 0 3:=x_3
theorem oM:FA prog 218 1 1 3:=x_3
theorem mJ:FA prog 218 2 2 3:=x_3
theorem n3:FA prog 218 3 3 3:=x_3
theorem kw:FA prog 218 4 4 3:=x_3
theorem BF:FA prog 218 5 5 4:=x_3
theorem tV:FA prog 218 6 6 3:=x_3
theorem iu:jg prog 218=some [.int .i64 0,.int .i64 0,.int .i64 0,.int .i64 0,.int .i64 0,.bool false,.int .i64 0]:=by kernel_rfl
theorem z0:qp prog 218=some ([.int .i64 0,.int .i64 0,.int .i64 0,.int .i64 0,.int .i64 0,.bool false,.int .i64 0],[(0,1),(1,1),(2,1),(3,1),(4,1),(5,1),(6,1)]):=by rfl
theorem l5:dq prog 220=some (some 5):=by rfl
theorem oK:prog.cellsOf 220=5:=by rfl
theorem wI:prog.bytesOf 220<=512:=Nat.le_of_ble_eq_true (by rfl)
theorem oL:(prog.info? 220).isSome=true:=by rfl
theorem u9:FA prog 220 0 0 3:=x_3
theorem nO:FA prog 220 1 1 3:=x_3
theorem py:FA prog 220 2 2 3:=x_3
theorem lO:FA prog 220 3 3 3:=x_3
theorem pO:FA prog 220 4 4 3:=x_3
theorem jO:jg prog 220=some [.int .i64 0,.int .i64 0,.int .i64 0,.int .i64 0,.int .i64 0]:=by kernel_rfl
theorem F8:qp prog 220=some ([.int .i64 0,.int .i64 0,.int .i64 0,.int .i64 0,.int .i64 0],[(0,1),(1,1),(2,1),(3,1),(4,1)]):=by rfl
theorem n4:iw prog 232=some (4,1):=by rfl
theorem c8:FA prog 236 0 0 50:=x_3
theorem E4:FA prog 236 1 6 51:=x_3
theorem uC:FA prog 236 2 7 3:=x_3
theorem VV:qp prog 236=some ([.int .i64 0,.int .i64 0,.int .i64 0,.slice none 0 0,.slice none 0 0,.slice none 0 0,.slice none 0 0,.int .i64 0],[(0,6),(6,1),(7,1)]):=by rfl
theorem VW:dq prog 254=some (some 7):=by rfl
theorem VX:FA prog 254 0 0 3:=x_3
theorem VY:FA prog 254 1 1 3:=x_3
theorem VZ:FA prog 254 2 2 3:=x_3
theorem V0:FA prog 254 3 3 3:=x_3
theorem V1:FA prog 254 4 4 3:=x_3
theorem V2:FA prog 254 5 5 3:=x_3
theorem V3:FA prog 254 6 6 3:=x_3
theorem V4:dq prog 256=some (some 7):=by rfl
theorem V5:FA prog 256 0 0 3:=x_3
theorem V6:FA prog 256 1 1 3:=x_3
theorem V7:FA prog 256 2 2 3:=x_3
theorem V8:FA prog 256 3 3 3:=x_3
theorem V9:FA prog 256 4 4 3:=x_3
theorem V':FA prog 256 5 5 4:=x_3
theorem Wa:FA prog 256 6 6 3:=x_3
theorem Wb:dq prog 258=some (some 5):=by rfl
theorem Wc:FA prog 258 0 0 3:=x_3
theorem Wd:FA prog 258 1 1 3:=x_3
theorem We:FA prog 258 2 2 3:=x_3
theorem Wf:FA prog 258 3 3 3:=x_3
theorem Wg:FA prog 258 4 4 3:=x_3
theorem Wh:dq prog 260=some (some 2):=by rfl
theorem Wi:FA prog 260 0 0 3:=x_3
theorem Wj:FA prog 260 1 1 3:=x_3
theorem Wk:dq prog 262=some (some 3):=by rfl
theorem Wm:FA prog 262 0 0 260:=x_3
theorem Wn:FA prog 262 1 2 3:=x_3
theorem Wo:intKind prog 272=some .u64:=by rfl
theorem AZ:intKind prog 286=some .u64:=by rfl
theorem oz : prog.fieldsOf 81 = ([{ name := "Kind",type := 3,offset := 0,embedded := false,tag := "",pkgPath := "",byteOffset := 0 },{ name := "Key",type := 3,offset := 1,embedded := false,tag := "",pkgPath := "",byteOffset := 8 },{ name := "Ch",type := 3,offset := 2,embedded := false,tag := "",pkgPath := "",byteOffset := 16 },{ name := "To",type := 3,offset := 3,embedded := false,tag := "",pkgPath := "",byteOffset := 24 },{ name := "Amt",type := 3,offset := 4,embedded := false,tag := "",pkgPath := "",byteOffset := 32 },{ name := "Fee",type := 3,offset := 5,embedded := false,tag := "",pkgPath := "",byteOffset := 40 },{ name := "Yes",type := 4,offset := 6,embedded := false,tag := "",pkgPath := "",byteOffset := 48 }] : List Field).toArray := by rfl
theorem pe:prog.underlying 81=some (.struct (prog.fieldsOf 81)):=by rfl
theorem pf:prog.stoodInHeld 81=false:=by rfl
theorem pg:prog.eqGuardType prog.depth 81=false:=by simp
theorem FP : prog.fieldsOf 159 = ([{ name := "Id",type := 3,offset := 0,embedded := false,tag := "",pkgPath := "",byteOffset := 0 },{ name := "Size",type := 3,offset := 1,embedded := false,tag := "",pkgPath := "",byteOffset := 8 },{ name := "Local",type := 3,offset := 2,embedded := false,tag := "",pkgPath := "",byteOffset := 16 },{ name := "Remote",type := 3,offset := 3,embedded := false,tag := "",pkgPath := "",byteOffset := 24 },{ name := "Base",type := 3,offset := 4,embedded := false,tag := "",pkgPath := "",byteOffset := 32 },{ name := "Ppm",type := 3,offset := 5,embedded := false,tag := "",pkgPath := "",byteOffset := 40 },{ name := "Score",type := 3,offset := 6,embedded := false,tag := "",pkgPath := "",byteOffset := 48 }] : List Field).toArray := by rfl
theorem JX:prog.underlying 159=some (.struct (prog.fieldsOf 159)):=by rfl
theorem JY:prog.stoodInHeld 159=false:=by rfl
theorem JZ:prog.eqGuardType prog.depth 159=false:=by simp
theorem uR : prog.fieldsOf 165 = ([{ name := "Kind",type := 3,offset := 0,embedded := false,tag := "",pkgPath := "",byteOffset := 0 },{ name := "Ch",type := 3,offset := 1,embedded := false,tag := "",pkgPath := "",byteOffset := 8 }] : List Field).toArray := by rfl
theorem wA:prog.underlying 165=some (.struct (prog.fieldsOf 165)):=by rfl
theorem wB:prog.stoodInHeld 165=false:=by simp
theorem Ad:prog.eqGuardType prog.depth 165=false:=by simp
theorem FQ : prog.fieldsOf 218 = ([{ name := "Key",type := 3,offset := 0,embedded := false,tag := "",pkgPath := "",byteOffset := 0 },{ name := "In",type := 3,offset := 1,embedded := false,tag := "",pkgPath := "",byteOffset := 8 },{ name := "Out",type := 3,offset := 2,embedded := false,tag := "",pkgPath := "",byteOffset := 16 },{ name := "AmtIn",type := 3,offset := 3,embedded := false,tag := "",pkgPath := "",byteOffset := 24 },{ name := "AmtOut",type := 3,offset := 4,embedded := false,tag := "",pkgPath := "",byteOffset := 32 },{ name := "Kept",type := 4,offset := 5,embedded := false,tag := "",pkgPath := "",byteOffset := 40 },{ name := "Age",type := 3,offset := 6,embedded := false,tag := "",pkgPath := "",byteOffset := 48 }] : List Field).toArray := by rfl
theorem J0:prog.underlying 218=some (.struct (prog.fieldsOf 218)):=by rfl
theorem J1:prog.stoodInHeld 218=false:=by rfl
theorem J2:prog.eqGuardType prog.depth 218=false:=by simp
theorem FR : prog.fieldsOf 220 = ([{ name := "Key",type := 3,offset := 0,embedded := false,tag := "",pkgPath := "",byteOffset := 0 },{ name := "From",type := 3,offset := 1,embedded := false,tag := "",pkgPath := "",byteOffset := 8 },{ name := "To",type := 3,offset := 2,embedded := false,tag := "",pkgPath := "",byteOffset := 16 },{ name := "Amt",type := 3,offset := 3,embedded := false,tag := "",pkgPath := "",byteOffset := 24 },{ name := "Fee",type := 3,offset := 4,embedded := false,tag := "",pkgPath := "",byteOffset := 32 }] : List Field).toArray := by rfl
theorem J3:prog.underlying 220=some (.struct (prog.fieldsOf 220)):=by rfl
theorem J4:prog.stoodInHeld 220=false:=by rfl
theorem J5:prog.eqGuardType prog.depth 220=false:=by simp
open Go.RowKit
set_option maxHeartbeats 16000000
set_option maxRecDepth 100000
set_option linter.unusedSimpArgs false
set_option linter.unusedVariables false
def cg(a b:Acc):Bool:=decide (a.kind<b.kind)||((a.kind==b.kind)&&decide (a.ch<b.ch))
def dL(n:Int):Bool:=aI n (-1125899906842624) 1125899906842624
theorem vi(x y:Int):decide (x=y)=(x==y):=by rfl
def fM:List aO->List aO->Option (List aO)
 |[],b=>some b
 |x::a,[]=>some (x::a)
 |x::a,y::b=>
  if cg x.acc y.acc then (fM a (y::b)).map (x::·)
  else if cg y.acc x.acc then (fM (x::a) b).map (y::·)
  else if dL (x.af+y.af)then (if x.af+y.af=0 then fM a b else (fM a b).map (⟨x.acc,x.af+y.af⟩::·))
  else none
termination_by a b=>a.length+b.length
theorem yo(b:List aO):fM [] b=some b:=by grind[fM]
theorem z6:∀(a:List aO),fM a []=some a
 |[]=>by grind[fM]
 |x::a=>by grind[fM]
theorem BI{x y:aO}{a b:List aO}(h:cg x.acc y.acc=true):fM (x::a) (y::b)=(fM a (y::b)).map (x::·):=by
 simp_all[fM]
theorem BJ{x y:aO}{a b:List aO}(h:cg x.acc y.acc=false)(h2:cg y.acc x.acc=true):fM (x::a) (y::b)=(fM (x::a) b).map (y::·):=by
 simp_all[fM]
theorem MR{x y:aO}{a b:List aO}(h:cg x.acc y.acc=false)(h2:cg y.acc x.acc=false)(h3:dL (x.af+y.af)=false):fM (x::a) (y::b)=none:=by
 simp_all[fM]
theorem Eb{x y:aO}{a b:List aO}(h:cg x.acc y.acc=false)(h2:cg y.acc x.acc=false)(h3:dL (x.af+y.af)=true)(h4:x.af+y.af=0):fM (x::a) (y::b)=fM a b:=by
 simp_all[fM]
theorem Ec{x y:aO}{a b:List aO}(h:cg x.acc y.acc=false)(h2:cg y.acc x.acc=false)(h3:dL (x.af+y.af)=true)(h4:¬x.af+y.af=0):fM (x::a) (y::b)=(fM a b).map (⟨x.acc,x.af+y.af⟩::·):=by
 simp_all[fM]
theorem I6{o:List aO}{x:aO}{m:Option (List aO)}:(m.map (x::·)).map (o++·)=m.map ((o++[x])++·):=by cases m<;>simp
theorem fx{α:Type}(enc:α->List Value)(xs ys:List α):ah enc (xs++ys)=ah enc xs++ah enc ys:=List.map_append
theorem xS{α:Type}{enc:α->List Value}{x:α}{xs:List α}:((ah enc (x::xs)).take (ah enc (x::xs)).length).drop 1=ah enc xs:=by rw[List.take_length];rfl
def z7(a b:List aO):AV->List (Nat×AO)->Prop:=fun x bd=>match fM a b with
 |some l=>x=.au [.own 50,aD true]/\bd=[(50,.ai 167 3 (ah ct l))]
 |none=>x=.au [.p (.v (.slice none 0 0)),aD false]/\bd=[]
theorem pp(a b c:Int):GC prog 92 [int a,int b,int c] [] (aD (aI a b c)) []:=by
 refine gi 6 func92 rfl ntmps92 rfl ?_;intro L O w0;refine sL<|ar Z<|nA<|ae Z<|ae Z<|ak Z<|aQ Z ?_;refine AL.bool (t:=10) rfl ?_ ?_
 ·intro V;refine ae Z<|ae Z<|ak Z<|bj Z<|bv Z<|Y<|aR ?_;refine az trivial ?_;grind[aI]
 intro V;refine aa Z<|aa Z<|aa Z<|bL Z<|ar Z<|Y<|aR ?_;refine az trivial ?_;grind[aI]
theorem HN(a b:Acc):GC prog 223 [.agg [int a.kind,int a.ch],.agg [int b.kind,int b.ch]] [] (aD (cg a b)) []:=by
 refine gi 4 func223 rfl ntmps223 rfl ?_;intro L O w0;refine sL<|ab (zX 2002 Z) Z<|ab (zX 2003 Z) Z<|ar Z<|nA<|lf 0 oW Z<|aj ac Z<|lf 0 oW Z<|aj ac Z<|ak Z<|aQ Z ?_;refine AL.bool (t:=10) rfl ?_ ?_
 ·intro V;refine aa Z<|aa Z<|aa Z<|aa Z<|aa Z<|aa Z<|aa Z<|aa Z<|aa Z<|aa Z<|aa Z<|aa Z<|aU Z<|cI Z<|Y<|aR ?_;refine az trivial ?_;grind[cg]
 intro V;refine lf 0 oW Z<|aj ac Z<|lf 0 oW Z<|aj ac Z<|ak Z<|aQ Z ?_;refine AL.bool (t:=16) rfl ?_ ?_
 ·intro h2;refine lf 1 rV Z<|aj ac Z<|lf 1 rV Z<|aj ac Z<|ak Z<|bj Z<|bj Z<|bv Z<|Y<|aR ?_;refine az trivial ?_;grind[cg]
 intro h2;refine aa Z<|aa Z<|aa Z<|aa Z<|aa Z<|bL Z<|bL Z<|ar Z<|Y<|aR ?_;refine az trivial ?_;grind[cg]
theorem x_9{p:Prop}(c:p:=by exact Nat.le_of_ble_eq_true rfl):p:=c
theorem x_10{p:Prop}(c:p:=by exact ⟨rfl,trivial⟩):p:=c
theorem x_13{p:Prop}(c:p:=by exact ⟨rfl,rfl,trivial⟩):p:=c
theorem x_18{p:Prop}(c:p:=by exact Src.own rfl rfl):p:=c
theorem x_32{p:Prop}(c:p:=by exact congrArg (AO.ai 167 3) (fx ct _ [_]).symm):p:=c
theorem x_56{p:Prop}(c:p:=by exact congrArg (fun r=>AV.p (.ab 167 3 r)) xS):p:=c
theorem x_62{p:Prop}(c:p:=by grind[ah]):p:=c
theorem x_75{p:Prop}(c:p:=by exact ⟨rfl,rfl,rfl,trivial⟩):p:=c
theorem x_83{p:Prop}(c:p:=by grind[i64]):p:=c
theorem Gc(a b:List aO)(hn:a.length+b.length<=1000000)(ha:∀z∈a,dL z.af=true)(hb:∀z∈b,dL z.af=true):GX prog 123 [.p (.ab 167 3 (ah ct a)),.p (.ab 167 3 (ah ct b))] [] (z7 a b):=by
 refine GX.intro (rs:=[.tmp 4,.tmp 5]) func123 rfl ntmps123 x_9 x_13 ?_;intro L O w0;refine sL<|e9 Z<|ar Z<|nA<|e9 Z<|Y<|aS<|aB ?_;refine AW.oP 50 6 167 3 rfl ?_;refine aW [4,5] [] (D:=List aO×List aO×List aO) (fun d=>[(0,.p (.ab 167 3 (ah ct d.1))),(1,.p (.ab 167 3 (ah ct d.2.1))),(6,.own 50)]) (fun d=>[(50,.ai 167 3 (ah ct d.2.2))]) (fun d=>(fM d.1 d.2.1).map (d.2.2++·)=fM a b/\d.2.2.length+d.1.length+d.2.1.length<=a.length+b.length/\(∀z∈d.1,dL z.af=true)/\∀z∈d.2.1,dL z.af=true) (fun d=>d.1.length+d.2.1.length) ((a,b,[])) (⟨by simp,by simp,ha,hb⟩) x_75 x_10 ?_;intro d hI;obtain⟨a',b',o⟩:=d;obtain⟨hI,hlen,sc,xT⟩:=hI;dsimp only at hI hlen sc xT ⊢;rcases a' with _|⟨x,a2⟩<;>rcases b' with _|⟨y,b2⟩
 ·skip;refine aS<|sL<|bm Z<|ba hZ Z<|ak Z<|bJ 10 false rfl (by first|(simp[ah];done)|(simp[ah];omega))<|dm Z<|bm Z<|ba hZ Z<|ak Z<|bJ 14 false rfl (by first|(simp[ah];done)|(simp[ah];omega))<|bL Z<|Y<|aN Z<|aE<|eT<|eT<|eB<|gA<|bW Z<|bD Z<|cI Z<|Y<|aR ?_;have hm:fM a b=some o:=by rw[<-hI,yo];simp
  refine fN (.au [.own 50,aD true]) [(50,.ai 167 3 (ah ct o))] ?_ rfl x_10;simp_all[z7]
 ·skip;refine aS<|sL<|bm Z<|ba hZ Z<|ak Z<|bJ 10 false rfl (by rfl)<|dm Z<|bm Z<|ba hZ Z<|ak Z<|bJ 14 true rfl x_62<|aU Z<|Y<|aY Z<|aK<|gT<|aB<|aB<|aS<|aG 19 []<|yq 0 (ng rfl)<|yq 1 (le hZ rfl)<|yq 2 (dt rfl)<|zl 46 false rfl (by rfl)<|yq 3 (rG rfl)<|yq 4 (ng rfl)<|yq 5 (le hZ rfl)<|yq 6 (dt rfl) ?_;refine zl 50 false rfl (by rfl)<|yq 7 (rG rfl)<|gX [0,1,4,5,6,47,51] [50] ?_;refine ep 8 Z<|ep 9 Z<|ep 10 Z<|ep 11 Z<|bt 12 Z<|bt 13 Z<|bt 14 Z<|bt 15 Z<|bt 16 Z<|yq 17 (kK rfl)<|yq 18 (kK rfl)<|yq 19 (oA rfl)<|gD<|gT<|aN Z<|aS<|aG 14 []<|yq 0 (ng rfl)<|yq 1 (le hZ rfl)<|yq 2 (dt rfl)<|zl 74 true rfl (by rfl)<|yq 3 (cF rfl)<|ep 4 Z<|ep 5 Z<|ep 6 Z<|ep 7 Z<|bt 8 Z<|bt 9 Z<|bt 10 Z<|bt 11 rfl ?_;refine bt 12 Z<|yq 13 (bA Z)<|yq 14 (Av Z)<|gD<|gT<|aY Z<|sL<|bW Z<|bm Z<|li 0 cV Z (Z)<|d6 (.agg [U _ _,U _ _,U _ _]) iV Z<|ab (zS 2090 (ah ct [y]) cV eP Z) Z<|lT [0,1,4,5,6,86,90] [50,2090] ?_;refine ab (zP 50 cV eP lE Z (Src.own Z Z)) Z<|bD Z<|Y<|aL<|bm Z ?_;refine lq (rd (x:=vL _ _ _) (p6 (l:=1) (h:=_) rfl cV rfl ⟨_,rfl⟩ rfl (by simp[ah]) (Nat.le_refl _)) rfl)<|nv Z<|lN<|gB<|gB<|gT ?_;refine⟨([],b2,o++[y]),⟨by grind[yo],by grind,sc,fun z hz=>xT z (List.mem_cons_of_mem _ hz)⟩,by simp,⟨rfl,x_56,rfl,trivial⟩,⟨x_32,trivial⟩,rfl,rfl⟩
 ·skip;refine aS<|sL<|bm Z<|ba hZ Z<|ak Z<|bJ 10 true rfl x_62<|bM Z<|aa Z<|aa Z<|aa Z<|aU Z<|Y<|aY Z<|aK<|gT<|aB<|aB<|aS<|aG 19 []<|yq 0 (ng rfl)<|yq 1 (le hZ rfl)<|yq 2 (dt rfl)<|zl 46 true rfl (by rfl)<|yq 3 (cF rfl)<|bt 4 Z<|bt 5 Z<|bt 6 Z<|bt 7 rfl ?_;refine ep 8 Z<|ep 9 Z<|ep 10 Z<|ep 11 Z<|bt 12 Z<|bt 13 Z<|bt 14 Z<|bt 15 Z<|bt 16 Z<|bt 17 Z<|yq 18 (bA Z)<|yq 19 (Av Z)<|gD<|gT<|aY Z<|sL<|bW Z<|bm Z<|li 0 cV Z (Z)<|d6 (.agg [U _ _,U _ _,U _ _]) iV Z<|ab (zS 2067 (ah ct [x]) cV eP Z) Z<|lT [0,1,4,5,6,63,67] [50,2067] ?_;refine ab (zP 50 cV eP lE Z (Src.own Z Z)) Z<|bD Z<|Y<|aL<|bm Z ?_;refine lq (rd (x:=vL _ _ _) (p6 (l:=1) (h:=_) rfl cV rfl ⟨_,rfl⟩ rfl (by simp[ah]) (Nat.le_refl _)) rfl)<|nv Z<|lN<|gB<|gB<|gT ?_;refine⟨(a2,[],o++[x]),⟨by grind[z6],by grind,fun z hz=>sc z (List.mem_cons_of_mem _ hz),xT⟩,by simp,⟨x_56,rfl,rfl,trivial⟩,⟨x_32,trivial⟩,rfl,rfl⟩
 skip;refine aS<|sL<|bm Z<|ba hZ Z<|ak Z<|bJ 10 true rfl x_62<|bM Z<|aa Z<|aa Z<|aa Z<|aU Z<|Y<|aY Z<|aK<|gT<|aB<|aB<|aS<|aG 19 []<|yq 0 (ng rfl)<|yq 1 (le hZ rfl)<|yq 2 (dt rfl)<|zl 46 false rfl (by rfl)<|yq 3 (rG rfl)<|yq 4 (ng rfl)<|yq 5 (le hZ rfl)<|yq 6 (dt rfl)<|zl 50 true rfl x_62 ?_;refine yq 7 (cF Z)<|tq 8 (ng Z)<|tq 9 (ri 0 cV Z (Z))<|tq 10 (rd (x:=.rp _) (nM jf Z) Z)<|tq 11 (gm (.agg [U _ _,U _ _]) i0 Z)<|yq 12 (ng Z)<|yq 13 (ri 0 cV Z (Z))<|yq 14 (rd (x:=.rp _) (nM jf Z) Z)<|yq 15 (gm (.agg [U _ _,U _ _]) i0 Z)<|cm 16 Z (zL func223 (HN _ _) Z)<|gX [0,1,4,5,6,47,51,60] [50] ?_;refine yq 17 (cv Z)<|yq 18 (cv Z)<|yq 19 (fk Z)<|gD<|gT ?_;refine AW.cond rfl ?_ ?_
 ·intro V;refine sL<|bW Z<|bm Z<|li 0 cV Z (Z)<|d6 (.agg [U _ _,U _ _,U _ _]) iV Z<|ab (zS 2067 (ah ct [x]) cV eP Z) Z<|ab (zP 50 cV eP lE Z (Src.own Z Z)) Z<|bD Z<|Y<|aL<|bm Z ?_;refine lq (rd (x:=vL _ _ _) (p6 (l:=1) (h:=_) rfl cV rfl ⟨_,rfl⟩ rfl (by simp[ah]) (Nat.le_refl _)) rfl)<|nv Z<|lN<|gB<|gB<|gT ?_;refine⟨(a2,y::b2,o++[x]),⟨by grind[BI,I6],by grind,fun z hz=>sc z (List.mem_cons_of_mem _ hz),xT⟩,by simp,⟨x_56,rfl,rfl,trivial⟩,⟨x_32,trivial⟩,rfl,rfl⟩
 intro V;refine aS<|aG 14 []<|yq 0 (ng rfl)<|yq 1 (le hZ rfl)<|yq 2 (dt rfl)<|zl 74 false rfl (by rfl)<|yq 3 (rG rfl)<|tq 4 (ng rfl)<|tq 5 (ri 0 cV rfl (rfl))<|tq 6 (rd (x:=.rp _) (nM jf rfl) rfl)<|tq 7 (gm (.agg [U _ _,U _ _]) i0 rfl)<|yq 8 (ng rfl)<|yq 9 (ri 0 cV rfl (rfl))<|yq 10 (rd (x:=.rp _) (nM jf rfl) rfl)<|yq 11 (gm (.agg [U _ _,U _ _]) i0 rfl)<|cm 12 rfl (zL func223 (HN _ _) rfl)<|gX [0,1,4,5,6,75,84] [50] ?_;refine yq 13 (cv Z)<|yq 14 (fk Z)<|gD<|gT ?_;refine AW.cond rfl ?_ ?_
 ·intro h2;refine sL<|bW Z<|bm Z<|li 0 cV Z (Z)<|d6 (.agg [U _ _,U _ _,U _ _]) iV Z<|ab (zS 2090 (ah ct [y]) cV eP Z) Z<|ab (zP 50 cV eP lE Z (Src.own Z Z)) Z<|bD Z<|Y<|aL<|bm Z ?_;refine lq (rd (x:=vL _ _ _) (p6 (l:=1) (h:=_) rfl cV rfl ⟨_,rfl⟩ rfl (by simp[ah]) (Nat.le_refl _)) rfl)<|nv Z<|lN<|gB<|gB<|gT ?_;refine⟨(x::a2,b2,o++[y]),⟨by grind[BJ,I6],by grind,sc,fun z hz=>xT z (List.mem_cons_of_mem _ hz)⟩,by simp,⟨rfl,x_56,rfl,trivial⟩,⟨x_32,trivial⟩,rfl,rfl⟩
 intro h2;refine aS<|aG 9 []<|tq 0 (ng Z)<|tq 1 (ri 0 cV Z (Z))<|tq 2 (rd (x:=.rp _) (nM ni Z) Z)<|tq 3 (qU ac Z)<|yq 4 (ng Z)<|yq 5 (ri 0 cV Z (Z))<|yq 6 (rd (x:=.rp _) (nM ni Z) Z)<|yq 7 (qU ac Z) ?_;have q1:=cJ.1 (sc x (by simp));have q2:=cJ.1 (xT y (by simp));refine yq 8 (qV rfl x_83)<|yq 9 (j8 rfl)<|gD<|gT<|aS<|sL<|ae Z<|ab (zL func92 (pp _ _ _) rfl) Z<|lT [0,1,4,5,6,7,26] [50] ?_;refine bX Z<|Y ?_;refine AW.cond rfl ?_ ?_
 ·intro h3;refine sL<|e9 Z<|ar Z<|Y<|aR<|rT<|rB<|rB<|rT<|rB<|rT ?_;have hm:fM a b=none:=by rw[<-hI,MR V h2 (by simpa[dL]using h3)];rfl
  refine fN (.au [.p (.v (.slice none 0 0)),aD false]) [] ?_ rfl trivial;simp_all[z7]
 intro h3;refine aK<|gT<|aS<|sL<|ae Z<|ak Z<|Y ?_;refine AW.cond rfl ?_ ?_
 ·intro h4;refine aL<|bW Z<|bm Z<|li 0 cV Z (Z)<|lq (rd (x:=.rp _) (nM jf Z) Z)<|d6 (.agg [U _ _,U _ _]) i0 Z<|ae Z<|lq (rd (x:=.agg [U _ _,U _ _,U _ _]) (cP Z DK Z Z Z) Z) ?_;refine ab (zS 2037 (ah ct [⟨x.acc,x.af+y.af⟩]) cV eP rfl) Z<|ab (zP 50 cV eP lE rfl x_18) Z<|lT [0,1,4,5,38] [50,2037] ?_;refine bD Z<|Y<|aG 5 []<|tq 0 (ng Z) ?_;refine tq 1 (rd (x:=vL _ _ _) (p6 (l:=1) (h:=_) rfl cV rfl ⟨_,rfl⟩ rfl (by simp[ah]) (Nat.le_refl _)) rfl)<|tq 2 (ng rfl) ?_;refine tq 3 (rd (x:=vL _ _ _) (p6 (l:=1) (h:=_) rfl cV rfl ⟨_,rfl⟩ rfl (by simp[ah]) (Nat.le_refl _)) rfl)<|yq 4 (Cx rfl)<|yq 5 (Cx rfl)<|gD<|gB<|gB<|gT ?_;refine⟨(a2,b2,o++[⟨x.acc,x.af+y.af⟩]),⟨by grind[Ec,dL,I6],by grind,fun z hz=>sc z (List.mem_cons_of_mem _ hz),fun z hz=>xT z (List.mem_cons_of_mem _ hz)⟩,by grind,⟨x_56,x_56,rfl,trivial⟩,⟨x_32,trivial⟩,rfl,rfl⟩
 intro h4;refine aK<|gT<|aG 5 []<|tq 0 (ng Z) ?_;refine tq 1 (rd (x:=vL _ _ _) (p6 (l:=1) (h:=_) rfl cV rfl ⟨_,rfl⟩ rfl (by simp[ah]) (Nat.le_refl _)) rfl)<|tq 2 (ng rfl) ?_;refine tq 3 (rd (x:=vL _ _ _) (p6 (l:=1) (h:=_) rfl cV rfl ⟨_,rfl⟩ rfl (by simp[ah]) (Nat.le_refl _)) rfl)<|yq 4 (Cx rfl)<|yq 5 (Cx rfl)<|gD<|gB<|gB<|gT ?_;refine⟨(a2,b2,o),⟨by grind[Eb,dL],by grind,fun z hz=>sc z (List.mem_cons_of_mem _ hz),fun z hz=>xT z (List.mem_cons_of_mem _ hz)⟩,by grind,⟨x_56,x_56,rfl,trivial⟩,x_10,rfl,rfl⟩
end Go.Proofs.YtflhgkmhmcfimaaGreat

