/- FnExactHubSync is proved: the given statement holds with no condition. Texts joined: E36, EW1, EW2, EW3, EW4, EW5, EW6, EW7, EW8, LdRV, HubRV, LFnExactHubSync, CFnExactHubSync. -/
import Derived.Test.YtflhgkmhmcfimaaGreatJHubSync5
import Derived.Test.YtflhgkmhmcfimaaGreatJHubSync20
import Derived.Test.YtflhgkmhmcfimaaGreatJHubSync10
import Derived.Test.YtflhgkmhmcfimaaGreatJHubSync13
import Derived.Test.YtflhgkmhmcfimaaGreatJHubSync14
import Derived.Test.YtflhgkmhmcfimaaGreatJHubSync9
import Derived.Test.YtflhgkmhmcfimaaGreatRows
import Derived.Test.YtflhgkmhmcfimaaGreatKOpn
namespace Go.Proofs.YtflhgkmhmcfimaaGreat
set_option maxRecDepth 100000
open Go.RowKit
set_option linter.unusedSimpArgs false
set_option linter.unusedVariables false
def abO(H K:Nat->AO):Nat->AO:=fun i=>if (K i).here=true then .gone else H i
structure ab3(H K:Nat->AO):Prop where
 ai:∀i,H i=.gone\/∃e sz rows,H i=.ai e sz rows
 sub:∀i,K i=.gone\/K i=H i
section
variable {L:Nat->Prop}{ρ:Nat->Value}{H K:Nat->AO}{w:World}
theorem ab3.lv(h:ab3 H K){b:Nat}(q:live L ρ K b):live L ρ H b:=by
 rcases q with q|⟨i,q1,q2⟩
 ·exact .inl q
 rcases h.sub i with e|e
 ·rw[e]at q1;cases q1
 rw[e]at q1;exact .inr ⟨i,q1,q2⟩
theorem ab3.drop(h:ab3 H K){b:Nat}(q:live (live L ρ K) ρ (abO H K) b):live L ρ H b:=by
 rcases q with q|⟨i,q1,q2⟩
 ·exact h.lv q
 unfold abO at q1;split at q1
 ·cases q1
 exact .inr ⟨i,q1,q2⟩
theorem ab3.lie(h:ab3 H K){fp:Nat->List Nat}(V:∀i,OB L ρ H w (ρ i) (fp i) (H i))(h2:∀i j,i≠j->∀b∈fp i,b ∉ fp j)(h3:∀i,∀b∈fp i,¬L b):vk (live L ρ K) ρ (abO H K) w (fun b=>¬live L ρ K b):=by
 refine⟨fun id=>?_,fun b hb q=>hb (.inl q)⟩;by_cases hk:(K id).here=true
 ·exact⟨[],by unfold abO;rw[if_pos hk];rfl,fun b hb=>by cases hb⟩
 refine⟨fp id,?_,fun b hb q=>?_⟩
 ·have e:abO H K id=H id:=if_neg hk;have ho:=V id;rw[e];rcases h.ai id with q|⟨e',sz,rows,q⟩
  ·rw[q]at ho ⊢;exact ho
  rw[q]at ho ⊢;obtain⟨xs,fr,b1,b2,b3,b4,b5⟩:=ho;exact⟨xs,fr,b1,fun b hb z=>b2 b hb (h.drop z),b3,b4,b5⟩
 rcases q with q|⟨j,q1,q2⟩
 ·exact h3 id b hb q
 have ne:id≠j:=fun z=>hk (z▸q1);rcases h.sub j with z|z
 ·rw[z]at q1;cases q1
 have ho:=V j;rcases h.ai j with y|⟨e',sz,rows,y⟩
 ·rw[z,y]at q1;cases q1
 rw[y]at ho;obtain⟨_,_,_,_,_,b4,_⟩:=ho;exact h2 id j ne b hb (by rw[b4,q2];simp)
end
structure abG(H K:Nat->AO)(x y:AV):Prop where
 to:∀ {L:Nat->Prop} {ρ:Nat->Value} {w:World} {c:Value},vk (live L ρ K) ρ (abO H K) w (fun b=>¬live L ρ K b)->(∀b,¬live L ρ H b->¬live L ρ K b)->RV L ρ H w x c->RV L ρ K w y c
section
variable {H K:Nat->AO}
theorem abG.p(x:PV):abG H K (.p x) (.p x):=.mk fun hl hn h=>by
 rw[RV]at *;obtain⟨fp,V,h2⟩:=h;exact⟨fp,V,fun b hb=>hn b (h2 b hb)⟩
theorem abG.own{id:Nat}(h:K id=H id):abG H K (.own id) (.own id):=.mk fun hl hn hx=>by
 rw[RV]at *;rw[h];exact hx
theorem adb{id:Nat}{y:PV}(h:(K id).here=false)(hs:Still (abO H K) (.own id) (.p y)):abG H K (.own id) (.p y):=.mk fun{L ρ w c} hl hn hx=>by
 have e:abO H K id=H id:=if_neg (by rw[h];simp);have V:RV (live L ρ K) ρ (abO H K) w (.own id) c:=by rw[RV]at *;rw[e];exact hx
 have h2:=hs.to hl V;rw[RV]at *;obtain⟨fp,k1,k2⟩:=h2;exact⟨fp,k1,fun b hb q=>k2 b hb (.inl q)⟩
theorem bf.vA{L:Nat->Prop}{ρ:Nat->Value}{w:World}(hl:vk (live L ρ K) ρ (abO H K) w (fun b=>¬live L ρ K b))(hn:∀b,¬live L ρ H b->¬live L ρ K b):∀ {l m:List AV} {cs:List Value},kf (abG H K) l m->bf L ρ H w l cs->bf L ρ K w m cs
 |_,_,cs,.nil,h=>by rw[bf]at *;exact h
 |_,_,cs,.cons V h2,h=>by
  rw[bf]at *;obtain⟨c,r,rfl,k1,k2⟩:=h;exact⟨c,r,rfl,V.to hl hn k1,bf.vA hl hn h2 k2⟩
theorem abG.agg{l m:List AV}(h:kf (abG H K) l m):abG H K (.agg l) (.agg m):=.mk fun hl hn hx=>by
 rw[RV]at *;obtain⟨cs,rfl,V⟩:=hx;exact⟨cs,rfl,bf.vA hl hn h V⟩
theorem abG.au{l m:List AV}(h:kf (abG H K) l m):abG H K (.au l) (.au m):=.mk fun hl hn hx=>by
 rw[RV]at *;obtain⟨cs,rfl,V⟩:=hx;exact⟨cs,rfl,bf.vA hl hn h V⟩
end
theorem GX.vA{P:Program}{f:FuncId}{args:List AV}{R Z:AV->List (Nat×AO)->Prop}(h:GX P f args [] R)(hR:∀x bd,R x bd->∃y ob2,abG (bx bd) (bx ob2) x y/\ab3 (bx bd) (bx ob2)/\Z y ob2):GX P f args [] Z:=fun L w cs ρ fp V h2 h3 h4 h5=>
 Calls.mono (h L w cs ρ fp V h2 h3 h4 h5) fun e w' ⟨x,bd,q,v,ci,bH,q1,q2,q3,q4,q5,q6⟩=>by
  obtain⟨y,ob2,hy,hs,hz⟩:=hR x bd q;have hn:∀b,¬live L ci (bx bd) b->¬live L ci (bx ob2) b:=fun b k z=>k (hs.lv z);refine⟨y,ob2,hz,v,ci,fun i=>if (bx ob2 i).here=true then bH i else [],q1,q2,hy.to (hs.lie q4 q5 (fun i b hb=>(q6 i b hb).2)) hn q3,fun i=>?_,fun i j ne b hb=>?_,fun i b hb=>?_⟩
  ·by_cases hk:(bx ob2 i).here=true
   ·simp only[hk,if_true];rcases hs.sub i with z|z
    ·rw[z]at hk;cases hk
    rw[z];have ho:=q4 i;rcases hs.ai i with y|⟨e',sz,rows,y⟩
    ·rw[y]at ho ⊢;exact ho
    rw[y]at ho ⊢;obtain⟨xs,fr,b1,b2,b3⟩:=ho;exact⟨xs,fr,b1,fun b hb=>hn b (b2 b hb),b3⟩
   simp only[hk,if_false];rcases hs.sub i with z|z
   ·rw[z];rfl
   rcases hs.ai i with y|⟨e',sz,rows,y⟩
   ·rw[z,y];rfl
   rw[z,y]at hk;exact absurd rfl hk
  ·intro kA;dsimp only at hb kA;split at hb
   ·split at kA
    ·exact q5 i j ne b hb kA
    cases kA
   cases hb
  dsimp only at hb;split at hb
  ·exact q6 i b hb
  cases hb

set_option maxHeartbeats 16000000
set_option maxRecDepth 100000
theorem adZ(l:cH)(hl:l.lines.length<=1000):GC Tryz.prog 57 [cR l] [] (.agg [int l.last,.own 51]) [(51,dc l.lines)]:=by
 refine GC.intro (rs:=[.cell 2 53 (some 2)]) Tryz.func57 rfl Tryz.ntmps57 x_7 ⟨rfl,rfl,eZ,trivial⟩ ?_;intro L O w0;refine sL<|ab (zX 2001 Z) Z<|ab (zA 2002 ld Z) Z<|Y<|aS<|aG 6 [51]<|tq 0 (rf 0 pW Z)<|tq 1 (aZ ac Z)<|yq 2 (rf 1 jY Z)<|yq 3 (jj gY Z)<|cm 4 Z (zC [(51,51)] [51] [] Tryz.func140 (SQ l.lines hl) (trivial) Z Z)<|yq 5 (rd (x:=.agg [U _ _,.own _]) (cP Z lP Z Z Z) Z)<|yl Z (zB 2002 cA cB Z)<|gT<|aR ?_;refine ax ?_ x_10;rfl

theorem Tl.eh:∀ {k:List Nat} {b:List AO},(k.all fun i=>Nat.blt i 1000000)=true->Tl (eh .gone k b) []:=fun{k b} h=>⟨fun i=>by
 induction k generalizing b with
 |nil=>rfl
 |cons a k ih=>
  rw[List.all_cons,Bool.and_eq_true]at h;have ha:a<1000000:=Nat.le_of_ble_eq_true h.1;cases b with
  |nil=>rfl
  |cons o b=>
   show (if 1000000+i=a then o else Go.Proofs.YtflhgkmhmcfimaaGreat.eh .gone k b (1000000+i))=.gone;rw[if_neg (by omega)];exact ih h.2,dS.nil⟩
abbrev acj:mm:=⟨⟨⟨[],[]⟩,0,0⟩,⟨0,0,0,[],[],[]⟩,⟨0,[]⟩,[],[]⟩
abbrev ack(h:mm):AV:=.agg [.own 1,.own 2,int h.log.next,int h.log.dP,int h.book.tick,int h.book.next,int h.book.aA,.own 3,.own 4,.own 5,int h.ia.last,.own 6,.own 7,.own 8]
abbrev obH(vs us:List Value)(h:mm):List (Nat×AO):=[(1,.ai 195 1 (oR vs)),(2,.ai 192 2 (lW us h.log.bT.bu)),(3,.ai 159 7 (ah aX h.book.ag)),(4,.ai 218 7 (ah go h.book.an)),(5,.ai 220 5 (ah iX h.book.aq)),(6,.ai 167 3 (ah ct h.ia.lines)),(7,.ai 81 7 (ah fR h.wait)),(8,.ai 81 7 (ah fR h.f9))]

abbrev y5:AV:=.p (.v (.slice none 0 0))

def mkB(x:aw)(k:Int):aw:={ x with ag:=acl k x.ag.length,an:=acm (k+7*(x.ag.length:Int)) x.an.length,aq:=acn (k+7*(x.ag.length:Int)+7*(x.an.length:Int)) x.aq.length }
def mkL(x:cH)(k:Int):cH:={ x with lines:=aco k x.lines.length }
def abH(x:aw):Int:=7*(x.ag.length:Int)+7*(x.an.length:Int)+5*(x.aq.length:Int)
def abK(x:cH):Int:=3*(x.lines.length:Int)
def abI(l:List aV):Int:=7*(l.length:Int)
def mkH(h:mm)(k:Int):mm:=⟨⟨f6 h.log.bT k,h.log.next,h.log.dP⟩,mkB h.book (k+abD h.log.bT),mkL h.ia (k+abD h.log.bT+abH h.book),ab' (k+abD h.log.bT+abH h.book+abK h.ia) h.wait.length,ab' (k+abD h.log.bT+abH h.book+abK h.ia+abI h.wait) h.f9.length⟩
def abX(h:mm):Int:=abD h.log.bT+abH h.book+abK h.ia+abI h.wait+abI h.f9
abbrev adL(u3 u4 u5:Value)(x:aw):List (Nat×AO):=[(3,.ai ⟨159,some u3⟩ 7 (ah aX x.ag)),(4,.ai ⟨218,some u4⟩ 7 (ah go x.an)),(5,.ai ⟨220,some u5⟩ 5 (ah iX x.aq))]
abbrev adM(u:Value)(x:cH):List (Nat×AO):=[(6,.ai ⟨167,some u⟩ 3 (ah ct x.lines))]
abbrev ac6(u:List Value)(vs us:List Value)(h:mm):List (Nat×AO):=[(1,.ai ⟨195,some (u.getD 0 undef)⟩ 1 (oR vs)),(2,.ai ⟨192,some (u.getD 1 undef)⟩ 2 (lW us h.log.bT.bu)),(3,.ai ⟨159,some (u.getD 2 undef)⟩ 7 (ah aX h.book.ag)),(4,.ai ⟨218,some (u.getD 3 undef)⟩ 7 (ah go h.book.an)),(5,.ai ⟨220,some (u.getD 4 undef)⟩ 5 (ah iX h.book.aq)),(6,.ai ⟨167,some (u.getD 5 undef)⟩ 3 (ah ct h.ia.lines)),(7,.ai ⟨81,some (u.getD 6 undef)⟩ 7 (ah fR h.wait)),(8,.ai ⟨81,some (u.getD 7 undef)⟩ 7 (ah fR h.f9))]
theorem afd(u3 u4 u5:Value)(x:aw)(k:Int)(hc:x.ag.length<=1048576)(hh:x.an.length<=1048576)(hi:x.aq.length<=1048576)(hk:0<=k/\k<=100000000000):GC Tryz.prog 64 [.agg [int x.tick,int x.next,int x.aA,.own 3,.own 4,.own 5],int k] (adL u3 u4 u5 x) (int (k+abH x)) (adL u3 u4 u5 (mkB x k)):=by
 refine gi 4 Tryz.func64 rfl Tryz.ntmps64 rfl ?_;intro L O w0;refine sL<|ab (zX 2002 Z) Z<|ao Z<|nA<|lf 3 dr Z<|iO eg Z<|ae Z ?_;refine ab (zC [(0,3)] [] [0] Tryz.func146 (afe _ _ _ (by omega) (by omega)) x_57 rfl rfl) Z<|ao Z<|nA<|lf 4 eF Z<|iO fS Z<|ae rfl ?_;refine ab (zC [(0,4)] [] [0] Tryz.func147 (aff _ _ _ (by omega) (by omega)) x_57 rfl rfl) Z<|ao Z<|nA<|lf 5 gn Z<|iO ii Z<|ae rfl ?_;refine ab (zC [(0,5)] [] [0] Tryz.func148 (afg _ _ _ (by omega) (by omega)) x_57 rfl rfl) Z<|lT [1,4,16] [3,4,5,2002] ?_;refine ao Z<|nA<|ae Z<|ao Z<|Y<|aR ?_;skip;refine ax ?_ x_53;exact congrArg (fun n=>some (int n)) (by unfold abH;omega)
theorem afh(x:aw)(k:Int)(hc:x.ag.length<=1048576)(hh:x.an.length<=1048576)(hi:x.aq.length<=1048576)(hk:0<=k/\k<=100000000000):GC Tryz.prog 68 [cj (mkB x k),int k] [] (int (k+abH x)) []:=by
 refine gi 4 Tryz.func68 rfl Tryz.ntmps68 rfl ?_;intro L O w0;refine sL<|ab (zX 2002 rfl) Z<|ao Z<|nA<|lf 3 dr Z<|bo eg Z<|ae Z<|ab (zL Tryz.func150 (afi _ _ (by omega) (by omega)) rfl) Z<|ao Z<|Y<|aS<|sL<|ae Z<|ak Z<|bJ 10 false rfl x_47<|Y<|aN Z<|aK<|gA<|lf 4 eF Z<|bo fS rfl ?_;refine ae Z<|ab (zL Tryz.func151 (afj _ _ (by omega) (by omega)) rfl) Z<|ao Z<|Y<|aS<|sL<|ae Z<|ak Z<|bJ 16 false rfl x_47<|Y<|aN Z<|aK<|gA<|lf 5 gn Z<|bo ii Z<|ae Z<|ab (zL Tryz.func152 (afk _ _ (by omega) (by omega)) rfl) Z<|lT [1,4,20] [2002] ?_;refine ao Z<|Y<|aS<|sL<|ae Z<|ak Z<|bJ 22 false rfl x_47<|Y<|aN Z<|aK<|gA<|ae Z<|ao Z<|Y<|aR ?_;skip;refine ax ?_ trivial;exact congrArg (fun n=>some (int n)) (by unfold abH;omega)
theorem afl(u:Value)(x:cH)(k:Int)(hl:x.lines.length<=1048576)(hk:0<=k/\k<=100000000000):GC Tryz.prog 65 [.agg [int x.last,.own 6],int k] (adM u x) (int (k+abK x)) (adM u (mkL x k)):=by
 refine gi 4 Tryz.func65 rfl Tryz.ntmps65 rfl ?_;intro L O w0;refine sL<|ab (zX 2002 Z) Z<|ao Z<|nA<|lf 1 jY Z<|iO gY Z<|ae Z ?_;refine ab (zC [(0,6)] [] [0] Tryz.func149 (afm _ _ _ (by omega) (by omega)) x_57 rfl rfl) Z<|ao Z<|nA<|ae Z<|ao Z<|Y<|aR ?_;skip;refine ax ?_ x_10;exact congrArg (fun n=>some (int n)) (by unfold abK;omega)
theorem afn(x:cH)(k:Int)(hl:x.lines.length<=1048576)(hk:0<=k/\k<=100000000000):GC Tryz.prog 69 [cR (mkL x k),int k] [] (int (k+abK x)) []:=by
 refine gi 4 Tryz.func69 rfl Tryz.ntmps69 rfl ?_;intro L O w0;refine sL<|ab (zX 2002 rfl) Z<|ao Z<|nA<|lf 1 jY Z<|bo gY Z<|ae Z<|ab (zL Tryz.func153 (afo _ _ (by omega) (by omega)) rfl) Z<|ao Z<|Y<|aS<|sL<|ae Z<|ak Z<|bJ 10 false rfl x_47<|Y<|aN Z<|aK<|gA<|ae Z<|ao rfl ?_;refine Y<|aR ?_;skip;refine ax ?_ trivial;exact congrArg (fun n=>some (int n)) (by unfold abK;omega)
theorem adN(h:mm)(k:Int)(hz:E9 h)(hk:0<=k/\k<=1000000000):GC Tryz.prog 17 [Bu (mkH h k),int k] [] (int (k+abX h)) []:=by
 refine gi 4 Tryz.func17 rfl Tryz.ntmps17 rfl ?_;intro L O w0;refine sL<|ab (zX 2002 Z) Z<|ao Z<|Y<|aS ?_;have hd0:=acs hz.d.m;obtain⟨hd1,hd2⟩:=hd0;have lG:0<=abH h.book/\abH h.book<=20000000:=by unfold abH;have:=hz.lc;have:=hz.lh;have:=hz.li;omega
 have kA:0<=abK h.ia/\abK h.ia<=20000000:=by unfold abK;have:=hz.ll;omega
 have hb3:0<=abI h.wait/\abI h.wait<=20000000:=by unfold abI;have:=hz.lw;omega
 have hb4:0<=abI h.f9/\abI h.f9<=20000000:=by unfold abI;have:=hz.ls;omega
 refine aL<|lf 0 qL Z<|aP (.agg [vL _ _ _,vL _ _ _,U _ _,U _ _]) EY Z<|ae Z<|ab (zL Tryz.func67 (ad9 h.log k hz.d.m (by omega)) rfl) Z<|ao Z<|Y<|aS<|sL<|ae Z<|ak Z<|bJ 10 false rfl x_47<|Y<|aN Z<|aK<|gA<|lf 4 Bw Z<|aP (.agg [U _ _,U _ _,U _ _,vL _ _ _,vL _ _ _,vL _ _ _]) cu Z<|ae Z<|ab (zL Tryz.func68 (afh h.book (k+abD h.log.bT) hz.lc hz.lh hz.li (by omega)) rfl) Z<|ao Z<|Y<|aS<|aS ?_;refine aL<|ae Z<|ak Z<|bJ 16 false rfl x_47<|Y<|aN Z<|aK<|gA<|lf 10 Bx Z<|aP (.agg [U _ _,vL _ _ _]) eZ Z<|ae Z<|ab (zL Tryz.func69 (afn h.ia (k+abD h.log.bT+abH h.book) hz.ll (by omega)) rfl) Z<|lT [1,2,4,20] [2002] ?_;refine ao Z<|Y<|aS<|sL<|ae Z<|ak Z<|bJ 22 false rfl x_47<|Y<|aN Z<|aK<|gA<|lf 12 Bz Z<|bo tE Z<|ae Z<|ab (zL Tryz.func70 (adO h.wait.length (k+abD h.log.bT+abH h.book+abK h.ia) (by have:=hz.lw;omega) (by omega)) rfl) Z<|ao Z<|Y<|aS<|sL<|ae Z<|ak Z<|bJ 28 false rfl x_47<|lN ?_;refine gT<|aN Z<|aK<|gA<|lf 13 By Z<|bo tE Z<|ae Z<|ab (zL Tryz.func70 (adO h.f9.length (k+abD h.log.bT+abH h.book+abK h.ia+abI h.wait) (by have:=hz.ls;omega) (by omega)) rfl) Z<|lT [1,4,32] [2002] ?_;refine ao Z<|Y<|aS<|sL<|ae Z<|ak Z<|bJ 34 false rfl x_47<|Y<|aN Z<|aK<|gA<|ae Z<|ao Z<|Y<|aR ?_;skip;refine ax ?_ trivial;exact congrArg (fun n=>some (int n)) (by unfold abX abI;omega)
theorem afp(u:List Value)(vs us:List Value)(h:mm)(R:List AO)(k:Int)(hv:vs.length=h.log.bT.cells.length)(hu:us.length=h.log.bT.bu.length)(hR:dS R)(hRl:R.length<=3000000)(hz:E9 h)(hk:0<=k/\k<=1000000000):GN Tryz.prog 16 [ack h,int k] (ac6 u vs us h) (sY vs us h.log.bT++R) (fun y l1 F1=>y=int (k+abX h)/\l1=ac6 u vs us (mkH h k)/\F1=sY vs us (f6 h.log.bT k)++R):=by
 have acB:dS (sY vs us h.log.bT++R):=dS.gJ TJ hR;refine GN.intro (rs:=[.tmp 4]) Tryz.func16 rfl Tryz.ntmps16 x_7 x_10 rfl ?_;intro L O w0;refine sL<|ab (zX 2002 Z) Z<|ao Z<|Y<|aS ?_;have hd0:=acs hz.d.m;obtain⟨hd1,hd2⟩:=hd0;have lG:0<=abH h.book/\abH h.book<=20000000:=by unfold abH;have:=hz.lc;have:=hz.lh;have:=hz.li;omega
 have kA:0<=abK h.ia/\abK h.ia<=20000000:=by unfold abK;have:=hz.ll;omega
 have hb3:0<=abI h.wait/\abI h.wait<=20000000:=by unfold abI;have:=hz.lw;omega
 have hb4:0<=abI h.f9/\abI h.f9<=20000000:=by unfold abI;have:=hz.ls;omega
 have hDl:=SD hv hu;have oF:=hz.d.lc;have hlw:=hz.d.lw;refine aL<|lf 0 qL Z<|aP (.agg [.own _,.own _,U _ _,U _ _]) EY Z<|ae Z ?_;refine A1 (A2 (F:=sY vs us h.log.bT++R) [(1,1),(2,2)] [] [1,2] 0 Tryz.func63 (aee (u.getD 0 undef) (u.getD 1 undef) vs us h.log.bT R k hv hu hR hRl hz.d (by omega) h.log.next h.log.dP) ki List.drop_zero List.take_zero (Nat.zero_le _) ((by rw[List.length_append,hDl];omega)) ((fun y l F ⟨_,e2,_⟩=>by subst e2;exact⟨stays.ai rfl,stays.ai (by show (lW us (c7 E6 m3 h.log.bT.bu _)).length=_;rw[K9 (by rw[k7];exact hu),k7,K9 hu]),trivial⟩)) rfl rfl) rfl ?_;rintro _ _ ⟨xz1,oz1,Fz1,fa,hF1,hM1,rfl,rfl⟩;obtain⟨rfl,rfl,rfl⟩:=fa;have E7:dS ([]++(sY vs us (f6 h.log.bT k)++R)):=dS.gJ x_26 hF1;refine ao Z<|Y<|aS ?_;rw[List.nil_append];have hrE:dS (sY vs us (f6 h.log.bT k)++R):=dS.gJ TJ hR;refine aL<|lf 4 Bw Z<|aP (.agg [U _ _,U _ _,U _ _,.own _,.own _,.own _]) cu Z<|ae Z ?_;refine ab (zC [(3,3),(4,4),(5,5)] [] [3,4,5] Tryz.func64 (afd (u.getD 2 undef) (u.getD 3 undef) (u.getD 4 undef) h.book (k+abD h.log.bT) hz.lc hz.lh hz.li (by omega)) (⟨stays.ai (by simp[ah,mkB,c6]),stays.ai (by simp[ah,mkB,c6]),stays.ai (by simp[ah,mkB,c6]),trivial⟩) rfl rfl) Z<|ao Z<|nA<|lf 10 Bx Z<|aP (.agg [U _ _,.own _]) eZ Z<|ae rfl ?_;refine ab (zC [(6,6)] [] [6] Tryz.func65 (afl (u.getD 5 undef) h.ia (k+abD h.log.bT+abH h.book) hz.ll (by omega)) (⟨stays.ai (by simp[ah,mkL,c6]),trivial⟩) rfl rfl) rfl ?_;refine xH ((sY vs us (f6 h.log.bT k)++R)) [1,2,4,16] [1,2,3,4,5,6,7,8,2002] ?_;refine ao Z<|nA<|lf 12 Bz Z<|iO tE Z<|ae Z ?_;refine ab (zC [(0,7)] [] [0] Tryz.func66 (adP (u.getD 6 undef) h.wait (k+abD h.log.bT+abH h.book+abK h.ia) (by have:=hz.lw;omega) (by omega)) x_57 rfl rfl) Z<|ao Z<|nA<|lf 13 By Z<|iO tE Z<|ae rfl ?_;refine ab (zC [(0,8)] [] [0] Tryz.func66 (adP (u.getD 7 undef) h.f9 (k+abD h.log.bT+abH h.book+abK h.ia+abI h.wait) (by have:=hz.ls;omega) (by omega)) x_57 rfl rfl) Z<|ao Z<|nA<|ae Z<|jK 25 (k+abX h) rfl (by unfold abX abI;omega)<|ao Z<|Y<|aR ?_;skip;refine vW (F1:=(sY vs us (f6 h.log.bT k)++R)) (int (k+abX h)) (ac6 u vs us (mkH h k)) ?_ (by rw[List.length_append,SD (d:=(f6 h.log.bT k)) (by show vs.length=(c7 uD s0 h.log.bT.cells k).length;rw[k7];exact hv) (by show us.length=(c7 E6 m3 h.log.bT.bu _).length;rw[k7];exact hu)];show (c7 uD s0 h.log.bT.cells k).length+(c7 E6 m3 h.log.bT.bu _).length+R.length<=_;rw[k7,k7];omega) rfl rfl x_34 ki;exact⟨rfl,rfl,rfl⟩

theorem acp{H:Nat->AO}{id:Nat}{t:TypeId}{pt:Option Value}{sz:Nat}{rows:List (List PV)}(hH:H id=.ai ⟨t,pt⟩ sz rows):Reads H (.own id) (.p (.ab t sz rows)):=Reads.jB (by simp[jB,hH])
theorem acL{H:Nat->AO}{F:List AO}{i1 i2 i3 i4 i5 i6 i7 i8:Nat}{p1 p2 p3 p4 p5 afs aft afu:Option Value}{vs us:List Value}{h:mm}{s:Nat}(hT:Tl H F)(V:H i1=.ai ⟨195,p1⟩ 1 (oR vs))(h2:H i2=.ai ⟨192,p2⟩ 2 (lW us h.log.bT.bu))(h3:H i3=.ai ⟨159,p3⟩ 7 (ah aX h.book.ag))(h4:H i4=.ai ⟨218,p4⟩ 7 (ah go h.book.an))(h5:H i5=.ai ⟨220,p5⟩ 5 (ah iX h.book.aq))(h6:H i6=.ai ⟨167,afs⟩ 3 (ah ct h.ia.lines))(h7:H i7=.ai ⟨81,aft⟩ 7 (ah fR h.wait))(h8:H i8=.ai ⟨81,afu⟩ 7 (ah fR h.f9))
 (hv:vs.length=h.log.bT.cells.length) (hu:us.length=h.log.bT.bu.length) (hF:∀i,i<(sY vs us h.log.bT).length->F[s+i]? = (sY vs us h.log.bT)[i]?):Reads H (.agg [.own i1,.own i2,int h.log.next,int h.log.dP,int h.book.tick,int h.book.next,int h.book.aA,.own i3,.own i4,.own i5,int h.ia.last,.own i6,.own i7,.own i8]) (Bu h):=by
 have l1:(fY vs (l9 h.log.bT.cells)).length=h.log.bT.cells.length:=by rw[Aa (by simpa using hv),List.length_map]
 have l2:(fY us (oQ h.log.bT.bu)).length=h.log.bT.bu.length:=by rw[Aa (by simpa using hu),List.length_map]
 have k1:∀i,i<h.log.bT.cells.length->F[s+i]? = (fY vs (l9 h.log.bT.cells))[i]?:=fun i hi=>by
  rw[hF i (by unfold sY;rw[List.length_append];omega)];unfold sY;rw[List.getElem?_append_left (by omega)]
 have k2:∀i,i<h.log.bT.bu.length->F[s+h.log.bT.cells.length+i]? = (fY us (oQ h.log.bT.bu))[i]?:=fun i hi=>by
  rw[Nat.add_assoc,hF (h.log.bT.cells.length+i) (by unfold sY;rw[List.length_append];omega)];unfold sY;rw[List.getElem?_append_right (by omega)];congr 1;omega
 have L:∀n:Int,Reads H (int n) (int n):=fun n=>Reads.jB rfl
 intro L' ρ w c bY hx
 exact Reads.agg (.cons (Reads.own V (SF hT hv k1)) (.cons (Reads.own h2 (SG hT hu k2)) (.cons (L _) (.cons (L _) (.cons (L _) (.cons (L _) (.cons (L _) (.cons (acp h3) (.cons (acp h4) (.cons (acp h5) (.cons (L _) (.cons (acp h6) (.cons (acp h7) (.cons (acp h8) .nil)))))))))))))) bY hx
theorem afx{h:mm}(hz:E9 h):0<=abX h/\abX h<=1000000000:=by
 have V:=acs hz.d.m;have:=hz.lc;have:=hz.lh;have:=hz.li;have:=hz.ll;have:=hz.lw;have:=hz.ls;unfold abX abH abK abI;omega

def afV(h:mm):AV->List (Nat×AO)->List AO->Prop:=fun y l1 F1=>∃vs us:List Value,vs.length=h.log.bT.cells.length/\us.length=h.log.bT.bu.length/\y=ack h/\l1=obH vs us h/\F1=sY vs us h.log.bT
abbrev afW(x:aw):AV:=.agg [int x.tick,int x.next,int x.aA,.own 1,.own 2,.own 3]
theorem agb(x:aw)(hc:x.ag.length<=1048576)(hh:x.an.length<=1048576)(hi:x.aq.length<=1048576):GC Tryz.prog 52 [NW x] [] (afW x) (Jz x):=by
 refine GC.intro (rs:=[.cell 2 50 (some 6)]) Tryz.func52 rfl Tryz.ntmps52 x_7 x_110 ?_;intro L O w0;refine sL<|ab (zX 2001 Z) Z<|ab (zA 2002 mD Z) Z<|nA<|ab (zA 2003 mD Z) Z<|nA<|lf 0 Vz Z<|aj ac Z<|lf 0 mB Z<|ab (zB 2003 ca cb Z) Z<|nA<|lf 1 VA Z<|aj ac Z<|lf 1 mW Z<|ab (zB 2003 ca cb Z) Z<|nA<|lf 2 VB Z ?_;refine aj ac Z<|lf 2 iW Z<|ab (zB 2003 ca cb Z) Z<|lT [1,2,3] [2001,2002,2003] ?_;refine nA<|lf 3 Nk Z<|bo Ng Z<|ab (zC [(2007,1)] [1] [] Tryz.func134 (Wy _ (by assumption)) (trivial) rfl rfl) Z<|lf 3 dr Z<|ab (zB 2003 sM sN rfl) Z<|nA<|lf 4 Nl Z<|bo Nh Z<|ab (zC [(2007,2)] [2] [] Tryz.func135 (Wz _ (by assumption)) (trivial) rfl rfl) Z<|lf 4 eF Z<|ab (zB 2003 tQ tR rfl) Z<|nA<|lf 5 Nm Z<|bo Ni Z<|ab (zC [(2007,3)] [3] [] Tryz.func136 (WA _ (by assumption)) (trivial) rfl rfl) Z<|lf 5 gn Z<|ab (zB 2003 yh yk rfl) Z<|lT [2,3] [1,2,3,2001,2002,2003] ?_;refine nA<|aP (.agg [U _ _,U _ _,U _ _,.own _,.own _,.own _]) cu Z<|ab (zB 2002 eu ew Z) Z<|Y<|aR ?_;refine ax ?_ x_53;rfl
theorem agc(x:cH)(hc:x.lines.length<=1048576):GC Tryz.prog 53 [NX x] [] (.agg [int x.last,.own 1]) [(1,dc x.lines)]:=by
 refine GC.intro (rs:=[.cell 2 53 (some 2)]) Tryz.func53 rfl Tryz.ntmps53 x_7 ⟨rfl,rfl,eZ,trivial⟩ ?_;intro L O w0;refine sL<|ab (zX 2001 rfl) Z<|ab (zA 2002 ld rfl) Z<|nA<|ab (zA 2003 ld rfl) Z<|nA<|lf 0 VD Z<|aj ac Z<|lf 0 pW Z<|ab (zB 2003 ca cb rfl) Z<|nA<|lf 1 Np Z<|bo Nn Z<|ab (zC [(2007,1)] [1] [] Tryz.func137 (Wx _ (by assumption)) (trivial) rfl rfl) Z<|lf 1 jY Z<|ab (zB 2003 z8 z' rfl) Z<|nA ?_;refine aP (.agg [U _ _,.own _]) eZ Z<|ab (zB 2002 cA cB Z) Z<|lT [2] [1,2001,2002,2003] ?_;refine Y<|aR ?_;refine ax ?_ x_10;rfl
theorem agd(h:mm)(hz:E9 h):GN Tryz.prog 13 [E' h] [] ([]) (afV h):=by
 refine GN.intro (rs:=[.cell 2 56 (some 14)]) Tryz.func13 rfl Tryz.ntmps13 x_7 ⟨rfl,rfl,EZ,trivial⟩ rfl ?_;intro L O w0;refine sL<|ab (zX 2001 Z) Z<|ab (zA 2002 Ig Z) Z<|nA<|ab (zA 2003 Ig Z) Z<|nA<|lf 0 Nq Z<|aP (.agg [vL _ _ _,vL _ _ _,U _ _,U _ _]) Nd Z ?_;refine A1 (A2 (F:=[]) [(1,1),(2,2)] [1,2] [] ([]).length Tryz.func51 (agf h.log hz.d) ki List.drop_length List.take_length (Nat.le_refl _) ((by simp)) (fun _ _ _ _=>trivial) rfl rfl) rfl ?_;rintro _ _ ⟨xz1,oz1,Fz1,fa,hF1,hM1,rfl,rfl⟩;obtain⟨vs,us,hv,hu,rfl,rfl,rfl⟩:=fa;have E7:dS ([]++sY vs us h.log.bT):=dS.gJ x_26 hF1;refine lf 0 qL Z<|ab (zB 2003 Nv Nw Z) Z<|nA<|lf 4 Nr Z<|aP (.agg [U _ _,U _ _,U _ _,vL _ _ _,vL _ _ _,vL _ _ _]) Nj Z<|ab (zC [(1,3),(2,4),(3,5)] [3,4,5] [] Tryz.func52 (agb h.book hz.lc hz.lh hz.li) (trivial) Z Z) Z<|lf 4 Bw Z<|ab (zB 2003 eu ew Z) Z<|nA<|lf 10 Ns Z<|aP (.agg [U _ _,vL _ _ _]) No Z<|ab (zC [(1,6)] [6] [] Tryz.func53 (agc h.ia hz.ll) (trivial) Z Z) Z ?_;refine xH (([]++sY vs us h.log.bT)) [1,2,3,14] [1,2,3,4,5,6,2001,2002,2003] ?_;refine lf 10 Bx Z<|ab (zB 2003 cA cB Z) Z<|nA<|lf 12 Nt Z<|bo EW Z<|ab (zC [(2007,7)] [7] [] Tryz.func54 (NN h.wait hz.lw) (trivial) Z Z) Z<|lf 12 Bz Z<|ab (zB 2003 Ny Nz Z) Z<|nA<|lf 13 Nu Z<|bo EW Z<|ab (zC [(2007,8)] [8] [] Tryz.func54 (NN h.f9 hz.ls) (trivial) Z Z) Z<|lf 13 By Z<|ab (zB 2003 Ny Nz Z) Z<|nA<|aP (.agg [.own _,.own _,U _ _,U _ _,U _ _,U _ _,U _ _,.own _,.own _,.own _,U _ _,.own _,.own _,.own _]) EZ Z<|ab (zB 2002 NA NB Z) Z ?_;refine xH (([]++sY vs us h.log.bT)) [2] [1,2,3,4,5,6,7,8,2001,2002,2003] ?_;refine Y<|aR ?_;have abu:dS (sY vs us h.log.bT):=TJ;rw[List.nil_append];refine vW (F1:=(sY vs us h.log.bT)) (ack h) (obH vs us h) ?_ (by rw[SD hv hu];have:=hz.d.lc;have:=hz.d.lw;omega) rfl rfl x_34 ki;exact⟨vs,us,hv,hu,rfl,rfl,rfl⟩
theorem agh(x:aw)(hc:x.ag.length<=1048576)(hh:x.an.length<=1048576)(hi:x.aq.length<=1048576):GC Tryz.prog 56 [cj x] [] (afW x) (Jz x):=by
 refine GC.intro (rs:=[.cell 2 50 (some 6)]) Tryz.func56 rfl Tryz.ntmps56 x_7 x_110 ?_;intro L O w0;refine sL<|ab (zX 2001 rfl) Z<|ab (zA 2002 mD rfl) Z<|nA<|lf 3 dr Z<|bo eg Z<|ab (qJ 1 rfl rfl (by decide) cz dy rfl (by decide) rfl (Src.p rfl) x_89 (Nat.le_trans (Nat.mul_le_mul_left _ jL) x_115)) Z<|lf 3 dr Z<|ab (zB 2001 sM sN rfl) Z<|nA<|lf 4 eF Z<|bo fS Z<|ab (qJ 2 rfl rfl (by decide) f7 iu rfl (by decide) rfl (Src.p rfl) x_89 (Nat.le_trans (Nat.mul_le_mul_left _ sQ) x_115)) Z<|lf 4 eF Z<|ab (zB 2001 tQ tR rfl) Z<|nA<|lf 5 gn Z<|bo ii Z<|ab (qJ 3 rfl rfl (by decide) iI jO rfl (by decide) rfl (Src.p rfl) x_89 (Nat.le_trans (Nat.mul_le_mul_left _ wI) x_115)) Z<|lT [1,2,13] [1,2,3,2001,2002] ?_;refine lf 5 gn Z<|ab (zB 2001 yh yk Z) Z<|nA<|aP (.agg [U _ _,U _ _,U _ _,.own _,.own _,.own _]) cu Z<|ab (zB 2002 eu ew Z) Z<|Y<|aR ?_;refine ax ?_ x_53;rfl
theorem agi{h:mm}(q:zV h=true):h.ia.lines.length<=320:=by
 have hB:=(Dr (Dp h.log.bT)).ll;have hs:qE (d5 (f8 h.log.bT)).1 h.ia=true:=by
  unfold zV at q;simp only[Bool.and_eq_true]at q;simp_all
 by_cases e:(d5 (f8 h.log.bT)).1.lines.length=h.ia.lines.length
 ·omega
 unfold qE at hs;rw[tD e,Bool.and_false]at hs;cases hs
theorem agj(l:uW):(afM l).bT.cells.length+(afM l).bT.bu.length<=10000000:=by
 cases h:ik l.bT
 ·rw[afU h];decide
 rw[afS h];have gR:=(wL h).1;show (abM l.bT).cells.length+(abM l.bT).bu.length<=_;rw[acu h,abW];show l.bT.cells.length+0<=_;omega
def afL(h:mm):mm:=if zV h=true then ⟨afM h.log,h.book,h.ia,[],h.f9++h.wait⟩else acj
theorem afX{h:mm}(q:zV h=false):afL h=acj:=if_neg (by simp[q])
theorem afY{h:mm}(q:zV h=true):afL h=⟨afM h.log,h.book,h.ia,[],h.f9++h.wait⟩:=if_pos q
def afZ(h:mm):AV->List (Nat×AO)->List AO->Prop:=afV (afL h)
theorem af3(h:mm)(hk:It h)(hz:E9 h):GN Tryz.prog 14 [Bu h] [] ([]) (afZ h):=by
 refine GN.intro (rs:=[.cell 2 56 (some 14)]) Tryz.func14 rfl Tryz.ntmps14 x_7 ⟨rfl,rfl,EZ,trivial⟩ rfl ?_;intro L O w0;refine sL<|ab (zX 2001 Z) Z<|ab (zA 2002 Ig Z) Z<|Y<|aS<|sL<|aP (.agg [vL _ _ _,vL _ _ _,U _ _,U _ _,U _ _,U _ _,U _ _,vL _ _ _,vL _ _ _,vL _ _ _,U _ _,vL _ _ _,vL _ _ _,vL _ _ _]) EZ Z ?_;refine ab (zC [] [] [] Tryz.func31 (QS h hk.db ⟨hk.wc,hk.wh,hk.wi,hz.lc⟩ ⟨hz.lc,hz.lh,hz.li⟩ hz.ll hz.lw hz.ls) (trivial) rfl rfl) Z<|bX Z<|Y ?_;refine AW.cond rfl ?_ ?_
 ·intro V;refine sL<|lq (rd (x:=.agg [vV _,vV _,U _ _,U _ _,U _ _,U _ _,U _ _,vV _,vV _,vV _,U _ _,vV _,vV _,vV _]) (cP Z acf Z Z Z) Z)<|ab (zB 2002 NA NB Z) Z<|Y ?_;refine AW.pi 1 2002 0 195 1 rfl (by decide) rfl ?_;refine AW.pi 2 2002 1 192 2 rfl (by decide) rfl ?_;refine AW.pi 3 2002 7 159 7 rfl (by decide) rfl ?_;refine AW.pi 4 2002 8 218 7 rfl (by decide) rfl ?_;refine AW.pi 5 2002 9 220 5 rfl (by decide) rfl ?_;refine AW.pi 6 2002 11 167 3 rfl (by decide) rfl ?_;refine AW.pi 7 2002 12 81 7 rfl (by decide) rfl ?_;refine AW.pi 8 2002 13 81 7 rfl (by decide) rfl ?_;refine aR<|rT ?_;have hq:zV h=false:=by have h:=V;simpa using h
  unfold afZ;rw[afX hq];refine vW (F1:=[]) (ack acj) (obH [] [] acj) ?_ (by decide) rfl rfl x_34 ki;exact⟨[],[],rfl,rfl,rfl,rfl,rfl⟩
 intro V;refine aK<|gT<|aS ?_;have hq:zV h=true:=by have h:=V;simpa using h
 have T7:=hz.ls;have hlw:=hz.lw;have rl:=agi hq;refine aG 16 [1,2,3,4,5,6,8]<|tq 0 (rf 0 qL Z)<|tq 1 (dw (.agg [vL _ _ _,vL _ _ _,U _ _,U _ _]) EY Z)<|tq 3 (rf 4 Bw Z)<|tq 4 (dw (.agg [U _ _,U _ _,U _ _,vL _ _ _,vL _ _ _,vL _ _ _]) cu Z)<|tq 6 (rf 10 Bx Z)<|tq 7 (dw (.agg [U _ _,vL _ _ _]) eZ Z)<|tq 9 (rf 13 By Z)<|tq 10 (jj tE Z)<|tq 12 (rf 12 Bz Z)<|tq 13 (jj tE Z) ?_;refine abA (i:=2) rfl x_59 (A2 (F:=[]) [(1,1),(2,2)] [1,2] [] ([]).length Tryz.func55 (af' h.log) ki List.drop_length List.take_length (Nat.le_refl _) ((by simp)) (fun _ _ _ _=>trivial) rfl rfl) (exK (l:=[]) rfl rfl) rfl ?_;rintro _ _ ⟨xz2,oz2,Fz2,hz2,hF2,hM2,rfl,rfl⟩;obtain⟨vs,us,hv,hu,rfl,rfl,rfl⟩:=hz2;have abt:dS ([]++sY vs us (afM h.log).bT):=dS.gJ x_26 hF2;refine cm 5 rfl (zC [(1,3),(2,4),(3,5)] [3,4,5] [] Tryz.func56 (agh h.book hz.lc hz.lh hz.li) (trivial) rfl rfl)<|cm 8 rfl (zC [(51,6)] [6] [] Tryz.func57 (adZ h.ia (by omega)) (trivial) rfl rfl)<|cm 11 rfl (zC [(1,8)] [8] [] Tryz.func58 (QO h.f9 hz.ls) (trivial) rfl rfl)<|cm 14 rfl (zP 8 jk jl sD rfl (Src.p rfl))<|yq 15 (rd (x:=.agg [.own _,.own _,U _ _,U _ _,U _ _,U _ _,U _ _,.own _,.own _,.own _,U _ _,.own _,vV _,.own _]) (cP rfl acf rfl rfl rfl) rfl)<|yl rfl (zB 2002 NA NB rfl)<|gT ?_;refine AW.pi 7 2002 12 81 7 rfl (by decide) rfl ?_;refine aR ?_;have abu:dS (sY vs us (afM h.log).bT):=TJ;rw[List.nil_append];unfold afZ;rw[afY hq];refine vW (F1:=(sY vs us (afM h.log).bT)) (ack ⟨afM h.log,h.book,h.ia,[],h.f9++h.wait⟩) (obH vs us ⟨afM h.log,h.book,h.ia,[],h.f9++h.wait⟩) ?_ (by rw[SD hv hu];exact agj h.log) rfl rfl ⟨rfl,rfl,rfl,rfl,rfl,rfl,rfl,(congrArg (AO.ai 81 7) (fx fR _ _).symm),trivial⟩ ki;exact⟨vs,us,hv,hu,rfl,rfl,rfl⟩

theorem agk(l:uW):GC Tryz.prog 50 [G9 l] [] (G9 (afM l)) []:=
 (GX.frozen (Z:=fun y=>y=G9 (afM l)) (aga l) fun x ob ⟨e1,e2⟩=>by
   subst e1 e2;exact⟨_,Still.agg (.cons (Still.row (id:=1) (e:=⟨195,none⟩) (sz:=1) (rows:=oS (afM l).bT.cells) rfl) (.cons (Still.row (id:=2) (e:=⟨192,none⟩) (sz:=2) (rows:=oT (afM l).bT.bu) rfl) (.cons (Still.p _) (.cons (Still.p _) .nil)))),rfl⟩).mono fun y o ⟨e1,e2⟩=>⟨e2,e1⟩
theorem agl{H:Nat->AO}{x:aw}{a b c:Nat}(V:H a=.ai 159 7 (ah aX x.ag))(h2:H b=df x.an)(h3:H c=d7 x.aq):Still H (.agg [int x.tick,int x.next,int x.aA,.own a,.own b,.own c]) (cj x):=
 Still.agg (.cons (Still.p _) (.cons (Still.p _) (.cons (Still.p _) (.cons (Still.row (e:=⟨159,none⟩) (sz:=7) V) (.cons (Still.row (e:=⟨218,none⟩) (sz:=7) h2) (.cons (Still.row (e:=⟨220,none⟩) (sz:=5) h3) .nil))))))
theorem agm(x:aw)(hc:x.ag.length<=1048576)(hh:x.an.length<=1048576)(hi:x.aq.length<=1048576):GC Tryz.prog 132 [cj x] [] (afW x) (Jz x):=by
 refine GC.intro (rs:=[.cell 2 50 (some 6)]) Tryz.func132 rfl Tryz.ntmps132 x_7 x_110 ?_;intro L O w0;refine sL<|ab (zX 2001 rfl) Z<|ab (zA 2002 mD rfl) Z<|nA<|ab (zS 1 [] cz dy rfl (by simp)) Z<|lf 3 dr Z<|bo eg Z<|ab (zP 1 cz dy jL rfl (Src.p rfl)) Z<|lf 3 dr Z<|ab (zB 2001 sM sN rfl) Z<|nA<|ab (zS 2 [] f7 iu rfl (by simp)) Z<|lf 4 eF Z<|bo fS Z<|ab (zP 2 f7 iu sQ rfl (Src.p rfl)) Z<|lf 4 eF Z<|ab (zB 2001 tQ tR rfl) Z<|lT [1,2] [1,2,2001,2002] ?_;refine nA<|ab (zS 3 [] iI jO rfl (by simp)) Z<|lf 5 gn Z<|bo ii Z<|ab (zP 3 iI jO wI rfl (Src.p rfl)) Z<|lf 5 gn Z<|ab (zB 2001 yh yk rfl) Z<|nA<|aP (.agg [U _ _,U _ _,U _ _,.own _,.own _,.own _]) cu Z<|ab (zB 2002 eu ew rfl) Z<|Y<|aR ?_;refine ax ?_ x_53;rfl
theorem agn(x:aw)(hc:x.ag.length<=1048576)(hh:x.an.length<=1048576)(hi:x.aq.length<=1048576):GC Tryz.prog 132 [cj x] [] (cj x) []:=
 (GX.frozen (Z:=fun y=>y=cj x) (agm x hc hh hi) fun y ob ⟨e1,e2⟩=>by
   subst e1 e2;exact⟨_,agl (a:=1) (b:=2) (c:=3) rfl rfl rfl,rfl⟩).mono fun y o ⟨e1,e2⟩=>⟨e2,e1⟩
abbrev ago(h:mm):AV:=.agg [.p (.ab 195 1 (oS h.log.bT.cells)),.p (.ab 192 2 (oT h.log.bT.bu)),int h.log.next,int h.log.dP,int h.book.tick,int h.book.next,int h.book.aA,.p (.ab 159 7 (ah aX h.book.ag)),.p (.ab 218 7 (ah go h.book.an)),.p (.ab 220 5 (ah iX h.book.aq)),int h.ia.last,.own 6,.own 7,.own 8]
abbrev agp(h:mm):List (Nat×AO):=[(6,dc h.ia.lines),(7,uT h.wait),(8,uT h.f9)]
theorem agq(h:mm)(hz:E9 h)(hs:DkS h.log.bT):GC Tryz.prog 49 [Bu h] [] (ago h) (agp h):=by
 refine GC.intro (rs:=[.cell 2 56 (some 14)]) Tryz.func49 rfl Tryz.ntmps49 x_7 ⟨rfl,rfl,EZ,trivial⟩ ?_;intro L O w0;refine sL<|ab (zX 2001 Z) Z<|ab (zA 2002 Ig Z) Z<|nA<|lf 0 qL Z<|lf 0 Bv Z<|aP (.agg [vL _ _ _,vL _ _ _]) mE Z<|ab (zC [] [] [] Tryz.func131 ((adz h.log.bT hs).bT) (trivial) Z Z) Z<|lf 0 qL Z<|lf 0 Bv Z<|ab (zB 2001 Dv Dw Z) Z<|nA<|lf 4 Bw Z<|aP (.agg [U _ _,U _ _,U _ _,vL _ _ _,vL _ _ _,vL _ _ _]) cu Z<|ab (zC [] [] [] Tryz.func132 (agn h.book hz.lc hz.lh hz.li) (trivial) Z Z) Z<|lf 4 Bw Z<|ab (zB 2001 eu ew Z) Z<|lT [1,2] [2001,2002] ?_;refine Y<|aS ?_;have rl:=hz.ll;have hlw:=hz.lw;have T7:=hz.ls;refine aL<|ab (zS 6 [] cV eP rfl (by simp)) Z<|lf 10 Bx Z<|lf 11 jY Z<|bo gY Z<|ab (zP 6 cV eP lE rfl (Src.p rfl)) Z<|lf 10 Bx Z<|lf 11 jY Z<|ab (zB 2001 z8 z' rfl) Z<|nA<|ab (zS 7 [] jk jl rfl (by simp)) Z<|lf 12 Bz Z<|bo tE Z<|ab (zP 7 jk jl sD rfl (Src.p rfl)) Z<|lf 12 Bz Z<|ab (zB 2001 Ny Nz rfl) Z<|lT [1,2] [6,7,2001,2002] ?_;refine nA<|ab (zS 8 [] jk jl rfl (by simp)) Z<|lf 13 By Z<|bo tE Z<|ab (zP 8 jk jl sD rfl (Src.p rfl)) Z<|lf 13 By Z<|ab (zB 2001 Ny Nz rfl) Z<|nA<|aP (.agg [vL _ _ _,vL _ _ _,U _ _,U _ _,U _ _,U _ _,U _ _,vL _ _ _,vL _ _ _,vL _ _ _,U _ _,.own _,.own _,.own _]) EZ Z<|ab (zB 2002 NA NB rfl) Z<|Y<|aR ?_;refine ax ?_ x_53;rfl
theorem af4{h:mm}(q:zV h=true):ik h.log.bT=true:=by
 unfold zV at q;simp only[Bool.and_eq_true]at q;simp_all
def ags(h:mm):AV->List (Nat×AO)->Prop:=fun y ob=>(zV h=false/\y=.agg [y5,y5,int 0,int 0,int 0,int 0,int 0,y5,y5,y5,int 0,y5,y5,y5]/\ob=[])\/(zV h=true/\y=.agg [.p (.ab 195 1 (oS (afM h.log).bT.cells)),.p (.ab 192 2 (oT (afM h.log).bT.bu)),int (afM h.log).next,int (afM h.log).dP,int h.book.tick,int h.book.next,int h.book.aA,.p (.ab 159 7 (ah aX h.book.ag)),.p (.ab 218 7 (ah go h.book.an)),.p (.ab 220 5 (ah iX h.book.aq)),int h.ia.last,.own 6,y5,.own 8]/\ob=[(6,dc h.ia.lines),(8,uT (h.f9++h.wait))])
theorem af5(h:mm)(hk:It h)(hz:E9 h):GX Tryz.prog 12 [Bu h] [] (ags h):=by
 refine GX.intro (rs:=[.cell 2 56 (some 14)]) Tryz.func12 rfl Tryz.ntmps12 x_7 ⟨rfl,rfl,EZ,trivial⟩ ?_;intro L O w0;refine sL<|ab (zX 2001 Z) Z<|ab (zA 2002 Ig Z) Z<|Y<|aS<|sL<|aP (.agg [vL _ _ _,vL _ _ _,U _ _,U _ _,U _ _,U _ _,U _ _,vL _ _ _,vL _ _ _,vL _ _ _,U _ _,vL _ _ _,vL _ _ _,vL _ _ _]) EZ Z ?_;refine ab (zC [] [] [] Tryz.func30 (QV h hk.db ⟨hk.wc,hk.wh,hk.wi,hz.lc⟩ ⟨hz.lc,hz.lh,hz.li⟩ hz.ll hz.lw hz.ls) (trivial) rfl rfl) Z<|bX Z<|Y ?_;refine AW.cond rfl ?_ ?_
 ·intro V;refine sL<|lq (rd (x:=.agg [vV _,vV _,U _ _,U _ _,U _ _,U _ _,U _ _,vV _,vV _,vV _,U _ _,vV _,vV _,vV _]) (cP Z acf Z Z Z) Z)<|ab (zB 2002 NA NB Z) Z<|Y<|aR<|rT ?_;have hq:zV h=false:=by have h:=V;simpa using h
  refine fN ((.agg [y5,y5,int 0,int 0,int 0,int 0,int 0,y5,y5,y5,int 0,y5,y5,y5])) [] ?_ rfl trivial;exact .inl ⟨hq,rfl,rfl⟩
 intro V;refine aK<|gT<|aS ?_;have hq:zV h=true:=by have h:=V;simpa using h
 have hlw:=hz.lw;have T7:=hz.ls;refine aL<|aP (.agg [vL _ _ _,vL _ _ _,U _ _,U _ _,U _ _,U _ _,U _ _,vL _ _ _,vL _ _ _,vL _ _ _,U _ _,vL _ _ _,vL _ _ _,vL _ _ _]) EZ Z<|ab (zC [(6,6),(7,7),(8,8)] [6,7,8] [] Tryz.func49 (agq h hz (acF (af4 hq))) (trivial) Z Z) Z<|ab (zA 2003 Ig Z) Z<|ab (zB 2003 NA NB Z) Z<|nA<|lf 0 qL Z<|aP (.agg [vL _ _ _,vL _ _ _,U _ _,U _ _]) EY Z<|ab (zC [] [] [] Tryz.func50 (agk h.log) (trivial) Z Z) Z<|lT [2,3,12] [6,7,8,2001,2002,2003] ?_;refine lf 0 qL Z<|ab (zB 2003 Nv Nw Z) Z<|nA<|lf 13 By Z<|iO tE Z<|lf 12 Bz Z<|iO tE Z<|ab (zP 8 jk jl sD Z (Src.own Z Z)) Z<|lf 13 By Z<|ab (zB 2003 Ny Nz Z) Z<|nA<|lf 12 Bz Z<|ab (zB 2003 Ny Nz Z) Z<|nA<|aP (.agg [vL _ _ _,vL _ _ _,U _ _,U _ _,U _ _,U _ _,U _ _,vL _ _ _,vL _ _ _,vL _ _ _,U _ _,.own _,vV _,.own _]) EZ Z<|ab (zB 2002 NA NB Z) Z<|Y<|aR ?_;skip;refine fN (_) [(6,dc h.ia.lines),(8,uT (h.f9++h.wait))] ?_ rfl ⟨rfl,(congrArg (AO.ai 81 7) (fx fR _ _).symm),trivial⟩;exact .inr ⟨hq,rfl,rfl⟩
theorem agt(h:mm)(hk:It h)(hz:E9 h):GC Tryz.prog 12 [Bu h] [] (Bu (afL h)) []:=by
 have n:∀ {e:TypeId} {sz:Nat},fe y5 (.p (.ab e sz [])):=fun{e sz}=>fe.nil _ _;cases hq:zV h
 ·rw[afX hq];refine GX.imp ((af5 h hk hz).mono (R':=fun y o=>y=.agg [y5,y5,int 0,int 0,int 0,int 0,int 0,y5,y5,y5,int 0,y5,y5,y5]/\o=[]) fun y o q=>?_) (fun x bd ⟨e1,e2⟩=>?_)
  ·rcases q with⟨_,q1,q2⟩|⟨q,_⟩
   ·exact⟨q1,q2⟩
   rw[hq]at q;cases q
  subst e1 e2;exact⟨_,fe.agg (ff.cons n (ff.cons n (ff.cons (fe.refl _) (ff.cons (fe.refl _) (ff.cons (fe.refl _) (ff.cons (fe.refl _) (ff.cons (fe.refl _) (ff.cons n (ff.cons n (ff.cons n (ff.cons (fe.refl _) (ff.cons n (ff.cons n (ff.cons n ff.nil)))))))))))))),rfl,rfl⟩
 rw[afY hq];refine GX.imp (GX.frozen (Z:=fun y=>y=.agg [.p (.ab 195 1 (oS (afM h.log).bT.cells)),.p (.ab 192 2 (oT (afM h.log).bT.bu)),int (afM h.log).next,int (afM h.log).dP,int h.book.tick,int h.book.next,int h.book.aA,.p (.ab 159 7 (ah aX h.book.ag)),.p (.ab 218 7 (ah go h.book.an)),.p (.ab 220 5 (ah iX h.book.aq)),int h.ia.last,.p (.ab 167 3 (ah ct h.ia.lines)),y5,.p (.ab 81 7 (ah fR (h.f9++h.wait)))]) (af5 h hk hz) fun y o q=>?_) (fun x bd ⟨e2,e1⟩=>?_)
 ·rcases q with⟨q,_⟩|⟨_,q1,q2⟩
  ·rw[hq]at q;cases q
  subst q1 q2;exact⟨_,Still.agg (.cons (Still.p _) (.cons (Still.p _) (.cons (Still.p _) (.cons (Still.p _) (.cons (Still.p _) (.cons (Still.p _) (.cons (Still.p _) (.cons (Still.p _) (.cons (Still.p _) (.cons (Still.p _) (.cons (Still.p _) (.cons (Still.row (id:=6) (e:=⟨167,none⟩) (sz:=3) (rows:=ah ct h.ia.lines) rfl) (.cons (Still.p _) (.cons (Still.row (id:=8) (e:=⟨81,none⟩) (sz:=7) (rows:=ah fR (h.f9++h.wait)) rfl) .nil)))))))))))))),rfl⟩
 subst e1 e2;exact⟨_,fe.agg (ff.cons (fe.refl _) (ff.cons (fe.refl _) (ff.cons (fe.refl _) (ff.cons (fe.refl _) (ff.cons (fe.refl _) (ff.cons (fe.refl _) (ff.cons (fe.refl _) (ff.cons (fe.refl _) (ff.cons (fe.refl _) (ff.cons (fe.refl _) (ff.cons (fe.refl _) (ff.cons (fe.refl _) (ff.cons n (ff.cons (fe.refl _) ff.nil)))))))))))))),rfl,rfl⟩

theorem agu{h:mm}(q:zV h=true):(h.f9++h.wait).length<=600:=by
 have hl:=Ka h.log.bT;have ht:pZ (f8 h.log.bT) (h.f9++h.wait)=true:=by
  unfold zV at q;simp only[Bool.and_eq_true]at q;simp_all
 unfold pZ at ht;simp only[Bool.and_eq_true,decide_eq_true_eq]at ht;omega
theorem af6{h:mm}(hz:E9 h):E9 (afL h):=by
 cases hq:zV h
 ·rw[afX hq];exact⟨adq,by simp,by simp,by simp,by simp,by simp,by simp⟩
 rw[afY hq];have hd:=af4 hq;have ht:=agu hq;refine⟨?_,hz.lc,hz.lh,hz.li,hz.ll,by simp,by show (h.f9++h.wait).length<=_;omega⟩;show vU (afM h.log).bT;rw[afS hd];exact aeo (aen hd)
abbrev af7(u:List Value)(vs us:List Value)(h:mm):List (Nat×AO):=[(31,.ai ⟨195,some (u.getD 0 undef)⟩ 1 (oR vs)),(32,.ai ⟨192,some (u.getD 1 undef)⟩ 2 (lW us h.log.bT.bu)),(33,.ai ⟨159,some (u.getD 2 undef)⟩ 7 (ah aX h.book.ag)),(34,.ai ⟨218,some (u.getD 3 undef)⟩ 7 (ah go h.book.an)),(35,.ai ⟨220,some (u.getD 4 undef)⟩ 5 (ah iX h.book.aq)),(36,.ai ⟨167,some (u.getD 5 undef)⟩ 3 (ah ct h.ia.lines)),(37,.ai ⟨81,some (u.getD 6 undef)⟩ 7 (ah fR h.wait)),(38,.ai ⟨81,some (u.getD 7 undef)⟩ 7 (ah fR h.f9))]
abbrev agv(h:mm):AV:=.agg [.own 31,.own 32,int h.log.next,int h.log.dP,int h.book.tick,int h.book.next,int h.book.aA,.own 33,.own 34,.own 35,int h.ia.last,.own 36,.own 37,.own 38]
theorem agw{vs us:List Value}{h:mm}:∀p∈obH vs us h,GP p.2:=fun p hp=>by
 simp only[List.mem_cons,List.not_mem_nil,or_false]at hp;rcases hp with rfl|rfl|rfl|rfl|rfl|rfl|rfl|rfl
 ·exact ael
 ·exact ado
 all_goals exact yg
theorem agx(u:List Value)(vs us:List Value)(h:mm)(hk:It h)(hz:E9 h)(hv:vs.length=h.log.bT.cells.length)(hu:us.length=h.log.bT.bu.length) :
 GN Tryz.prog 14 [agv h] (af7 u vs us h) (sY vs us h.log.bT) fun y l F=>∃v7 s5:List Value,v7.length=(afL h).log.bT.cells.length/\s5.length=(afL h).log.bT.bu.length/\y=ack (afL h)/\l=obH v7 s5 (afL h)++af7 u vs us h/\F=sY vs us h.log.bT++sY v7 s5 (afL h).log.bT:=
 (aeg (af3 h hk hz) (.cons (fun{L ρ w c} bY hx=>acL (s:=0) (Tl.tl TJ) rfl rfl rfl rfl rfl rfl rfl rfl hv hu (fun i _=>by rw[Nat.zero_add]) bY hx) .nil) TJ rfl (fun x l1 F1 ⟨v7,s5,V,h2,e1,e2,e3⟩=>by
   subst e1 e2 e3;have fa:=hz.d;have hz2:=(af6 hz).d;refine⟨rfl,fun id hid=>?_,agw,aem,?_⟩
   ·simp[s7,vN]at hid;rcases hid with rfl|rfl|rfl|rfl|rfl|rfl|rfl|rfl<;>rfl
   ·rw[SD hv hu,SD V h2];have:=fa.lc;have:=fa.lw;have:=hz2.lc;have:=hz2.lw;omega)).mono fun y ob ⟨l1,F1,q1,q2,q3,q4,l2,F2,⟨v7,s5,V,h2,e1,e2,e3⟩,e4,e5⟩=>by
   subst e1 e2 e3 e4 e5;exact⟨_,_,q1,q2,q3,q4,v7,s5,V,h2,rfl,rfl,rfl⟩
theorem agy{f:FuncId}{args:List AV}{h:mm}(hg:GN Tryz.prog f args [] [] (afV h)):GC Tryz.prog f args [] (Bu h) []:=
 (GX.frozen (Z:=fun y=>y=Bu h) (show GX Tryz.prog _ _ [] _ from hg) fun x ob ⟨l1,F1,hs,hF,hM,e,⟨vs,us,hv,hu,e1,e2,e3⟩⟩=>by
   subst e e1 e2 e3;refine⟨Bu h,?_,rfl⟩;have hT:Tl (bx (obH vs us h++je 1000000 (sY vs us h.log.bT))) (sY vs us h.log.bT):=by rw[Gm rfl];exact Tl.tl hF
   have l1:(fY vs (l9 h.log.bT.cells)).length=h.log.bT.cells.length:=by rw[Aa (by simpa using hv),List.length_map]
   have R:∀(i:Nat) (t:TypeId) (sz:Nat) (rows:List (List PV)),bx (obH vs us h++je 1000000 (sY vs us h.log.bT)) i=.ai ⟨t,none⟩ sz rows->Still (bx (obH vs us h++je 1000000 (sY vs us h.log.bT))) (.own i) (.p (.ab t sz rows)):=fun i t sz rows h=>Still.row (e:=⟨t,none⟩) h;exact Still.agg (.cons (Still.own (id:=1) (e:=⟨195,none⟩) (sz:=1) (rows:=oR vs) rfl (SF hT hv (s:=0) fun i hi=>by unfold sY;rw[Nat.zero_add,List.getElem?_append_left (by omega)]))
    (.cons (Still.own (id:=2) (e:=⟨192,none⟩) (sz:=2) (rows:=lW us h.log.bT.bu) rfl (SG hT hu (s:=h.log.bT.cells.length) fun i hi=>by unfold sY;rw[List.getElem?_append_right (by omega)];congr 1;omega)) (.cons (Still.p _) (.cons (Still.p _) (.cons (Still.p _) (.cons (Still.p _) (.cons (Still.p _) (.cons (R 3 _ _ _ rfl) (.cons (R 4 _ _ _ rfl) (.cons (R 5 _ _ _ rfl) (.cons (Still.p _) (.cons (R 6 _ _ _ rfl) (.cons (R 7 _ _ _ rfl) (.cons (R 8 _ _ _ rfl) .nil))))))))))))))).mono fun y o ⟨e1,e2⟩=>⟨e2,e1⟩
theorem x_56{p:Prop}(c:p:=by simp[ah,mkH,mkB,mkL,c6]):p:=c
theorem x_61{p:Prop}(c:p:=by first|(simp;done)|(simp;omega)):p:=c
theorem agz(x:mm)(hk:It x):GC Tryz.prog 3 [E' x] [] (aD true) []:=by
 refine gi 2 Tryz.func3 rfl Tryz.ntmps3 rfl ?_;intro L O w0;refine sL<|ab (zX 2001 Z) Z<|ar Z<|nA<|ao Z<|nA<|aP (.agg [vL _ _ _,vL _ _ _,U _ _,U _ _,U _ _,U _ _,U _ _,vL _ _ _,vL _ _ _,vL _ _ _,U _ _,vL _ _ _,vL _ _ _,vL _ _ _]) EX Z<|ae Z<|ab (zL Tryz.func11 (Xk x hk) Z) Z<|ao Z<|Y<|aS<|sL<|ae Z<|ak Z<|Y ?_;refine AW.cond rfl ?_ ?_
 ·intro V;refine sL<|cI Z<|Y<|aR<|rT ?_;refine ax ?_ trivial;rfl
 intro V;refine aK<|gT<|aS ?_;have hs:0<=vZ x 1048576:=by have h:=V;simp only[decide_eq_false_iff_not]at h;omega
 have hz:=Xd hs;obtain⟨cQ,qC⟩:=afx hz;have hz2:=af6 hz;obtain⟨hd0,hd1⟩:=afx hz2;have oF:=hz.d.lc;have hlw:=hz.d.lw;have afI:=hz2.d.lc;have afJ:=hz2.d.lw;refine aL<|aP (.agg [vL _ _ _,vL _ _ _,U _ _,U _ _,U _ _,U _ _,U _ _,vL _ _ _,vL _ _ _,vL _ _ _,U _ _,vL _ _ _,vL _ _ _,vL _ _ _]) EX Z<|ab (zC [] [] [] Tryz.func13 (Iu x hz) (trivial) Z Z) Z<|ab (zC [] [] [] Tryz.func12 (agt x hk hz) (trivial) Z Z) Z<|ab (zA 2004 Ig Z) Z ?_;refine xH ([]) [1,2,4,18] [2001,2004] ?_;refine ab (zB 2004 NA NB Z) Z<|nA<|aP (.agg [vL _ _ _,vL _ _ _,U _ _,U _ _,U _ _,U _ _,U _ _,vL _ _ _,vL _ _ _,vL _ _ _,U _ _,vL _ _ _,vL _ _ _,vL _ _ _]) EX Z ?_;refine A1 (A2 (F:=[]) [(1,11),(2,12),(3,13),(4,14),(5,15),(6,16),(7,17),(8,18)] [11,12,13,14,15,16,17,18] [] ([]).length Tryz.func13 (agd x hz) ki List.drop_length List.take_length (Nat.le_refl _) ((by simp)) (fun _ _ _ _=>trivial) rfl rfl) rfl ?_;rintro _ _ ⟨xz1,oz1,Fz1,fa,hF1,hM1,rfl,rfl⟩;obtain⟨vs1,y6,vC,hu1,rfl,rfl,rfl⟩:=fa;have E7:dS ([]++sY vs1 y6 x.log.bT):=dS.gJ x_26 hF1;refine ab (zA 2005 Ig Z) Z<|ab (zB 2005 NA NB Z) Z<|Y<|aS ?_;rw[List.nil_append];have E7:dS (sY vs1 y6 x.log.bT):=TJ;have hFl:=SD vC hu1;refine AW.mU 11 rfl ?_;intro u11;refine AW.mU 12 rfl ?_;intro u12;refine AW.mU 13 rfl ?_;intro u13;refine AW.mU 14 rfl ?_;intro u14;refine AW.mU 15 rfl ?_;intro u15;refine AW.mU 16 rfl ?_;intro u16;refine AW.mU 17 rfl ?_;intro u17;refine AW.mU 18 rfl ?_;intro u18;refine aL<|aP (.agg [.own _,.own _,U _ _,U _ _,U _ _,U _ _,U _ _,.own _,.own _,.own _,U _ _,.own _,.own _,.own _]) EZ Z ?_;refine A1 (A2 (F:=(sY vs1 y6 x.log.bT)) [(1,21),(2,22),(3,23),(4,24),(5,25),(6,26),(7,27),(8,28),(31,11),(32,12),(33,13),(34,14),(35,15),(36,16),(37,17),(38,18)] [21,22,23,24,25,26,27,28] [31,32,33,34,35,36,37,38] 0 Tryz.func14 (agx [u11,u12,u13,u14,u15,u16,u17,u18] vs1 y6 x hk hz vC hu1) ki List.drop_zero List.take_zero (Nat.zero_le _) ((by rw[hFl];omega)) ((fun y l F ⟨_,_,_,_,_,e2,_⟩=>by subst e2;exact⟨stays.ai rfl,stays.ai rfl,stays.ai rfl,stays.ai rfl,stays.ai rfl,stays.ai rfl,stays.ai rfl,stays.ai rfl,trivial⟩)) rfl rfl) rfl ?_;rintro _ _ ⟨xz2,oz2,Fz2,hz2,hF2,hM2,rfl,rfl⟩;obtain⟨v7,s5,hv2,hu2,rfl,rfl,rfl⟩:=hz2;have abt:dS ([]++(sY vs1 y6 x.log.bT++sY v7 s5 (afL x).log.bT)):=dS.gJ x_26 hF2;refine ab (zA 2006 Ig Z) Z<|ab (zB 2006 NA NB Z) Z<|Y<|aS<|aS ?_;rw[List.nil_append];have abt:dS (sY vs1 y6 x.log.bT++sY v7 s5 (afL x).log.bT):=dS.gJ TJ TJ;have ac8:=SD hv2 hu2;refine aL<|aP (.agg [.own _,.own _,U _ _,U _ _,U _ _,U _ _,U _ _,.own _,.own _,.own _,U _ _,.own _,.own _,.own _]) EZ Z<|aP (.agg [vL _ _ _,vL _ _ _,U _ _,U _ _,U _ _,U _ _,U _ _,vL _ _ _,vL _ _ _,vL _ _ _,U _ _,vL _ _ _,vL _ _ _,vL _ _ _]) EZ Z<|ab (zLN Tryz.func15 (Xq (afL x) hz2) rfl (.cons (acL (vs:=v7) (us:=s5) (h:=(afL x)) (s:=(sY vs1 y6 x.log.bT).length) ki rfl rfl rfl rfl rfl rfl rfl rfl hv2 hu2 acx) (.cons (Reads.jB rfl) .nil))) Z<|ma Z<|bJ 26 false rfl x_61<|Y<|aN Z<|aK<|gT<|aS<|aS<|aF []<|sq 0 (dw (.agg [.own _,.own _,U _ _,U _ _,U _ _,U _ _,U _ _,.own _,.own _,.own _,U _ _,.own _,.own _,.own _]) EZ rfl)<|vq 1 (dw (.agg [vL _ _ _,vL _ _ _,U _ _,U _ _,U _ _,U _ _,U _ _,vL _ _ _,vL _ _ _,vL _ _ _,U _ _,vL _ _ _,vL _ _ _,vL _ _ _]) EX rfl)<|bn 2 rfl (zC [] [] [] Tryz.func13 (Iu x hz) (trivial) rfl rfl) (.inr rfl) ?_;refine fTt ((sY vs1 y6 x.log.bT++sY v7 s5 (afL x).log.bT)) [1,2,4,5,6,27,29] [11,12,13,14,15,16,17,18,21,22,23,24,25,26,27,28,2001,2004,2005,2006] ?_;refine bn 3 rfl (zLN Tryz.func15 (Xq x hz) rfl (.cons (acL (vs:=vs1) (us:=y6) (h:=x) (s:=0) ki rfl rfl rfl rfl rfl rfl rfl rfl vC hu1 (fun j hj=>by rw[Nat.zero_add,List.getElem?_append_left hj])) (.cons (Reads.jB rfl) .nil))) (.inr rfl)<|vq 4 (tJ rfl)<|nw 31 false rfl x_61<|fD<|gT<|aN Z<|aK<|gA<|ao Z<|nA<|aP (.agg [.own _,.own _,U _ _,U _ _,U _ _,U _ _,U _ _,.own _,.own _,.own _,U _ _,.own _,.own _,.own _]) EZ Z<|ae rfl ?_;refine A1 (A2 (F:=(sY vs1 y6 x.log.bT++sY v7 s5 (afL x).log.bT)) [(1,11),(2,12),(3,13),(4,14),(5,15),(6,16),(7,17),(8,18)] [] [1,2,3,4,5,6,7,8] 0 Tryz.func16 (afp [u11,u12,u13,u14,u15,u16,u17,u18] vs1 y6 x (sY v7 s5 (afL x).log.bT) 1 vC hu1 TJ (by rw[ac8];omega) hz (by omega)) ki List.drop_zero List.take_zero (Nat.zero_le _) ((by rw[List.length_append,hFl,ac8];omega)) ((fun y l F ⟨_,e2,_⟩=>by subst e2;exact⟨stays.ai rfl,stays.ai (by show (lW y6 (c7 E6 m3 _ _)).length=_;rw[K9 (by rw[k7];exact hu1),k7,K9 hu1]),stays.ai x_56,stays.ai x_56,stays.ai x_56,stays.ai x_56,stays.ai x_56,stays.ai x_56,trivial⟩)) rfl rfl) rfl ?_;rintro _ _ ⟨xz3,oz3,Fz3,hz3,hF3,hM3,rfl,rfl⟩;obtain⟨rfl,rfl,rfl⟩:=hz3;have acg:dS ([]++(sY vs1 y6 (f6 x.log.bT 1)++sY v7 s5 (afL x).log.bT)):=dS.gJ x_26 hF3;refine ao Z<|Y<|aS<|aS ?_;rw[List.nil_append];have hrA:dS (sY vs1 y6 (f6 x.log.bT 1)):=TJ;have acg:dS (sY vs1 y6 (f6 x.log.bT 1)++sY v7 s5 (afL x).log.bT):=dS.gJ TJ TJ;refine aL<|ae Z<|ak Z<|bJ 36 false rfl x_61<|dm Z<|aP (.agg [.own _,.own _,U _ _,U _ _,U _ _,U _ _,U _ _,.own _,.own _,.own _,U _ _,.own _,.own _,.own _]) EZ Z<|aP (.agg [vL _ _ _,vL _ _ _,U _ _,U _ _,U _ _,U _ _,U _ _,vL _ _ _,vL _ _ _,vL _ _ _,U _ _,vL _ _ _,vL _ _ _,vL _ _ _]) EZ Z<|ab (zLN Tryz.func15 (Xq (afL x) hz2) rfl (.cons (acL (vs:=v7) (us:=s5) (h:=(afL x)) (s:=(sY vs1 y6 (f6 x.log.bT 1)).length) ki rfl rfl rfl rfl rfl rfl rfl rfl hv2 hu2 acx) (.cons (Reads.jB rfl) .nil))) Z<|ma Z<|bJ 41 false rfl x_61<|bL Z<|Y<|aN Z<|aK<|gA<|ao Z<|Y<|aS ?_;refine AW.mU 21 rfl ?_;intro u21;refine AW.mU 22 rfl ?_;intro u22;refine AW.mU 23 rfl ?_;intro u23;refine AW.mU 24 rfl ?_;intro u24;refine AW.mU 25 rfl ?_;intro u25;refine AW.mU 26 rfl ?_;intro u26;refine AW.mU 27 rfl ?_;intro u27;refine AW.mU 28 rfl ?_;intro u28;rw[<-List.append_nil (sY v7 s5 (afL x).log.bT)];have ads:dS (sY vs1 y6 (f6 x.log.bT 1)++(sY v7 s5 (afL x).log.bT++[])):=dS.gJ TJ (dS.gJ TJ dS.nil);refine aL<|aP (.agg [.own _,.own _,U _ _,U _ _,U _ _,U _ _,U _ _,.own _,.own _,.own _,U _ _,.own _,.own _,.own _]) EZ Z<|ae Z ?_;refine A1 (A2 (F:=(sY vs1 y6 (f6 x.log.bT 1)++(sY v7 s5 (afL x).log.bT++[]))) [(1,21),(2,22),(3,23),(4,24),(5,25),(6,26),(7,27),(8,28)] [] [1,2,3,4,5,6,7,8] (sY vs1 y6 (f6 x.log.bT 1)).length Tryz.func16 (afp [u21,u22,u23,u24,u25,u26,u27,u28] v7 s5 (afL x) [] 1 hv2 hu2 dS.nil (by simp) hz2 (by omega)) ki List.drop_left List.take_left (by simp) ((by rw[List.length_append,List.append_nil,ac8,SD (d:=f6 x.log.bT 1) (by show _=(c7 uD s0 _ _).length;rw[k7];exact vC) (by show _=(c7 E6 m3 _ _).length;rw[k7];exact hu1)];show (c7 uD s0 _ _).length+(c7 E6 m3 _ _).length+_<=_;rw[k7,k7];omega)) ((fun y l F ⟨_,e2,_⟩=>by subst e2;exact⟨stays.ai rfl,stays.ai (by show (lW s5 (c7 E6 m3 _ _)).length=_;rw[K9 (by rw[k7];exact hu2),k7,K9 hu2]),stays.ai x_56,stays.ai x_56,stays.ai x_56,stays.ai x_56,stays.ai x_56,stays.ai x_56,trivial⟩)) rfl rfl) rfl ?_;rintro _ _ ⟨xz4,oz4,Fz4,hz4,hF4,hM4,rfl,rfl⟩;obtain⟨rfl,rfl,rfl⟩:=hz4;have ads:dS (sY vs1 y6 (f6 x.log.bT 1)++(sY v7 s5 (f6 (afL x).log.bT 1)++[])):=dS.gJ x_26 hF4;refine xH ((sY vs1 y6 (f6 x.log.bT 1)++(sY v7 s5 (f6 (afL x).log.bT 1)++[]))) [1,2,4,6,8,45] [21,22,23,24,25,26,27,28,2001,2004,2006] ?_;refine ao Z<|Y<|aS ?_;rw[List.append_nil (sY v7 s5 (f6 (afL x).log.bT 1))];have afK:dS (sY vs1 y6 (f6 x.log.bT 1)++sY v7 s5 (f6 (afL x).log.bT 1)):=dS.gJ TJ TJ;refine aL<|ao Z<|nA<|aP (.agg [.own _,.own _,U _ _,U _ _,U _ _,U _ _,U _ _,.own _,.own _,.own _,U _ _,.own _,.own _,.own _]) EZ Z<|ae Z<|ab (zLN Tryz.func17 (adN (afL x) 1 hz2 (by omega)) rfl (.cons (acL (vs:=v7) (us:=s5) (h:=mkH (afL x) 1) (s:=(sY vs1 y6 (f6 x.log.bT 1)).length) ki rfl rfl rfl rfl rfl rfl rfl rfl (by show _=(c7 uD s0 _ _).length;rw[k7];exact hv2) (by show _=(c7 E6 m3 _ _).length;rw[k7];exact hu2) acx) (.cons (Reads.jB rfl) .nil))) Z<|ao Z<|Y<|aS<|sL<|ae Z<|ak Z<|bJ 50 false rfl x_61<|Y<|aN Z<|aK<|gT<|aS<|sL<|ae Z<|ae Z<|ak Z<|bJ 53 false rfl x_61 ?_;refine Y<|aN Z<|aK<|gA<|aP (.agg [vL _ _ _,vL _ _ _,U _ _,U _ _,U _ _,U _ _,U _ _,vL _ _ _,vL _ _ _,vL _ _ _,U _ _,vL _ _ _,vL _ _ _,vL _ _ _]) EX Z<|ab (zC [] [] [] Tryz.func13 (Iu x hz) (trivial) Z Z) Z<|ab (zC [] [] [] Tryz.func14 (agy (af3 x hk hz)) (trivial) Z Z) Z ?_;refine xH ((sY vs1 y6 (f6 x.log.bT 1)++sY v7 s5 (f6 (afL x).log.bT 1))) [2,4,6,8,9,56] [21,22,23,24,25,26,27,28,2004,2006] ?_;refine ab (zA 2010 Ig rfl) Z<|ab (zB 2010 NA NB rfl) Z<|Y<|aS<|sL<|aP (.agg [vL _ _ _,vL _ _ _,U _ _,U _ _,U _ _,U _ _,U _ _,vL _ _ _,vL _ _ _,vL _ _ _,U _ _,vL _ _ _,vL _ _ _,vL _ _ _]) EZ Z<|aP (.agg [vL _ _ _,vL _ _ _,U _ _,U _ _,U _ _,U _ _,U _ _,vL _ _ _,vL _ _ _,vL _ _ _,U _ _,vL _ _ _,vL _ _ _,vL _ _ _]) EZ Z<|ab (zL Tryz.func15 (Xq (afL x) hz2) rfl) Z<|ma Z<|bJ 60 false rfl x_61<|Y<|aN Z<|aK<|gA<|ao Z<|nA<|aP (.agg [.own _,.own _,U _ _,U _ _,U _ _,U _ _,U _ _,.own _,.own _,.own _,U _ _,.own _,.own _,.own _]) EZ Z<|ae Z<|ab (zLN Tryz.func17 (adN (afL x) 1 hz2 (by omega)) rfl (.cons (acL (vs:=v7) (us:=s5) (h:=mkH (afL x) 1) (s:=(sY vs1 y6 (f6 x.log.bT 1)).length) ki rfl rfl rfl rfl rfl rfl rfl rfl (by show _=(c7 uD s0 _ _).length;rw[k7];exact hv2) (by show _=(c7 E6 m3 _ _).length;rw[k7];exact hu2) acx) (.cons (Reads.jB rfl) .nil))) Z<|ao Z<|Y ?_;refine aS<|sL<|ae Z<|ak Z<|bJ 65 false rfl x_61<|Y<|aN Z<|aK<|gT<|aS<|sL<|ae Z<|ae Z<|ak Z<|bJ 68 false rfl x_61<|Y<|aN Z<|aK<|gA<|cI Z<|Y<|aR ?_;refine ax ?_ trivial;rfl

theorem dd.CX{α:Type}{sz:Nat}{dg:World->Nat->Nat->List Value->α->Prop}{w:World}{lo hi:Nat}{v:Value}{xs:List α}{p:α->Prop}(h:dd sz dg w lo hi v xs)(hp:∀lo hi cs x,dg w lo hi cs x->p x):∀x∈xs,p x:=by
 obtain⟨a,cap,rfl,c1,c2,ml⟩:=h;intro x hx;rcases ml with hz|⟨b,off,rfl,b1,b2,hel⟩
 ·subst hz;simp at hx
 obtain⟨i,hi,rfl⟩:=List.getElem_of_mem hx;obtain⟨cs,V,_⟩:=hel i hi;exact hp _ _ _ _ V
theorem dd.short{α:Type}{sz:Nat}{dg:World->Nat->Nat->List Value->α->Prop}{w:World}{lo hi:Nat}{v:Value}{xs:List α}(h:dd sz dg w lo hi v xs):xs.length<=9223372036854775807:=by
 obtain⟨a,c,_,k1,k2,_⟩:=h;unfold maxLen at k2;omega
theorem OZ{w:World}{lo hi:Nat}{v:Value}{b:List Int}(h:dd 1 yb w lo hi v b)(hh:hi<=w.heap.size):∃fp,RW w false (nQ b) v fp:=by
 have:=wU (L:=fun _=>False) (ρ:=fun _=>undef) (H:=bx []) (e:=5) h (fun cs x q=>(show cs=dF x from q.1)) (fun _=>rfl) (by intro c u hu;simp[dF]at hu;subst hu;rfl) hh (fun _ _ _=>mh);rw[RV]at this;obtain⟨fp,q,_⟩:=this;exact⟨fp,q⟩
theorem O0{w:World}{lo hi:Nat}{v:Value}{b:List Int}(h:dd 1 yb w lo hi v b):fA b:=fun x hx=>(h.CX fun _ _ _ _ q=>q.2) x hx
theorem Yo{w:World}{lo hi:Nat}(hh:hi<=w.heap.size){cs:List Value}{x:Cell}(h:sF w lo hi cs x):cs.length=1/\∃fp,bP w false [nQ x.bytes] cs fp:=by
 obtain⟨v0,rfl,q,_⟩:=h;obtain⟨fp,k⟩:=OZ q hh;refine⟨rfl,fp++[],?_⟩;rw[bP];exact⟨v0,[],fp,[],rfl,rfl,k,by rw[bP];exact⟨rfl,rfl⟩⟩
theorem Yp{w:World}{lo hi:Nat}(hh:hi<=w.heap.size){cs:List Value}{x:gq}(h:sG w lo hi cs x):cs.length=2/\∃fp,bP w false [.v (.int .i64 x.at_),nQ x.bytes] cs fp:=by
 obtain⟨v0,rfl,q,_⟩:=h;obtain⟨fp,k⟩:=OZ q hh;refine⟨rfl,[]++(fp++[]),?_⟩;rw[bP];refine⟨_,[v0],[],fp++[],rfl,rfl,by rw[RW];exact⟨rfl,rfl,rfl⟩,?_⟩;rw[bP];exact⟨v0,[],fp,[],rfl,rfl,k,by rw[bP];exact⟨rfl,rfl⟩⟩
structure Yq(d:du):Prop where
 hb:qK d
 lc:d.cells.length<=9223372036854775807
 bc:∀c∈d.cells,c.bytes.length<=9223372036854775807
 lw:d.bu.length<=9223372036854775807
 bw:∀c∈d.bu,c.bytes.length<=9223372036854775807
theorem Yr{d:du}{w:World}{v0 v1:Value}(h0:dd 1 sF w 0 w.heap.size v0 d.cells)(V:dd 2 sG w 0 w.heap.size v1 d.bu):Yq d:=
 ⟨⟨fun c hc=>(h0.CX (p:=fun c=>fA c.bytes) fun _ _ _ _ ⟨_,_,q,_⟩=>O0 q) c hc,fun c hc=>(V.CX (p:=fun c=>fA c.bytes) fun _ _ _ _ ⟨_,_,q,_⟩=>O0 q) c hc⟩,h0.short,fun c hc=>(h0.CX (p:=fun c=>c.bytes.length<=9223372036854775807) fun _ _ _ _ ⟨_,_,q,_⟩=>q.short) c hc,V.short,fun c hc=>(V.CX (p:=fun c=>c.bytes.length<=9223372036854775807) fun _ _ _ _ ⟨_,_,q,_⟩=>q.short) c hc⟩
theorem Ys{e:TypeId}{d:List Cell}{w:World}{v:Value}(h:dd 1 sF w 0 w.heap.size v d):RV (fun _=>False) (fun _=>undef) (bx []) w (.p (.ab e 1 (oS d))) v:=by
 obtain⟨fp,q⟩:=NM (e:=e) (row:=fun c:Cell=>[nQ c.bytes]) h (fun cs x k=>Yo (Nat.le_refl _) k) (fun _=>rfl) (Nat.le_refl _);rw[RV];exact⟨fp,q,fun _ _=>mh⟩
theorem Yt{e:TypeId}{d:List gq}{w:World}{v:Value}(h:dd 2 sG w 0 w.heap.size v d):RV (fun _=>False) (fun _=>undef) (bx []) w (.p (.ab e 2 (oT d))) v:=by
 obtain⟨fp,q⟩:=NM (e:=e) (row:=fun c:gq=>[.v (.int .i64 c.at_),nQ c.bytes]) h (fun cs x k=>Yp (Nat.le_refl _) k) (fun _=>rfl) (Nat.le_refl _);rw[RV];exact⟨fp,q,fun _ _=>mh⟩

theorem Yu{x:mm}{w:World}{v0 v1 v2 v3 v4 v5 v6 afN:Value}(h0:dd 1 sF w 0 w.heap.size v0 x.log.bT.cells)(V:dd 2 sG w 0 w.heap.size v1 x.log.bT.bu)(h2:dd 7 wE w 0 w.heap.size v2 x.book.ag)(h3:dd 7 wF w 0 w.heap.size v3 x.book.an)(h4:dd 5 wG w 0 w.heap.size v4 x.book.aq)(h5:dd 3 x8 w 0 w.heap.size v5 x.ia.lines)(h6:dd 7 sH w 0 w.heap.size v6 x.wait)(h7:dd 7 sH w 0 w.heap.size afN x.f9):It x:=
 let k:=Yr h0 V
 ⟨k.lc,k.bc,k.lw,k.bw,h2.short,h3.short,h4.short,h5.short,h6.short,h7.short,k.hb,h2.each fun _ _ _ _ h=>h.2,h3.each fun _ _ _ _ h=>h.2,h4.each fun _ _ _ _ h=>h.2⟩
theorem Yv{x:mm}{w:World}{v0 v1 v2 v3 v4 v5 v6 afN:Value}(h0:dd 1 sF w 0 w.heap.size v0 x.log.bT.cells)(V:dd 2 sG w 0 w.heap.size v1 x.log.bT.bu)(h2:dd 7 wE w 0 w.heap.size v2 x.book.ag)(h3:dd 7 wF w 0 w.heap.size v3 x.book.an)(h4:dd 5 wG w 0 w.heap.size v4 x.book.aq)(h5:dd 3 x8 w 0 w.heap.size v5 x.ia.lines)(h6:dd 7 sH w 0 w.heap.size v6 x.wait)(h7:dd 7 sH w 0 w.heap.size afN x.f9) :
 RV (fun _=>False) (fun _=>undef) (bx []) w (E' x) (.agg #[v0,v1,.int .i64 x.log.next,.int .i64 x.log.dP,.int .i64 x.book.tick,.int .i64 x.book.next,.int .i64 x.book.aA,v2,v3,v4,.int .i64 x.ia.last,v5,v6,afN]):=by
 rw[RV]
 refine⟨[v0,v1,.int .i64 x.log.next,.int .i64 x.log.dP,.int .i64 x.book.tick,.int .i64 x.book.next,.int .i64 x.book.aA,v2,v3,v4,.int .i64 x.ia.last,v5,v6,afN],rfl,?_⟩
 simp only[bf]
 exact⟨_,_,rfl,Ys h0,_,_,rfl,Yt V,_,_,rfl,fX rfl,_,_,rfl,fX rfl,_,_,rfl,fX rfl,_,_,rfl,fX rfl,_,_,rfl,fX rfl,
  _,_,rfl,wU h2 (fun _ _ h=>h.1) (fun _=>rfl) (by intro c u hu;simp[aX]at hu;rcases hu with h|h|h|h|h|h|h<;>(subst h;rfl)) (Nat.le_refl _) (fun _ _ _=>mh),
  _,_,rfl,wU h3 (fun _ _ h=>h.1) (fun _=>rfl) (by intro c u hu;simp[go]at hu;rcases hu with h|h|h|h|h|h|h<;>(subst h;rfl)) (Nat.le_refl _) (fun _ _ _=>mh),
  _,_,rfl,wU h4 (fun _ _ h=>h.1) (fun _=>rfl) (by intro c u hu;simp[iX]at hu;rcases hu with h|h|h|h|h<;>(subst h;rfl)) (Nat.le_refl _) (fun _ _ _=>mh),
  _,_,rfl,fX rfl,
  _,_,rfl,wU h5 (fun _ _ h=>h.1) (fun _=>rfl) (by intro c u hu;simp[ct]at hu;rcases hu with h|h|h<;>(subst h;rfl)) (Nat.le_refl _) (fun _ _ _=>mh),
  _,_,rfl,wU h6 (fun _ _ h=>h.1) (fun _=>rfl) (by intro c u hu;simp[fR]at hu;rcases hu with h|h|h|h|h|h|h<;>(subst h;rfl)) (Nat.le_refl _) (fun _ _ _=>mh),
  _,_,rfl,wU h7 (fun _ _ h=>h.1) (fun _=>rfl) (by intro c u hu;simp[fR]at hu;rcases hu with h|h|h|h|h|h|h<;>(subst h;rfl)) (Nat.le_refl _) (fun _ _ _=>mh),rfl⟩

theorem agA(x:mm)(a0:Option Addr)(c0:Nat)(a1:Option Addr)(c1:Nat)(a2:Option Addr)(c2:Nat)(a3:Option Addr)(c3:Nat)(a4:Option Addr)(c4:Nat)(a5:Option Addr)(c5:Nat)(a6:Option Addr)(af8:Nat)(a7:Option Addr)(af9:Nat)(w:World)
 (h0:dd 1 sF w 0 w.heap.size (.slice a0 x.log.bT.cells.length c0) x.log.bT.cells) (V:dd 2 sG w 0 w.heap.size (.slice a1 x.log.bT.bu.length c1) x.log.bT.bu) (h2:dd 7 wE w 0 w.heap.size (.slice a2 x.book.ag.length c2) x.book.ag) (h3:dd 7 wF w 0 w.heap.size (.slice a3 x.book.an.length c3) x.book.an) (h4:dd 5 wG w 0 w.heap.size (.slice a4 x.book.aq.length c4) x.book.aq) (h5:dd 3 x8 w 0 w.heap.size (.slice a5 x.ia.lines.length c5) x.ia.lines) (h6:dd 7 sH w 0 w.heap.size (.slice a6 x.wait.length af8) x.wait) (h7:dd 7 sH w 0 w.heap.size (.slice a7 x.f9.length af9) x.f9) (wf0:O1 x) :
 Calls Tryz.prog 3 #[.agg #[.slice a0 x.log.bT.cells.length c0,.slice a1 x.log.bT.bu.length c1,.int .i64 x.log.next,.int .i64 x.log.dP,.int .i64 x.book.tick,.int .i64 x.book.next,.int .i64 x.book.aA,.slice a2 x.book.ag.length c2,.slice a3 x.book.an.length c3,.slice a4 x.book.aq.length c4,.int .i64 x.ia.last,.slice a5 x.ia.lines.length c5,.slice a6 x.wait.length af8,.slice a7 x.f9.length af9]] w fun r w'=>r=.returned (.bool true)/\cZ w w':=
 Xx (cs:=[_]) rfl (agz x (Yu h0 V h2 h3 h4 h5 h6 h7)) (by
  simp only[bf];exact⟨_,_,rfl,Yv h0 V h2 h3 h4 h5 h6 h7,rfl⟩)
end Go.Proofs.YtflhgkmhmcfimaaGreat

namespace Go.Proofs.YtflhgkmhmcfimaaGreat.fnExactHubSync
open Go.ChangeShapes Go.WideShapes Go.ChangeAt Go.RowKit Go.Proofs.YtflhgkmhmcfimaaGreat
set_option maxHeartbeats 16000000
set_option maxRecDepth 100000
set_option linter.unusedVariables false
theorem own:ownKnob Tryz.prog.godebug=none:=by kernel_rfl
theorem laid:laidOutB Tryz.prog=true:=by kernel_rfl
theorem readable:∀t∈[38],Tryz.prog.readableRec t=true/\t<Tryz.prog.types.size:=by
 intro t ht;simp only[List.mem_cons,List.not_mem_nil,or_false]at ht;rcases ht with rfl;all_goals exact⟨by kernel_rfl,of_decide_eq_true x_59⟩
theorem lifted(os:Os)(started:os.Started)(H:Type)(enc:TypeId×Value->H) :
 ReturnsInHanded {} Tryz.checked os 3 .any (Rows.fnExactHubSyncSpec.pre6 enc Tryz.prog Tryz.f3 Rows.fnExactHubSyncRow.domain false) (Rows.fnExactHubSyncSpec.post enc Tryz.prog Tryz.f3 false true false false):=by
 refine returnsInHanded_of_change (C:=Tryz.checked) own started x_59 Tryz.func3
  (ChangeSpec.witness6 (enc:=enc) (C:=Tryz.checked) false ⟨#[],#[.agg #[.slice none 0 0,.slice none 0 0,.int .i64 0,.int .i64 0,.int .i64 0,.int .i64 0,.int .i64 0,.slice none 0 0,.slice none 0 0,.slice none 0 0,.int .i64 0,.slice none 0 0,.slice none 0 0,.slice none 0 0]],[]⟩ 8 x_59 x_59 x_59 x_59) ?_
 intro W base args ds gs before O2 hW aby _
 have O3:∀(j:Nat) t v,Tryz.f3.params[j]? = some t->args[j]? = some v->Value.okWide Tryz.prog W .any base t v:=O2
 have O4:=hW
 obtain⟨p,q,O5,hV,rfl,hfz,jU⟩:=hW
 have hA:DataW.TrodAll enc Tryz.prog W 0 (fun _=>true) true Tryz.f3.params.toList args.toList ds p:=O5
 rw[Tryz.params3]at hA O3
 have hB:=hA
 obtain⟨v0,vs0,d0,ds0,p0,q0,pF,rfl,rfl,h0,r0⟩:=trodAll_cons hA
 obtain⟨rfl,rfl,rfl⟩:=trodAll_nil r0
 obtain rfl:args=#[v0]:=by cases args;simp_all
 obtain⟨rfl,rfl⟩:=trodVars_none hV
 obtain⟨oC,rfl,_⟩:=okWide_struct Tryz.underlying38 (O3 0 38 v0 rfl rfl)
 obtain⟨fu0,t0⟩:=h0
 obtain⟨x0,Dy,Dz,O6,O7,O8,O9,O',Pa,e0,Pb,Pc,Pe,Pf,Pg,Ph,Pi,Pj,w0⟩:=Rm t0
 have e0:oC=#[Dy,Dz,.int .i64 x0.log.next,.int .i64 x0.log.dP,.int .i64 x0.book.tick,.int .i64 x0.book.next,.int .i64 x0.book.aA,O6,O7,O8,.int .i64 x0.ia.last,O9,O',Pa]:=Array.ext' (by simpa[Value.cells]using e0)
 subst e0
 obtain⟨Yx,Yy,rfl⟩:∃a c,Dy=Value.slice a x0.log.bT.cells.length c:=let ⟨a,c,h,_⟩:=Pb;⟨a,c,h⟩
 obtain⟨Yz,YA,rfl⟩:∃a c,Dz=Value.slice a x0.log.bT.bu.length c:=let ⟨a,c,h,_⟩:=Pc;⟨a,c,h⟩
 obtain⟨YB,YC,rfl⟩:∃a c,O6=Value.slice a x0.book.ag.length c:=let ⟨a,c,h,_⟩:=Pe;⟨a,c,h⟩
 obtain⟨YD,YE,rfl⟩:∃a c,O7=Value.slice a x0.book.an.length c:=let ⟨a,c,h,_⟩:=Pf;⟨a,c,h⟩
 obtain⟨YF,YG,rfl⟩:∃a c,O8=Value.slice a x0.book.aq.length c:=let ⟨a,c,h,_⟩:=Pg;⟨a,c,h⟩
 obtain⟨YH,YI,rfl⟩:∃a c,O9=Value.slice a x0.ia.lines.length c:=let ⟨a,c,h,_⟩:=Ph;⟨a,c,h⟩
 obtain⟨YJ,YK,rfl⟩:∃a c,O'=Value.slice a x0.wait.length c:=let ⟨a,c,h,_⟩:=Pi;⟨a,c,h⟩
 obtain⟨YL,YM,rfl⟩:∃a c,Pa=Value.slice a x0.f9.length c:=let ⟨a,c,h,_⟩:=Pj;⟨a,c,h⟩
 clear O5 O2
 simp only[List.append_nil]at O4
 refine(agA x0 Yx Yy Yz YA YB YC YD YE YF YG YH YI YJ YK YL YM W Pb Pc Pe Pf Pg Ph Pi Pj w0).mono fun e W' ⟨he,hg⟩=>?_
 subst he
 exact⟨_,rfl,_,_,_,_,_,[],O4,trodAll_mk1 (shut_bool Tryz.underlying4 true),
  Pk laid hg.below (readable) hB,rfl,hg.below.frame _,fun h=>by cases h⟩
theorem YN:(Rows.fnExactHubSyncRow.inPlace==Tryz.pinned.checked.prog.inPlace 3)=true:=by kernel_rfl
theorem YO:(Rows.fnExactHubSyncRow.unfollowed==Tryz.pinned.checked.prog.unfollowed 3)=true:=by kernel_rfl
theorem YP:(Rows.fnExactHubSyncRow.recurses==Tryz.pinned.checked.prog.recurses 3)=true:=by kernel_rfl
theorem YQ:(Rows.fnExactHubSyncRow.named==Tryz.pinned.checked.prog.varsNamed 3)=true:=by kernel_rfl
theorem YR:Tryz.pinned.checked.prog.funcNamed Rows.fnExactHubSyncRow.func=some 3:=by kernel_rfl
theorem closed:joinedFacts Tryz.pinned.checked.prog 3 Tryz.f3 Rows.fnExactHubSyncSpec Rows.fnExactHubSyncRow=true:=by
 unfold joinedFacts;rw[YN,YO,YP,YQ];kernel_rfl
theorem YS:Rows.fnExactHubSyncRow.holds Tryz.pinned (OpenSpec.ofChange Rows.fnExactHubSyncSpec):=
 OpenClaim.holds_of_wide 3 Tryz.f3 rfl rfl rfl rfl rfl rfl rfl ⟨rfl,rfl,rfl,rfl,rfl⟩ rfl rfl rfl rfl rfl YR Tryz.func3 closed
  (of_decide_eq_true x_59) (by unfold Func.isWrapper;first|(rw[if_pos (by decide +kernel)];kernel_rfl)|(rw[if_neg (by decide +kernel)];exact⟨rfl,rfl⟩))
  (fun os started H enc _=>lifted os started H enc)
theorem proved:Rows.FnExactHubSyncSaid:=
 YS
#print axioms proved
end Go.Proofs.YtflhgkmhmcfimaaGreat.fnExactHubSync

