/- FnExactHubCrash is proved: the given statement holds with no condition. Texts joined: E36, EW2, EW4, EW5, EW6, EW7, EW8, E38, EX1, EX2, LdRV, HubRV, LFnExactHubCrash, CFnExactHubCrash. -/
import Derived.Test.YtflhgkmhmcfimaaGreatJHubCrash5
import Derived.Test.YtflhgkmhmcfimaaGreatJHubCrash20
import Derived.Test.YtflhgkmhmcfimaaGreatJHubCrash10
import Derived.Test.YtflhgkmhmcfimaaGreatJHubCrash13
import Derived.Test.YtflhgkmhmcfimaaGreatJHubCrash14
import Derived.Test.YtflhgkmhmcfimaaGreatJHubCrash3
import Derived.Test.YtflhgkmhmcfimaaGreatJHubCrash9
import Derived.Test.YtflhgkmhmcfimaaGreatRows
import Derived.Test.YtflhgkmhmcfimaaGreatKOpn
namespace Go.Proofs.YtflhgkmhmcfimaaGreat
set_option maxRecDepth 100000
open Go.RowKit
set_option linter.unusedSimpArgs false
set_option linter.unusedVariables false
def abO(H K:Nat->AO):Nat->AO:=fun i=>if (K i).here=true then .gone else H i
structure ab3(H K:Nat->AO):Prop where
 ai:∀i,H i=.gone\/∃e sz rows,H i=.ai e sz rows
 sub:∀i,K i=.gone\/K i=H i
section
variable {L:Nat->Prop}{ρ:Nat->Value}{H K:Nat->AO}{w:World}
theorem ab3.lv(h:ab3 H K){b:Nat}(q:live L ρ K b):live L ρ H b:=by
 rcases q with q|⟨i,q1,q2⟩
 ·exact .inl q
 rcases h.sub i with e|e
 ·rw[e]at q1;cases q1
 rw[e]at q1;exact .inr ⟨i,q1,q2⟩
theorem ab3.drop(h:ab3 H K){b:Nat}(q:live (live L ρ K) ρ (abO H K) b):live L ρ H b:=by
 rcases q with q|⟨i,q1,q2⟩
 ·exact h.lv q
 unfold abO at q1;split at q1
 ·cases q1
 exact .inr ⟨i,q1,q2⟩
theorem ab3.lie(h:ab3 H K){fp:Nat->List Nat}(V:∀i,OB L ρ H w (ρ i) (fp i) (H i))(h2:∀i j,i≠j->∀b∈fp i,b ∉ fp j)(h3:∀i,∀b∈fp i,¬L b):vk (live L ρ K) ρ (abO H K) w (fun b=>¬live L ρ K b):=by
 refine⟨fun id=>?_,fun b hb q=>hb (.inl q)⟩;by_cases hk:(K id).here=true
 ·exact⟨[],by unfold abO;rw[if_pos hk];rfl,fun b hb=>by cases hb⟩
 refine⟨fp id,?_,fun b hb q=>?_⟩
 ·have e:abO H K id=H id:=if_neg hk;have ho:=V id;rw[e];rcases h.ai id with q|⟨e',sz,rows,q⟩
  ·rw[q]at ho ⊢;exact ho
  rw[q]at ho ⊢;obtain⟨xs,fr,b1,b2,b3,b4,b5⟩:=ho;exact⟨xs,fr,b1,fun b hb z=>b2 b hb (h.drop z),b3,b4,b5⟩
 rcases q with q|⟨j,q1,q2⟩
 ·exact h3 id b hb q
 have ne:id≠j:=fun z=>hk (z▸q1);rcases h.sub j with z|z
 ·rw[z]at q1;cases q1
 have ho:=V j;rcases h.ai j with y|⟨e',sz,rows,y⟩
 ·rw[z,y]at q1;cases q1
 rw[y]at ho;obtain⟨_,_,_,_,_,b4,_⟩:=ho;exact h2 id j ne b hb (by rw[b4,q2];simp)
end
structure abG(H K:Nat->AO)(x y:AV):Prop where
 to:∀ {L:Nat->Prop} {ρ:Nat->Value} {w:World} {c:Value},vk (live L ρ K) ρ (abO H K) w (fun b=>¬live L ρ K b)->(∀b,¬live L ρ H b->¬live L ρ K b)->RV L ρ H w x c->RV L ρ K w y c
section
variable {H K:Nat->AO}
theorem abG.p(x:PV):abG H K (.p x) (.p x):=.mk fun hl hn h=>by
 rw[RV]at *;obtain⟨fp,V,h2⟩:=h;exact⟨fp,V,fun b hb=>hn b (h2 b hb)⟩
theorem abG.own{id:Nat}(h:K id=H id):abG H K (.own id) (.own id):=.mk fun hl hn hx=>by
 rw[RV]at *;rw[h];exact hx
theorem adb{id:Nat}{y:PV}(h:(K id).here=false)(hs:Still (abO H K) (.own id) (.p y)):abG H K (.own id) (.p y):=.mk fun{L ρ w c} hl hn hx=>by
 have e:abO H K id=H id:=if_neg (by rw[h];simp);have V:RV (live L ρ K) ρ (abO H K) w (.own id) c:=by rw[RV]at *;rw[e];exact hx
 have h2:=hs.to hl V;rw[RV]at *;obtain⟨fp,k1,k2⟩:=h2;exact⟨fp,k1,fun b hb q=>k2 b hb (.inl q)⟩
theorem bf.vA{L:Nat->Prop}{ρ:Nat->Value}{w:World}(hl:vk (live L ρ K) ρ (abO H K) w (fun b=>¬live L ρ K b))(hn:∀b,¬live L ρ H b->¬live L ρ K b):∀ {l m:List AV} {cs:List Value},kf (abG H K) l m->bf L ρ H w l cs->bf L ρ K w m cs
 |_,_,cs,.nil,h=>by rw[bf]at *;exact h
 |_,_,cs,.cons V h2,h=>by
  rw[bf]at *;obtain⟨c,r,rfl,k1,k2⟩:=h;exact⟨c,r,rfl,V.to hl hn k1,bf.vA hl hn h2 k2⟩
theorem abG.agg{l m:List AV}(h:kf (abG H K) l m):abG H K (.agg l) (.agg m):=.mk fun hl hn hx=>by
 rw[RV]at *;obtain⟨cs,rfl,V⟩:=hx;exact⟨cs,rfl,bf.vA hl hn h V⟩
theorem abG.au{l m:List AV}(h:kf (abG H K) l m):abG H K (.au l) (.au m):=.mk fun hl hn hx=>by
 rw[RV]at *;obtain⟨cs,rfl,V⟩:=hx;exact⟨cs,rfl,bf.vA hl hn h V⟩
end
theorem GX.vA{P:Program}{f:FuncId}{args:List AV}{R Z:AV->List (Nat×AO)->Prop}(h:GX P f args [] R)(hR:∀x bd,R x bd->∃y ob2,abG (bx bd) (bx ob2) x y/\ab3 (bx bd) (bx ob2)/\Z y ob2):GX P f args [] Z:=fun L w cs ρ fp V h2 h3 h4 h5=>
 Calls.mono (h L w cs ρ fp V h2 h3 h4 h5) fun e w' ⟨x,bd,q,v,ci,bH,q1,q2,q3,q4,q5,q6⟩=>by
  obtain⟨y,ob2,hy,hs,hz⟩:=hR x bd q;have hn:∀b,¬live L ci (bx bd) b->¬live L ci (bx ob2) b:=fun b k z=>k (hs.lv z);refine⟨y,ob2,hz,v,ci,fun i=>if (bx ob2 i).here=true then bH i else [],q1,q2,hy.to (hs.lie q4 q5 (fun i b hb=>(q6 i b hb).2)) hn q3,fun i=>?_,fun i j ne b hb=>?_,fun i b hb=>?_⟩
  ·by_cases hk:(bx ob2 i).here=true
   ·simp only[hk,if_true];rcases hs.sub i with z|z
    ·rw[z]at hk;cases hk
    rw[z];have ho:=q4 i;rcases hs.ai i with y|⟨e',sz,rows,y⟩
    ·rw[y]at ho ⊢;exact ho
    rw[y]at ho ⊢;obtain⟨xs,fr,b1,b2,b3⟩:=ho;exact⟨xs,fr,b1,fun b hb=>hn b (b2 b hb),b3⟩
   simp only[hk,if_false];rcases hs.sub i with z|z
   ·rw[z];rfl
   rcases hs.ai i with y|⟨e',sz,rows,y⟩
   ·rw[z,y];rfl
   rw[z,y]at hk;exact absurd rfl hk
  ·intro kA;dsimp only at hb kA;split at hb
   ·split at kA
    ·exact q5 i j ne b hb kA
    cases kA
   cases hb
  dsimp only at hb;split at hb
  ·exact q6 i b hb
  cases hb

set_option maxHeartbeats 16000000
set_option maxRecDepth 100000
theorem Tl.eh:∀ {k:List Nat} {b:List AO},(k.all fun i=>Nat.blt i 1000000)=true->Tl (eh .gone k b) []:=fun{k b} h=>⟨fun i=>by
 induction k generalizing b with
 |nil=>rfl
 |cons a k ih=>
  rw[List.all_cons,Bool.and_eq_true]at h;have ha:a<1000000:=Nat.le_of_ble_eq_true h.1;cases b with
  |nil=>rfl
  |cons o b=>
   show (if 1000000+i=a then o else Go.Proofs.YtflhgkmhmcfimaaGreat.eh .gone k b (1000000+i))=.gone;rw[if_neg (by omega)];exact ih h.2,dS.nil⟩
abbrev ack(h:mm):AV:=.agg [.own 1,.own 2,int h.log.next,int h.log.dP,int h.book.tick,int h.book.next,int h.book.aA,.own 3,.own 4,.own 5,int h.ia.last,.own 6,.own 7,.own 8]
abbrev obH(vs us:List Value)(h:mm):List (Nat×AO):=[(1,.ai 195 1 (oR vs)),(2,.ai 192 2 (lW us h.log.bT.bu)),(3,.ai 159 7 (ah aX h.book.ag)),(4,.ai 218 7 (ah go h.book.an)),(5,.ai 220 5 (ah iX h.book.aq)),(6,.ai 167 3 (ah ct h.ia.lines)),(7,.ai 81 7 (ah fR h.wait)),(8,.ai 81 7 (ah fR h.f9))]

def mkB(x:aw)(k:Int):aw:={ x with ag:=acl k x.ag.length,an:=acm (k+7*(x.ag.length:Int)) x.an.length,aq:=acn (k+7*(x.ag.length:Int)+7*(x.an.length:Int)) x.aq.length }
def mkL(x:cH)(k:Int):cH:={ x with lines:=aco k x.lines.length }
def abH(x:aw):Int:=7*(x.ag.length:Int)+7*(x.an.length:Int)+5*(x.aq.length:Int)
def abK(x:cH):Int:=3*(x.lines.length:Int)
def abI(l:List aV):Int:=7*(l.length:Int)
def mkH(h:mm)(k:Int):mm:=⟨⟨f6 h.log.bT k,h.log.next,h.log.dP⟩,mkB h.book (k+abD h.log.bT),mkL h.ia (k+abD h.log.bT+abH h.book),ab' (k+abD h.log.bT+abH h.book+abK h.ia) h.wait.length,ab' (k+abD h.log.bT+abH h.book+abK h.ia+abI h.wait) h.f9.length⟩
def abX(h:mm):Int:=abD h.log.bT+abH h.book+abK h.ia+abI h.wait+abI h.f9
abbrev adL(u3 u4 u5:Value)(x:aw):List (Nat×AO):=[(3,.ai ⟨159,some u3⟩ 7 (ah aX x.ag)),(4,.ai ⟨218,some u4⟩ 7 (ah go x.an)),(5,.ai ⟨220,some u5⟩ 5 (ah iX x.aq))]
abbrev adM(u:Value)(x:cH):List (Nat×AO):=[(6,.ai ⟨167,some u⟩ 3 (ah ct x.lines))]
abbrev ac6(u:List Value)(vs us:List Value)(h:mm):List (Nat×AO):=[(1,.ai ⟨195,some (u.getD 0 undef)⟩ 1 (oR vs)),(2,.ai ⟨192,some (u.getD 1 undef)⟩ 2 (lW us h.log.bT.bu)),(3,.ai ⟨159,some (u.getD 2 undef)⟩ 7 (ah aX h.book.ag)),(4,.ai ⟨218,some (u.getD 3 undef)⟩ 7 (ah go h.book.an)),(5,.ai ⟨220,some (u.getD 4 undef)⟩ 5 (ah iX h.book.aq)),(6,.ai ⟨167,some (u.getD 5 undef)⟩ 3 (ah ct h.ia.lines)),(7,.ai ⟨81,some (u.getD 6 undef)⟩ 7 (ah fR h.wait)),(8,.ai ⟨81,some (u.getD 7 undef)⟩ 7 (ah fR h.f9))]
theorem afd(u3 u4 u5:Value)(x:aw)(k:Int)(hc:x.ag.length<=1048576)(hh:x.an.length<=1048576)(hi:x.aq.length<=1048576)(hk:0<=k/\k<=100000000000):GC Tryz.prog 64 [.agg [int x.tick,int x.next,int x.aA,.own 3,.own 4,.own 5],int k] (adL u3 u4 u5 x) (int (k+abH x)) (adL u3 u4 u5 (mkB x k)):=by
 refine gi 4 Tryz.func64 rfl Tryz.ntmps64 rfl ?_;intro L O w0;refine sL<|ab (zX 2002 Z) Z<|ao Z<|nA<|lf 3 dr Z<|iO eg Z<|ae Z ?_;refine ab (zC [(0,3)] [] [0] Tryz.func146 (afe _ _ _ (by omega) (by omega)) x_50 rfl rfl) Z<|ao Z<|nA<|lf 4 eF Z<|iO fS Z<|ae rfl ?_;refine ab (zC [(0,4)] [] [0] Tryz.func147 (aff _ _ _ (by omega) (by omega)) x_50 rfl rfl) Z<|ao Z<|nA<|lf 5 gn Z<|iO ii Z<|ae rfl ?_;refine ab (zC [(0,5)] [] [0] Tryz.func148 (afg _ _ _ (by omega) (by omega)) x_50 rfl rfl) Z<|lT [1,4,16] [3,4,5,2002] ?_;refine ao Z<|nA<|ae Z<|ao Z<|Y<|aR ?_;skip;refine ax ?_ x_75;exact congrArg (fun n=>some (int n)) (by unfold abH;omega)
theorem afl(u:Value)(x:cH)(k:Int)(hl:x.lines.length<=1048576)(hk:0<=k/\k<=100000000000):GC Tryz.prog 65 [.agg [int x.last,.own 6],int k] (adM u x) (int (k+abK x)) (adM u (mkL x k)):=by
 refine gi 4 Tryz.func65 rfl Tryz.ntmps65 rfl ?_;intro L O w0;refine sL<|ab (zX 2002 Z) Z<|ao Z<|nA<|lf 1 jY Z<|iO gY Z<|ae Z ?_;refine ab (zC [(0,6)] [] [0] Tryz.func149 (afm _ _ _ (by omega) (by omega)) x_50 rfl rfl) Z<|ao Z<|nA<|ae Z<|ao Z<|Y<|aR ?_;skip;refine ax ?_ x_10;exact congrArg (fun n=>some (int n)) (by unfold abK;omega)
theorem afp(u:List Value)(vs us:List Value)(h:mm)(R:List AO)(k:Int)(hv:vs.length=h.log.bT.cells.length)(hu:us.length=h.log.bT.bu.length)(hR:dS R)(hRl:R.length<=3000000)(hz:E9 h)(hk:0<=k/\k<=1000000000):GN Tryz.prog 16 [ack h,int k] (ac6 u vs us h) (sY vs us h.log.bT++R) (fun y l1 F1=>y=int (k+abX h)/\l1=ac6 u vs us (mkH h k)/\F1=sY vs us (f6 h.log.bT k)++R):=by
 have acB:dS (sY vs us h.log.bT++R):=dS.gJ TJ hR;refine GN.intro (rs:=[.tmp 4]) Tryz.func16 rfl Tryz.ntmps16 x_9 x_10 rfl ?_;intro L O w0;refine sL<|ab (zX 2002 Z) Z<|ao Z<|Y<|aS ?_;have hd0:=acs hz.d.m;obtain⟨hd1,hd2⟩:=hd0;have lG:0<=abH h.book/\abH h.book<=20000000:=by unfold abH;have:=hz.lc;have:=hz.lh;have:=hz.li;omega
 have kA:0<=abK h.ia/\abK h.ia<=20000000:=by unfold abK;have:=hz.ll;omega
 have hb3:0<=abI h.wait/\abI h.wait<=20000000:=by unfold abI;have:=hz.lw;omega
 have hb4:0<=abI h.f9/\abI h.f9<=20000000:=by unfold abI;have:=hz.ls;omega
 have hDl:=SD hv hu;have oF:=hz.d.lc;have hlw:=hz.d.lw;refine aL<|lf 0 qL Z<|aP (.agg [.own _,.own _,U _ _,U _ _]) EY Z<|ae Z ?_;refine A1 (A2 (F:=sY vs us h.log.bT++R) [(1,1),(2,2)] [] [1,2] 0 Tryz.func63 (aee (u.getD 0 undef) (u.getD 1 undef) vs us h.log.bT R k hv hu hR hRl hz.d (by omega) h.log.next h.log.dP) ki List.drop_zero List.take_zero (Nat.zero_le _) ((by rw[List.length_append,hDl];omega)) ((fun y l F ⟨_,e2,_⟩=>by subst e2;exact⟨stays.ai rfl,stays.ai (by show (lW us (c7 E6 m3 h.log.bT.bu _)).length=_;rw[K9 (by rw[k7];exact hu),k7,K9 hu]),trivial⟩)) rfl rfl) rfl ?_;rintro _ _ ⟨xz1,oz1,Fz1,fa,hF1,hM1,rfl,rfl⟩;obtain⟨rfl,rfl,rfl⟩:=fa;have E7:dS ([]++(sY vs us (f6 h.log.bT k)++R)):=dS.gJ x_29 hF1;refine ao Z<|Y<|aS ?_;rw[List.nil_append];have hrE:dS (sY vs us (f6 h.log.bT k)++R):=dS.gJ TJ hR;refine aL<|lf 4 Bw Z<|aP (.agg [U _ _,U _ _,U _ _,.own _,.own _,.own _]) cu Z<|ae Z ?_;refine ab (zC [(3,3),(4,4),(5,5)] [] [3,4,5] Tryz.func64 (afd (u.getD 2 undef) (u.getD 3 undef) (u.getD 4 undef) h.book (k+abD h.log.bT) hz.lc hz.lh hz.li (by omega)) (⟨stays.ai (by simp[ah,mkB,c6]),stays.ai (by simp[ah,mkB,c6]),stays.ai (by simp[ah,mkB,c6]),trivial⟩) rfl rfl) Z<|ao Z<|nA<|lf 10 Bx Z<|aP (.agg [U _ _,.own _]) eZ Z<|ae rfl ?_;refine ab (zC [(6,6)] [] [6] Tryz.func65 (afl (u.getD 5 undef) h.ia (k+abD h.log.bT+abH h.book) hz.ll (by omega)) (⟨stays.ai (by simp[ah,mkL,c6]),trivial⟩) rfl rfl) rfl ?_;refine xH ((sY vs us (f6 h.log.bT k)++R)) [1,2,4,16] [1,2,3,4,5,6,7,8,2002] ?_;refine ao Z<|nA<|lf 12 Bz Z<|iO tE Z<|ae Z ?_;refine ab (zC [(0,7)] [] [0] Tryz.func66 (adP (u.getD 6 undef) h.wait (k+abD h.log.bT+abH h.book+abK h.ia) (by have:=hz.lw;omega) (by omega)) x_50 rfl rfl) Z<|ao Z<|nA<|lf 13 By Z<|iO tE Z<|ae rfl ?_;refine ab (zC [(0,8)] [] [0] Tryz.func66 (adP (u.getD 7 undef) h.f9 (k+abD h.log.bT+abH h.book+abK h.ia+abI h.wait) (by have:=hz.ls;omega) (by omega)) x_50 rfl rfl) Z<|ao Z<|nA<|ae Z<|jK 25 (k+abX h) rfl (by unfold abX abI;omega)<|ao Z<|Y<|aR ?_;skip;refine vW (F1:=(sY vs us (f6 h.log.bT k)++R)) (int (k+abX h)) (ac6 u vs us (mkH h k)) ?_ (by rw[List.length_append,SD (d:=(f6 h.log.bT k)) (by show vs.length=(c7 uD s0 h.log.bT.cells k).length;rw[k7];exact hv) (by show us.length=(c7 E6 m3 h.log.bT.bu _).length;rw[k7];exact hu)];show (c7 uD s0 h.log.bT.cells k).length+(c7 E6 m3 h.log.bT.bu _).length+R.length<=_;rw[k7,k7];omega) rfl rfl x_35 ki;exact⟨rfl,rfl,rfl⟩

theorem acp{H:Nat->AO}{id:Nat}{t:TypeId}{pt:Option Value}{sz:Nat}{rows:List (List PV)}(hH:H id=.ai ⟨t,pt⟩ sz rows):Reads H (.own id) (.p (.ab t sz rows)):=Reads.jB (by simp[jB,hH])
theorem acL{H:Nat->AO}{F:List AO}{i1 i2 i3 i4 i5 i6 i7 i8:Nat}{p1 p2 p3 p4 p5 afs aft afu:Option Value}{vs us:List Value}{h:mm}{s:Nat}(hT:Tl H F)(V:H i1=.ai ⟨195,p1⟩ 1 (oR vs))(h2:H i2=.ai ⟨192,p2⟩ 2 (lW us h.log.bT.bu))(h3:H i3=.ai ⟨159,p3⟩ 7 (ah aX h.book.ag))(h4:H i4=.ai ⟨218,p4⟩ 7 (ah go h.book.an))(h5:H i5=.ai ⟨220,p5⟩ 5 (ah iX h.book.aq))(h6:H i6=.ai ⟨167,afs⟩ 3 (ah ct h.ia.lines))(h7:H i7=.ai ⟨81,aft⟩ 7 (ah fR h.wait))(h8:H i8=.ai ⟨81,afu⟩ 7 (ah fR h.f9))
 (hv:vs.length=h.log.bT.cells.length) (hu:us.length=h.log.bT.bu.length) (hF:∀i,i<(sY vs us h.log.bT).length->F[s+i]? = (sY vs us h.log.bT)[i]?):Reads H (.agg [.own i1,.own i2,int h.log.next,int h.log.dP,int h.book.tick,int h.book.next,int h.book.aA,.own i3,.own i4,.own i5,int h.ia.last,.own i6,.own i7,.own i8]) (Bu h):=by
 have l1:(fY vs (l9 h.log.bT.cells)).length=h.log.bT.cells.length:=by rw[Aa (by simpa using hv),List.length_map]
 have l2:(fY us (oQ h.log.bT.bu)).length=h.log.bT.bu.length:=by rw[Aa (by simpa using hu),List.length_map]
 have k1:∀i,i<h.log.bT.cells.length->F[s+i]? = (fY vs (l9 h.log.bT.cells))[i]?:=fun i hi=>by
  rw[hF i x_137];unfold sY;rw[List.getElem?_append_left (by omega)]
 have k2:∀i,i<h.log.bT.bu.length->F[s+h.log.bT.cells.length+i]? = (fY us (oQ h.log.bT.bu))[i]?:=fun i hi=>by
  rw[Nat.add_assoc,hF (h.log.bT.cells.length+i) x_137];unfold sY;rw[List.getElem?_append_right (by omega)];congr 1;omega
 have L:∀n:Int,Reads H (int n) (int n):=fun n=>Reads.jB rfl
 intro L' ρ w c bY hx
 exact Reads.agg (.cons (Reads.own V (SF hT hv k1)) (.cons (Reads.own h2 (SG hT hu k2)) (.cons (L _) (.cons (L _) (.cons (L _) (.cons (L _) (.cons (L _) (.cons (acp h3) (.cons (acp h4) (.cons (acp h5) (.cons (L _) (.cons (acp h6) (.cons (acp h7) (.cons (acp h8) .nil)))))))))))))) bY hx
theorem afx{h:mm}(hz:E9 h):0<=abX h/\abX h<=1000000000:=by
 have V:=acs hz.d.m;have:=hz.lc;have:=hz.lh;have:=hz.li;have:=hz.ll;have:=hz.lw;have:=hz.ls;unfold abX abH abK abI;omega

def afV(h:mm):AV->List (Nat×AO)->List AO->Prop:=fun y l1 F1=>∃vs us:List Value,vs.length=h.log.bT.cells.length/\us.length=h.log.bT.bu.length/\y=ack h/\l1=obH vs us h/\F1=sY vs us h.log.bT
abbrev afW(x:aw):AV:=.agg [int x.tick,int x.next,int x.aA,.own 1,.own 2,.own 3]
theorem agb(x:aw)(hc:x.ag.length<=1048576)(hh:x.an.length<=1048576)(hi:x.aq.length<=1048576):GC Tryz.prog 52 [NW x] [] (afW x) (Jz x):=by
 refine GC.intro (rs:=[.cell 2 50 (some 6)]) Tryz.func52 rfl Tryz.ntmps52 x_9 ⟨rfl,rfl,cu,trivial⟩ ?_;intro L O w0;refine sL<|ab (zX 2001 Z) Z<|ab (zA 2002 mD Z) Z<|nA<|ab (zA 2003 mD Z) Z<|nA<|lf 0 Vz Z<|aj ac Z<|lf 0 mB Z<|ab (zB 2003 ca cb Z) Z<|nA<|lf 1 VA Z<|aj ac Z<|lf 1 mW Z<|ab (zB 2003 ca cb Z) Z<|nA<|lf 2 VB Z ?_;refine aj ac Z<|lf 2 iW Z<|ab (zB 2003 ca cb Z) Z<|lT [1,2,3] [2001,2002,2003] ?_;refine nA<|lf 3 Nk Z<|bo Ng Z<|ab (zC [(2007,1)] [1] [] Tryz.func134 (Wy _ (by assumption)) (trivial) rfl rfl) Z<|lf 3 dr Z<|ab (zB 2003 sM sN rfl) Z<|nA<|lf 4 Nl Z<|bo Nh Z<|ab (zC [(2007,2)] [2] [] Tryz.func135 (Wz _ (by assumption)) (trivial) rfl rfl) Z<|lf 4 eF Z<|ab (zB 2003 tQ tR rfl) Z<|nA<|lf 5 Nm Z<|bo Ni Z<|ab (zC [(2007,3)] [3] [] Tryz.func136 (WA _ (by assumption)) (trivial) rfl rfl) Z<|lf 5 gn Z<|ab (zB 2003 yh yk rfl) Z<|lT [2,3] [1,2,3,2001,2002,2003] ?_;refine nA<|aP (.agg [U _ _,U _ _,U _ _,.own _,.own _,.own _]) cu Z<|ab (zB 2002 eu ew Z) Z<|Y<|aR ?_;refine ax ?_ x_75;rfl
theorem agc(x:cH)(hc:x.lines.length<=1048576):GC Tryz.prog 53 [NX x] [] (.agg [int x.last,.own 1]) [(1,dc x.lines)]:=by
 refine GC.intro (rs:=[.cell 2 53 (some 2)]) Tryz.func53 rfl Tryz.ntmps53 x_9 ⟨rfl,rfl,eZ,trivial⟩ ?_;intro L O w0;refine sL<|ab (zX 2001 rfl) Z<|ab (zA 2002 ld rfl) Z<|nA<|ab (zA 2003 ld rfl) Z<|nA<|lf 0 VD Z<|aj ac Z<|lf 0 pW Z<|ab (zB 2003 ca cb rfl) Z<|nA<|lf 1 Np Z<|bo Nn Z<|ab (zC [(2007,1)] [1] [] Tryz.func137 (Wx _ (by assumption)) (trivial) rfl rfl) Z<|lf 1 jY Z<|ab (zB 2003 z8 z' rfl) Z<|nA ?_;refine aP (.agg [U _ _,.own _]) eZ Z<|ab (zB 2002 cA cB Z) Z<|lT [2] [1,2001,2002,2003] ?_;refine Y<|aR ?_;refine ax ?_ x_10;rfl
theorem agd(h:mm)(hz:E9 h):GN Tryz.prog 13 [E' h] [] ([]) (afV h):=by
 refine GN.intro (rs:=[.cell 2 56 (some 14)]) Tryz.func13 rfl Tryz.ntmps13 x_9 ⟨rfl,rfl,EZ,trivial⟩ rfl ?_;intro L O w0;refine sL<|ab (zX 2001 Z) Z<|ab (zA 2002 Ig Z) Z<|nA<|ab (zA 2003 Ig Z) Z<|nA<|lf 0 Nq Z<|aP (.agg [vL _ _ _,vL _ _ _,U _ _,U _ _]) Nd Z ?_;refine A1 (A2 (F:=[]) [(1,1),(2,2)] [1,2] [] ([]).length Tryz.func51 (agf h.log hz.d) ki List.drop_length List.take_length (Nat.le_refl _) ((by simp)) (fun _ _ _ _=>trivial) rfl rfl) rfl ?_;rintro _ _ ⟨xz1,oz1,Fz1,fa,hF1,hM1,rfl,rfl⟩;obtain⟨vs,us,hv,hu,rfl,rfl,rfl⟩:=fa;have E7:dS ([]++sY vs us h.log.bT):=dS.gJ x_29 hF1;refine lf 0 qL Z<|ab (zB 2003 Nv Nw Z) Z<|nA<|lf 4 Nr Z<|aP (.agg [U _ _,U _ _,U _ _,vL _ _ _,vL _ _ _,vL _ _ _]) Nj Z<|ab (zC [(1,3),(2,4),(3,5)] [3,4,5] [] Tryz.func52 (agb h.book hz.lc hz.lh hz.li) (trivial) Z Z) Z<|lf 4 Bw Z<|ab (zB 2003 eu ew Z) Z<|nA<|lf 10 Ns Z<|aP (.agg [U _ _,vL _ _ _]) No Z<|ab (zC [(1,6)] [6] [] Tryz.func53 (agc h.ia hz.ll) (trivial) Z Z) Z ?_;refine xH (([]++sY vs us h.log.bT)) [1,2,3,14] [1,2,3,4,5,6,2001,2002,2003] ?_;refine lf 10 Bx Z<|ab (zB 2003 cA cB Z) Z<|nA<|lf 12 Nt Z<|bo EW Z<|ab (zC [(2007,7)] [7] [] Tryz.func54 (NN h.wait hz.lw) (trivial) Z Z) Z<|lf 12 Bz Z<|ab (zB 2003 Ny Nz Z) Z<|nA<|lf 13 Nu Z<|bo EW Z<|ab (zC [(2007,8)] [8] [] Tryz.func54 (NN h.f9 hz.ls) (trivial) Z Z) Z<|lf 13 By Z<|ab (zB 2003 Ny Nz Z) Z<|nA<|aP (.agg [.own _,.own _,U _ _,U _ _,U _ _,U _ _,U _ _,.own _,.own _,.own _,U _ _,.own _,.own _,.own _]) EZ Z<|ab (zB 2002 NA NB Z) Z ?_;refine xH (([]++sY vs us h.log.bT)) [2] [1,2,3,4,5,6,7,8,2001,2002,2003] ?_;refine Y<|aR ?_;have abu:dS (sY vs us h.log.bT):=TJ;rw[List.nil_append];refine vW (F1:=(sY vs us h.log.bT)) (ack h) (obH vs us h) ?_ (by rw[SD hv hu];have:=hz.d.lc;have:=hz.d.lw;omega) rfl rfl x_35 ki;exact⟨vs,us,hv,hu,rfl,rfl,rfl⟩

theorem af4{h:mm}(q:zV h=true):ik h.log.bT=true:=by
 unfold zV at q;simp only[Bool.and_eq_true]at q;simp_all

abbrev af7(u:List Value)(vs us:List Value)(h:mm):List (Nat×AO):=[(31,.ai ⟨195,some (u.getD 0 undef)⟩ 1 (oR vs)),(32,.ai ⟨192,some (u.getD 1 undef)⟩ 2 (lW us h.log.bT.bu)),(33,.ai ⟨159,some (u.getD 2 undef)⟩ 7 (ah aX h.book.ag)),(34,.ai ⟨218,some (u.getD 3 undef)⟩ 7 (ah go h.book.an)),(35,.ai ⟨220,some (u.getD 4 undef)⟩ 5 (ah iX h.book.aq)),(36,.ai ⟨167,some (u.getD 5 undef)⟩ 3 (ah ct h.ia.lines)),(37,.ai ⟨81,some (u.getD 6 undef)⟩ 7 (ah fR h.wait)),(38,.ai ⟨81,some (u.getD 7 undef)⟩ 7 (ah fR h.f9))]
abbrev agv(h:mm):AV:=.agg [.own 31,.own 32,int h.log.next,int h.log.dP,int h.book.tick,int h.book.next,int h.book.aA,.own 33,.own 34,.own 35,int h.ia.last,.own 36,.own 37,.own 38]

section
variable {P:Program}{o:Oper}{N:Nat}{τ:Nat->AV}{H:Nat->AO}
theorem ag1{w:World}{e:TypeId}{n g m cap agI agO:Nat}{agJ:Addr}{v:Value}{xs vs:List Value}{agC agF:TypeId}{x y:Operand}{a:Act}(ho:o.op=.call { callee:=.builtin .copy,args:=#[x,y],argTypes:=#[agC,agF] })(jE:w.ownsRow 0 e 1 v n xs)(hv:v=.slice (some ⟨g,0,none⟩) m cap)(hx:a.eval x=v)(hy:a.eval y=.slice (some agJ) agI agO)
 (V:∀u∈vs,u.oneCell'=true) (hu:P.underlying agC=some (.slice e)) (hs:(P.info? e).map (·.size)=some 1) (hn:vs.length=Nat.min agI m) (yV:∀j u,vs[j]? = some u->w.cell? (agJ.add j)=some u) (vz:vs.length<=xs.length) :
 ∃w',(execOp a.eval o).run P w=.ok (.value (goInt vs.length)) w'/\w.grownBy w' (some g)/\(∀b o',(some g=some b\/w.heap.size<=b)->b<w'.heap.size->w'.frozen? ⟨b,o',none⟩=false)/\w'.ownsRow 0 e 1 v n (vs++xs.drop vs.length):=by
 subst hv
 rcases jE.2 with⟨q,_⟩|⟨g',uh,cur,q,_,hg,hnc,bC,pI,qO⟩
 ·cases q
 injection q with q1 q2 q3
 injection q1 with q1
 injection q1 with q1
 subst q1 q2 q3
 have uc:xs.length<=cur.size:=by rw[jE.1,pI];exact Nat.mul_le_mul_right _ hnc
 have dM:=run_copy_row (P:=P) w agC agF o.type e g 0 m cap agJ agI agO cur e vs hu hs hg hn yV (by omega) V
 have Ei:g<w.heap.size:=(Array.getElem?_eq_some_iff.1 hg).1
 refine⟨w.setRow g (cur.toList.take 0++vs++cur.toList.drop (0+vs.length)).toArray,?_,⟨rfl,rfl,rfl,by simp,fun b hb bO=>setRow_other w g b _ (fun e=>bO (by rw[e]))⟩,fun b o' hb eI=>?_,?_⟩
 ·simp[execOp,ho,resolve,invoke,builtin,hx,hy,dM]
 ·have te:b=g:=by
   rcases hb with hb|hb
   ·injection hb with hb;exact hb.symm
   rw[setRow_size]at eI;omega
  subst te
  simp[World.frozen?,setRow_heap w b cur _ e _ hg]
 have T9:xs=cur.toList.take (m*1):=qO.symm
 have hms:xs.length=m*1:=jE.1
 refine⟨?_,.inr ⟨g,cap,_,rfl,Nat.zero_le _,setRow_heap w g cur _ e _ hg,hnc,bC,?_,?_⟩⟩
 ·simp only[List.length_append,List.length_drop];omega
 ·rw[<-pI];simp only[List.size_toArray,List.length_append,List.length_take,List.length_drop,Array.length_toList];omega
 rw[T9]
 apply List.ext_getElem?
 intro j
 simp only[List.getElem?_take,List.getElem?_append,List.length_append,List.length_take,List.getElem?_drop,Array.length_toList,List.take_zero,List.nil_append,Nat.zero_add]
 have:(m*1)<=cur.size:=by omega
 split<;>split<;>(try split)<;>(try split)<;>(try split)<;>first|rfl|omega|(congr 1;omega)|skip
 all_goals (try (split<;>first|rfl|omega|(congr 1;omega)))
theorem ag2(id:Nat){agC agF:TypeId}{e:ga}{x y:Operand}{rows o5:List (List PV)}(ho:o.op=.call { callee:=.builtin .copy,args:=#[x,y],argTypes:=#[agC,agF] })(hd:∀s,o.dst=some s->s<N)(hu:P.underlying agC=some (.slice e.ty))(hs:(P.info? e.ty).map (·.size)=some 1)(hx:ev τ x=.own id)(hH:H id=.ai e 1 rows)(yV:Src τ H y 1 o5)(h0:0<o5.length)(hle:o5.length<=rows.length) :
 St P o N τ H [id] (mb τ o.dst (int o5.length)) (aH H id (.ai e 1 (o5++rows.drop o5.length))):=
 Mm (P:=P) (o:=o) (N:=N) (τ:=τ) (H:=H) id (int o5.length) (.ai e 1 (o5++rows.drop o5.length)) [id] hd (fun{L O w0 ρ fp a w} hr=>by
  have hv:=hr.ev x;rw[hx,RV]at hv;have hvx:=hv.2 x_131;have bY:=hr.ob id;rw[hH]at bY;obtain⟨xs,fr,b1,b2,b3,b4,b5⟩:=bY;obtain⟨a2,ahi,news,nl,s1,s2,s3,s4⟩:=yV.run hr;have tN:=s3.length;rw[Nat.mul_one]at tN;have uc:=b1.length;rw[Nat.mul_one]at uc;rcases s2 with s2|⟨b,off,rfl,s2⟩
  ·omega
  rcases b3.2 with⟨q,q2⟩|⟨g,cap,cur,q,q3⟩
  ·omega
  have hm:=q;obtain⟨w',r1,r2,r3,r4⟩:=ag1 (P:=P) (vs:=news) ho b3 q hvx s1 (s3.uo) hu hs (by rw[tN];exact(Nat.min_eq_left hle).symm) (fun j u hj=>by rw[show (⟨b,off,none⟩:Addr).add j=⟨b,off+j,none⟩ by unfold Addr.add;split<;>simp_all];exact s2 j u hj) (by omega);rw[tN]at r1 r4;refine⟨w',some g,goInt o5.length,_,r1,.inl rfl,r2,fun b hb=>⟨by simp,by rw[hH];rfl,by rw[q,<-hb];rfl⟩,r3,⟨by rw[hH];rfl,by rw[hH];simp[AO.len];omega,by rw[hH];rfl⟩,fun E=>⟨?_,fX rfl⟩⟩;obtain⟨g2,t3,t4⟩:=b1.drop o5.length;rw[Nat.mul_one]at t3;have nW:=s3.append t3;have agP:∀b∈nl++g2,¬live L ρ H b:=fun b hb=>by
   rcases List.mem_append.1 hb with q|q
   ·exact s4 b q
   exact b2 b (t4 q)
  refine⟨_,_,bI.same _ nW (fun b hb eI=>(E.block b eI (agP b hb)).1),fun b hb=>(E.block b (bI.lt _ nW b hb) (agP b hb)).2,?_,rfl,b5⟩;rw[show (o5++rows.drop o5.length).length=rows.length by simp;omega];exact r4)
end

theorem ag3(n lo hi:Int):GC Tryz.prog 156 [int n,int lo,int hi] [] (int (u0 n lo hi)) []:=by
 refine gi 6 Tryz.func156 rfl Tryz.ntmps156 rfl ?_;intro L O w0;refine sL<|ao Z<|Y<|aS<|aB<|sL<|ae Z<|ae Z<|ak Z<|bv Z<|Y ?_;refine AW.cond rfl ?_ ?_
 ·intro V;refine sL<|ae Z<|ao Z<|Y<|aR<|rB<|rT ?_;refine ax ?_ trivial;refine congrArg (fun n=>some (int n)) ?_;unfold u0;simp_all<;>(intros;omega)
 intro V;refine sL<|ae Z<|ae Z<|ak Z<|bv Z<|Y ?_;refine AW.cond rfl ?_ ?_
 ·intro h2;refine sL<|ae Z<|ao Z<|Y<|aR<|rB<|rT ?_;refine ax ?_ trivial;refine congrArg (fun n=>some (int n)) ?_;unfold u0;simp_all<;>(intros;omega)
 intro h2;refine aK<|gB<|gA<|ae Z<|ao Z<|Y<|aR ?_;refine ax ?_ trivial;refine congrArg (fun n=>some (int n)) ?_;unfold u0;simp_all<;>(intros;omega)
theorem ag4{H:Nat->AO}{m:Nat}{u:Value}{t:TypeId}{sz:Nat}{rows:List (List PV)}(hH:H m=.ai ⟨t,some u⟩ sz rows):Reads H (.p (.v u)) (.p (.ab t sz rows)):=fun{L ρ w c} bY hx=>by
 have hc:=hx.gd;obtain⟨f,ho⟩:=bY m;rw[hH]at ho;obtain⟨ahj,cc,e⟩:=aao ho;obtain⟨xs,fr,b1,b2,b3,b4,b5⟩:=ho;have hu:=b5 u rfl;exact acp hH bY (by rw[RV];exact⟨by rw[hc,<-hu,e];rfl,fun _=>by rw[hc,hu]⟩)
theorem ag5{F:List AO}{j:Nat}{u:Value}{b:List Int}(hF:dS F)(hj:F[j]? = some (qX u b))(hl:b.length<=2000000)(hM:F.length<=9000000) :
 GN Tryz.prog 157 [.agg [.p (.v u)]] [] F fun y l F1=>y=.own 1/\l=[(1,iT (yP b))]/\F1=F:=
 (aeg ((Zx b hl).toN rfl) (.cons (Reads.agg (.cons (ag4 (m:=1000000+j) (by rw[uJ,hj];rfl)) .nil)) .nil) hF rfl (fun x l1 F1 ⟨e1,e2,e3⟩=>by
   subst e1 e2 e3;refine⟨rfl,fun id hid=>?_,fun p hp=>?_,(fun o ho=>by cases ho),by simpa using(by omega:F.length<=10000000)⟩
   ·simp[s7]at hid;subst hid;rfl
   ·rw[List.mem_singleton.1 hp];exact yg)).mono fun y ob ⟨l1,F1,q1,q2,q3,q4,l2,F2,⟨e1,e2,e3⟩,e4,e5⟩=>by
   subst e1 e2 e3 e4 e5;exact⟨_,_,q1,q2,q3,q4,rfl,by simp,by simp⟩
theorem szA{P:Program}{t:TypeId}{n:Nat}(h:(P.info? t).isSome=true)(h2:P.cellsOf t=n):(P.info? t).map (·.size)=some n:=by
 unfold Program.cellsOf at h2;cases q:P.info? t with
 |none=>rw[q]at h;cases h
 |some i=>rw[q]at h2;exact congrArg some h2
theorem ag6{vs:List Value}{cs:List Cell}{i:Nat}(h:vs.length=cs.length)(hi:i<cs.length):(fY vs (l9 cs))[i]? = some (qX (vs[i]'(by omega)) cs[i].bytes):=by
 unfold fY l9;rw[List.getElem?_zipWith,List.getElem?_map,List.getElem?_eq_getElem hi,List.getElem?_eq_getElem (by omega)];rfl
theorem ag7{old new:List Int}{m:Nat}(h2:new.length=128)(hm:m<=128):((ah dF new).take m).drop 0++(ah dF (yP old)).drop (((ah dF new).take m).drop 0).length=ah dF (abL old new m):=by
 have e:(((ah dF new).take m).drop 0).length=m:=by rw[List.drop_zero,List.length_take,ap];omega
 rw[e,List.drop_zero];unfold abL ah;rw[List.map_append,List.map_take,List.map_drop]
theorem ag8{vA:List Int}{k:Nat}{cs:List Cell}{w:gq}(h:acv vA k≠0)(hc:w.at_.toNat<cs.length):ab8 vA cs k w=cs.set w.at_.toNat ⟨abL (cs[w.at_.toNat]).bytes w.bytes (acv vA k)⟩:=by
 unfold ab8;rw[if_neg h,List.getElem?_eq_getElem hc];rfl
theorem ag9{vA:List Int}{k:Nat}(h:k<vA.length):u0 vA[k] 0 128=(acv vA k:Int):=by
 unfold acv u0;rw[List.getElem?_eq_getElem h];show _=(((min (max vA[k] 0) 128).toNat:Nat):Int);split<;>(try split)<;>omega
theorem ag'{vA:List Int}{k:Nat}(h:¬k<vA.length):(0:Int)=(acv vA k:Int):=by
 unfold acv;rw[List.getElem?_eq_none (by omega)];rfl
theorem agK(vA:List Int)(k:Nat):acv vA k<=128:=by unfold acv;omega
theorem agQ{vs:List Value}{cs:List Cell}{i:Nat}{u:Value}{b:List Int}(h:vs.length=cs.length):(fY vs (l9 cs)).set i (qX u b)=fY (vs.set i u) (l9 (cs.set i ⟨b⟩)):=by
 unfold l9;rw[List.map_set];exact(aeC (by simpa using h)).symm
theorem aha(d:du)(vA:List Int)(hd:ik d=true):GN Tryz.prog 72 [mt d,inV vA] [] ([]) (La (acU d vA)):=by
 refine GN.intro (rs:=[.cell 4 43 (some 2)]) Tryz.func72 rfl Tryz.ntmps72 x_9 x_136 rfl ?_;intro L O w0;refine sL<|ab (zX 2002 Z) Z<|ab (zA 2004 Du Z) Z<|Y<|aS<|aS ?_;have gR:=(wL hd).1;refine aL<|aP (.agg [vL _ _ _,vL _ _ _]) mE Z<|ab (zC [] [] [] Tryz.func91 (J' d) (trivial) Z Z) Z<|bJ 11 true Z (hd)<|ma Z<|Y<|aN Z<|aK<|gA<|aP (.agg [vL _ _ _,vL _ _ _]) mE Z ?_;refine A1 (A2 (F:=[]) [(1,1),(2,2)] [1,2] [] ([]).length Tryz.func155 (aev d (acF hd)) ki List.drop_length List.take_length (Nat.le_refl _) (by first|(simp;done)|(simp[Aa, *];omega)) (fun _ _ _ _=>trivial) rfl rfl) rfl ?_;rintro _ _ ⟨xz1,oz1,Fz1,fa,hF1,hM1,rfl,rfl⟩;obtain⟨vs,gl,rfl,rfl,rfl⟩:=fa;have E7:dS ([]++fY vs (l9 d.cells)):=dS.gJ x_29 hF1;refine ab (zA 2005 Du Z) Z<|ab (zB 2005 Dv Dw Z) Z<|Y<|aS<|aS ?_;rw[List.nil_append];have abs:dS (fY vs (l9 d.cells)):=Ap;refine aL<|lf 1 ru Z<|iO sk Z<|ba vT Z ?_;refine dC 18 (int (d.bu.length:Int)) (congrArg (fun n:Nat=>int (n:Int)) (pH _)) ?_;refine ae Z<|Y<|aB ?_;refine E8 (D:=Nat×List Value×List Cell) [(1,vL _ _ _),(4,.ptr 2004 _ 0),(5,.ptr 2005 _ 0),(17,.own _),(18,U _ _)] [(2,.ai _ _ _),(2002,.box _ _ [vL _ _ _,vL _ _ _]),(2004,.box _ _ [vV _,vV _]),(2005,.box _ _ [.own _,.own _])] (fun a=>[(19,int (a.1:Int))]) (fun a=>[(1,.ai 195 1 (oR a.2.1))]) (fun a=>fY a.2.1 (l9 a.2.2)) (fun a=>a.1<=d.bu.length/\a.2.2.length=d.cells.length/\a.2.2.all lL=true/\a.2.1.length=a.2.2.length/\abP vA (d.bu.drop a.1) a.1 a.2.2=abP vA d.bu 0 d.cells) (fun a=>d.bu.length-a.1) ((0,vs,d.cells)) (⟨Nat.zero_le _,rfl,(wL hd).2.1,gl,rfl⟩) x_10 x_10 x_51 x_59 ki ?_;intro ⟨k,vs,cs⟩ hI;clear gl;obtain⟨eN,qH,hco,gl,pJ⟩:=hI;replace eN:k<=d.bu.length:=eN;replace qH:cs.length=d.cells.length:=qH;replace hco:cs.all lL=true:=hco;replace gl:vs.length=cs.length:=gl;replace pJ:abP vA (d.bu.drop k) k cs=abP vA d.bu 0 d.cells:=pJ;have ke:dS (fY vs (l9 cs)):=Ap;have jC:(fY vs (l9 cs)).length=cs.length:=by rw[Aa (by simpa using gl),List.length_map]
 refine sL<|ak Z<|Y<|aS ?_;refine AW.cond rfl ?_ ?_
 ·intro V;refine aK<|gT<|aS<|aB<|aS ?_;have hk:k<d.bu.length:=by have h:=V;simp only[decide_eq_true_eq]at h;omega
  have MQ:=acW hd hk;have abV:d.bu[k].at_.toNat<cs.length:=by omega
  have vX:=Jk hd hk;have agR:=agK vA k;refine aL<|ae Z<|lq (rj k uz rfl (by rw[pH];exact hk))<|lq (rd (x:=.agg [U _ _,vL _ _ _]) (dT rfl AY rfl rfl rfl (td hk) rfl) rfl)<|ab (zA 2007 CA rfl) rfl ?_;refine xH (fY vs (l9 cs)) [1,4,5,7,17,18,19,21,23] [1,2,2002,2004,2005,2007] ?_;refine ao Z<|ab (zB 2007 E0 E1 Z) Z<|nA<|ao Z<|Y ?_;refine ahb (D:=Unit) [(1,vL _ _ _),(4,.ptr 2004 _ 0),(5,.ptr 2005 _ 0),(7,.ptr 2007 _ 0),(17,.own _),(18,U _ _),(19,U _ _)] [(1,.ai _ _ _),(2,.ai _ _ _),(2002,.box _ _ [vL _ _ _,vL _ _ _]),(2004,.box _ _ [vV _,vV _]),(2005,.box _ _ [.own _,.own _]),(2007,.box _ _ [U _ _,vL _ _ _])] (fun jd=>[(8,int ((acv vA k):Int))]) (fun jd=>[]) (fun jd=>fY vs (l9 cs)) (fun jd=>True) ⟨rfl,rfl,rfl,rfl,rfl,rfl,rfl,trivial⟩ ⟨rfl,rfl,rfl,rfl,rfl,rfl,trivial⟩ ?_ ?_
  ·refine sL<|ae Z<|bm Z<|ba x4 Z<|ak Z<|Y ?_;refine AW.cond rfl ?_ ?_
   ·intro h2;have uG:k<vA.length:=by have h:=h2;simp only[ap,decide_eq_true_eq]at h;omega
    refine aL<|bm Z<|ae Z<|li k iU Z (bS uG)<|oy ac Z<|ab (zL Tryz.func156 (ag3 vA[k] 0 128) Z) Z<|ao Z<|Y ?_;refine⟨(),trivial,⟨(Eq.trans (b:=int _) rfl (congrArg int (ag9 uG))),trivial⟩,trivial,⟨rfl,rfl,rfl,rfl,rfl,rfl,rfl,trivial⟩,⟨rfl,rfl,rfl,rfl,rfl,rfl,trivial⟩,ki⟩
   intro h2;refine aK<|gT ?_;refine⟨(),trivial,⟨(Eq.trans (b:=int _) rfl (congrArg int (ag' (by have h:=h2;simp only[ap,decide_eq_false_iff_not]at h;omega)))),trivial⟩,trivial,⟨rfl,rfl,rfl,rfl,rfl,rfl,rfl,trivial⟩,⟨rfl,rfl,rfl,rfl,rfl,rfl,trivial⟩,ki⟩
  intro jd hJ;refine sL<|ae Z<|ak Z<|Y ?_;refine AW.cond rfl ?_ ?_
  ·intro h3;refine aS ?_;have bO:(acv vA k)≠0:=by have h:=h3;simp only[gt_iff_lt,decide_eq_true_eq]at h;omega
   have TP:=adA (ac2 hco abV);have hold:=aeV (ac2 hco abV);have hmx:=gR;refine aL<|lf 0 n9 Z<|iO oB Z<|lf 0 xG Z<|aj ac Z<|lq (rd (x:=.ptr 1 _ 0) (pu (i:=d.bu[k].at_.toNat) rfl xE rfl rfl rfl ?hn1 (by rw[Ao,gl];exact abV)) rfl) ?_;case hn1=>exact(Int.toNat_of_nonneg MQ.1).symm
   refine lq (rd (x:=.agg [vV _]) (dT rfl zn rfl rfl rfl (TH (by rw[gl];exact abV)) rfl) rfl) ?_;refine A1 (A2 (F:=fY vs (l9 cs)) [(1,2041)] [2041] [] 0 Tryz.func157 (ag5 (u:=(vs[d.bu[k].at_.toNat]'(by rw[gl];exact abV))) Ap (ag6 gl abV) (Nat.le_trans hold (by decide)) (by rw[jC];omega)) ki List.drop_zero List.take_zero (Nat.zero_le _) (by rw[jC];omega) (fun _ _ _ _=>trivial) rfl rfl) rfl ?_;rintro _ _ ⟨xz2,oz2,Fz2,hz2,hF2,hM2,rfl,rfl⟩;obtain⟨rfl,rfl,rfl⟩:=hz2;have abt:dS ([]++fY vs (l9 cs)):=dS.gJ x_29 hF2;refine bD Z<|nA<|bW Z<|lf 1 zm Z<|bo kb Z<|ae Z ?_;refine lq (rd (x:=vL _ _ _) (p6 (l:=0) (h:=(acv vA k)) rfl fh rfl rfl ⟨_,rfl⟩ (Nat.zero_le _) (by rw[ap,vX];exact agR)) rfl)<|ab (ag2 2041 rfl (by intro s hs;cases hs;decide) (wZ fh).1 (szA Vt Vs) rfl rfl (Src.p rfl) (by rw[List.drop_zero,List.length_take,ap];omega) (by rw[List.drop_zero,List.length_take,ap,ap];omega)) rfl ?_;refine xH (([]++fY vs (l9 cs))) [1,4,5,7,9,17,18,19] [1,2,2002,2004,2005,2007,2041] ?_;refine Y ?_;rw[List.nil_append];refine AW.obj 2041 (iT (abL cs[d.bu[k].at_.toNat].bytes d.bu[k].bytes (acv vA k))) (congrArg (AO.ai 5 1) (ag7 vX agR)) ?_;refine mi ((fY vs (l9 cs))) [1,4,5,7,9,17,18,19] [1,2,2002,2004,2005,2007,2041] ?_;refine AW.mU 2041 rfl ?_;intro u1;refine mi ((fY vs (l9 cs))) [1,4,5,7,9,17,18,19] [1,2,2002,2004,2005,2007,2041] ?_;refine Oz 2041 rfl rfl Ap ?_;have sc:dS (fY vs (l9 cs)++[qX u1 (abL cs[d.bu[k].at_.toNat].bytes d.bu[k].bytes (acv vA k))]):=fun o ho=>(List.mem_append.1 ho).elim (Ap o) (fun q=>by rw[List.mem_singleton.1 q];rfl);refine aL<|lf 0 n9 Z<|iO oB Z<|lf 0 xG Z<|aj ac Z<|lmV Z<|lq (rd (x:=.ptr 1 _ 0) (pu (i:=d.bu[k].at_.toNat) rfl xE rfl rfl rfl ?hn2 (by rw[Ao,gl];exact abV)) rfl) ?_;case hn2=>exact(Int.toNat_of_nonneg MQ.1).symm
   refine lf 0 uB Z<|ab (zQ 1 [.v u1] Ih Ii rfl (TH (by rw[gl];exact abV))) Z<|lN<|gB<|gT ?_;refine mi ((fY vs (l9 cs)++[qX u1 (abL cs[d.bu[k].at_.toNat].bytes d.bu[k].bytes (acv vA k))])) [1,4,5,17,18,19] [1,2,2002,2004,2005,2007] ?_;refine AW.acX d.bu[k].at_.toNat rfl sc (by rw[jC];exact abV) ?_;have vD:dS ((fY vs (l9 cs)).set d.bu[k].at_.toNat (qX u1 (abL cs[d.bu[k].at_.toNat].bytes d.bu[k].bytes (acv vA k)))):=by rw[agQ gl];exact Ap
   refine aL<|bg Z<|ae Z<|Y ?_;refine⟨(k+1,vs.set d.bu[k].at_.toNat u1,cs.set d.bu[k].at_.toNat ⟨(abL cs[d.bu[k].at_.toNat].bytes d.bu[k].bytes (acv vA k))⟩),⟨hk,by rw[List.length_set];exact qH,acC hco (ac1 TP (Jk hd hk) (agK vA k)),by rw[List.length_set,List.length_set];exact gl,by rw[<-pJ,acZ hk,ag8 bO abV]⟩,by show d.bu.length-(k+1)<d.bu.length-k;omega,x_11,⟨(congrArg (AO.ai 195 1) aeD),trivial⟩,x_51,x_59,(by rw[<-agQ gl];exact ki)⟩
  intro h3;refine aK<|gB<|gT ?_;have hze:(acv vA k)=0:=by have h:=h3;simp only[gt_iff_lt,decide_eq_false_iff_not]at h;omega
  refine aL<|bg Z<|ae Z<|Y ?_;refine⟨(k+1,vs,cs),⟨hk,qH,hco,gl,by rw[<-pJ,acZ hk];unfold ab8;rw[if_pos hze]⟩,by show d.bu.length-(k+1)<d.bu.length-k;omega,x_11,x_10,x_51,x_59,ki⟩
 intro V;refine aE<|eT<|eT<|eB<|gT<|aS ?_;have dZ:k=d.bu.length:=by have h:=V;simp only[decide_eq_false_iff_not]at h;omega
 have aeX:cs=abP vA d.bu 0 d.cells:=by rw[<-pJ,dZ,List.drop_length];rfl
 refine aL<|lf 1 ru Z<|ab (zB 2005 VH VI Z) Z<|Y<|aS ?_;refine mi (fY vs (l9 cs)) [4,5] [1,2002,2004,2005] ?_;refine AW.pi 2 2005 1 192 2 rfl (by decide) rfl ?_;rw[aeE];have abu:dS (sY vs [] ⟨cs,[]⟩):=TJ;refine aL<|aP (.agg [.own _,.own _]) mE Z<|ab (zB 2004 Dv Dw Z) Z<|Y<|aR ?_;rw[adB hd,<-aeX];refine vW (F1:=(sY vs [] ⟨cs,[]⟩)) (Gn) (DS vs [] ⟨cs,[]⟩) ?_ (by unfold sY;rw[List.length_append,jC];simp[fY];omega) rfl rfl x_13 ki;exact⟨vs,[],gl,rfl,rfl,rfl,rfl⟩

def crD(h:mm)(vA:List Int):du:=if zV h=true then acU h.log.bT vA else ⟨[],[]⟩
theorem agL{h:mm}{vA:List Int}(q:zV h=false):crD h vA=⟨[],[]⟩:=if_neg (by simp[q])
theorem agM{h:mm}{vA:List Int}(q:zV h=true):crD h vA=acU h.log.bT vA:=if_pos q
theorem agS{vA:List Int}:∀(ws:List gq) (k:Nat) (cs:List Cell),(∀w∈ws,w.bytes.length=128)->cs.all lL=true->(abP vA ws k cs).all lL=true/\(abP vA ws k cs).length=cs.length
 |[],_,cs,_,h=>⟨h,rfl⟩
 |w::ws,k,cs,V,h=>by
  have hw:=V w (by simp);have step:(ab8 vA cs k w).all lL=true/\(ab8 vA cs k w).length=cs.length:=by
   unfold ab8;split
   ·exact⟨h,rfl⟩
   have ho:∀c,c=(cs[w.at_.toNat]?).getD ⟨[]⟩->lL c=true:=fun c hc=>by
    cases e:cs[w.at_.toNat]? with
    |none=>rw[e]at hc;subst hc;rfl
    |some x=>rw[e]at hc;subst hc;exact List.all_eq_true.1 h _ (List.mem_of_getElem? e)
   exact⟨acC h (ac1 (adA (ho _ rfl)) hw (agK vA k)),List.length_set ..⟩
  have ih:=agS (vA:=vA) ws (k+1) _ (fun x hx=>V x (by simp[hx])) step.1;exact⟨ih.1,ih.2.trans step.2⟩
theorem agT{d:du}{vA:List Int}(h:ik d=true):ik (acU d vA)=true:=by
 have V:=wL h;obtain⟨i1,i2⟩:=agS (vA:=vA) d.bu 0 d.cells (fun w hw=>by
  obtain⟨j,hj,rfl⟩:=List.getElem_of_mem hw;exact Jk h hj) V.2.1
 rw[adB h];exact PB ⟨by show 1<=(abP ..).length;omega,by show (abP ..).length<=600;omega,Nat.zero_le _⟩ i1 rfl
theorem agU(h:mm)(vA:List Int):vU (crD h vA):=by
 cases q:zV h
 ·rw[agL q];exact adq
 rw[agM q];exact aeo (agT (af4 q))
theorem agV(h:mm)(vA:List Int)(hk:It h)(hz:E9 h):GN Tryz.prog 20 [Bu h,inV vA] [] ([]) (La (crD h vA)):=by
 refine GN.intro (rs:=[.cell 4 43 (some 2)]) Tryz.func20 rfl Tryz.ntmps20 x_9 x_136 rfl ?_;intro L O w0;refine sL<|ab (zX 2002 Z) Z<|ab (zA 2004 Du Z) Z<|Y<|aS<|sL<|aP (.agg [vL _ _ _,vL _ _ _,U _ _,U _ _,U _ _,U _ _,U _ _,vL _ _ _,vL _ _ _,vL _ _ _,U _ _,vL _ _ _,vL _ _ _,vL _ _ _]) EZ Z ?_;refine ab (zC [] [] [] Tryz.func31 (QS h hk.db ⟨hk.wc,hk.wh,hk.wi,hz.lc⟩ ⟨hz.lc,hz.lh,hz.li⟩ hz.ll hz.lw hz.ls) (trivial) rfl rfl) Z<|bX Z<|Y ?_;refine AW.cond rfl ?_ ?_
 ·intro V;refine sL<|lq (rd (x:=.agg [vV _,vV _]) (cP Z adU Z Z Z) Z)<|ab (zB 2004 Dv Dw Z) Z<|Y ?_;refine AW.pi 1 2004 0 195 1 rfl (by decide) rfl ?_;refine AW.pi 2 2004 1 192 2 rfl (by decide) rfl ?_;refine aR<|rT ?_;have hq:zV h=false:=by have h:=V;simpa using h
  rw[agL hq];refine vW (F1:=[]) (Gn) (DS [] [] ⟨[],[]⟩) ?_ (by decide) rfl rfl x_13 ki;exact⟨[],[],rfl,rfl,rfl,rfl,rfl⟩
 intro V;refine aK<|gT<|aS ?_;have hq:zV h=true:=by have h:=V;simpa using h
 refine aL<|lf 0 qL Z<|lf 0 Bv Z<|aP (.agg [vL _ _ _,vL _ _ _]) mE Z<|bm Z ?_;refine A1 (A2 (F:=[]) [(1,1),(2,2)] [1,2] [] ([]).length Tryz.func72 (aha h.log.bT vA (af4 hq)) ki List.drop_length List.take_length (Nat.le_refl _) ((by simp)) (fun _ _ _ _=>trivial) rfl rfl) rfl ?_;rintro _ _ ⟨xz1,oz1,Fz1,fa,hF1,hM1,rfl,rfl⟩;obtain⟨vs,us,hv,hu,rfl,rfl,rfl⟩:=fa;have E7:dS ([]++sY vs us (acU h.log.bT vA)):=dS.gJ x_29 hF1;refine ab (zB 2004 Dv Dw Z) Z<|Y<|aR ?_;have abu:dS (sY vs us (acU h.log.bT vA)):=TJ;rw[List.nil_append];rw[agM hq];have gR:=(wL (agT (vA:=vA) (af4 hq))).1;refine vW (F1:=(sY vs us (acU h.log.bT vA))) (Gn) (DS vs us (acU h.log.bT vA)) ?_ (by rw[SD hv hu];omega) rfl rfl x_13 ki;exact⟨vs,us,hv,hu,rfl,rfl,rfl⟩
theorem ahc(h:mm)(vA:List Int)(hk:It h)(hz:E9 h):GC Tryz.prog 18 [Bu h,inV vA] [] (Gn) (SH (crD h vA)):=by
 refine GC.intro (rs:=[.cell 4 43 (some 2)]) Tryz.func18 rfl Tryz.ntmps18 x_9 x_136 ?_;intro L O w0;refine sL<|ab (zX 2002 Z) Z<|ab (zA 2004 Du Z) Z<|Y<|aS<|sL<|aP (.agg [vL _ _ _,vL _ _ _,U _ _,U _ _,U _ _,U _ _,U _ _,vL _ _ _,vL _ _ _,vL _ _ _,U _ _,vL _ _ _,vL _ _ _,vL _ _ _]) EZ Z ?_;refine ab (zC [] [] [] Tryz.func30 (QV h hk.db ⟨hk.wc,hk.wh,hk.wi,hz.lc⟩ ⟨hz.lc,hz.lh,hz.li⟩ hz.ll hz.lw hz.ls) (trivial) rfl rfl) Z<|bX Z<|Y ?_;refine AW.cond rfl ?_ ?_
 ·intro V;refine sL<|lq (rd (x:=.agg [vV _,vV _]) (cP Z adU Z Z Z) Z)<|ab (zB 2004 Dv Dw Z) Z<|Y ?_;refine AW.pi 1 2004 0 195 1 rfl (by decide) rfl ?_;refine AW.pi 2 2004 1 192 2 rfl (by decide) rfl ?_;refine aR<|rT ?_;have hq:zV h=false:=by have h:=V;simpa using h
  rw[agL hq];refine ax ?_ x_13;rfl
 intro V;refine aK<|gT<|aS ?_;have hq:zV h=true:=by have h:=V;simpa using h
 refine aL<|lf 0 qL Z<|lf 0 Bv Z<|aP (.agg [vL _ _ _,vL _ _ _]) mE Z<|bm Z<|ab (zC [(1,1),(2,2)] [1,2] [] Tryz.func71 (aeW h.log.bT vA (af4 hq)) (trivial) Z Z) Z<|ab (zB 2004 Dv Dw Z) Z<|Y<|aR ?_;rw[agM hq];refine ax ?_ x_13;rfl
theorem ahd(h:mm)(vA:List Int)(hk:It h)(hz:E9 h):GC Tryz.prog 18 [Bu h,inV vA] [] (mt (crD h vA)) []:=(ahc h vA hk hz).bT
theorem ahe{vs us:List Value}{d:du}:∀p∈DS vs us d,GP p.2:=fun p hp=>by
 simp only[List.mem_cons,List.not_mem_nil,or_false]at hp;rcases hp with rfl|rfl
 ·exact ael
 exact ado
abbrev agW(u:List Value)(agG:Value)(vs us:List Value)(h:mm)(vA:List Int):List (Nat×AO):=af7 u vs us h++[(39,.ai ⟨3,some agG⟩ 1 (ah kt vA))]
theorem ahf(u:List Value)(agG:Value)(vs us:List Value)(h:mm)(vA:List Int)(hk:It h)(hz:E9 h)(hv:vs.length=h.log.bT.cells.length)(hu:us.length=h.log.bT.bu.length) :
 GN Tryz.prog 20 [agv h,.own 39] (agW u agG vs us h vA) (sY vs us h.log.bT) fun y l F=>∃v7 s5:List Value,v7.length=(crD h vA).cells.length/\s5.length=(crD h vA).bu.length/\y=Gn/\l=DS v7 s5 (crD h vA)++agW u agG vs us h vA/\F=sY vs us h.log.bT++sY v7 s5 (crD h vA):=
 (aeg (agV h vA hk hz) (.cons (fun{L ρ w c} bY hx=>acL (s:=0) (Tl.tl TJ) rfl rfl rfl rfl rfl rfl rfl rfl hv hu (fun i _=>by rw[Nat.zero_add]) bY hx) (.cons (acp rfl) .nil)) TJ rfl (fun x l1 F1 ⟨v7,s5,V,h2,e1,e2,e3⟩=>by
   subst e1 e2 e3;have fa:=hz.d;have hz2:=agU h vA;refine⟨rfl,fun id hid=>?_,ahe,aem,?_⟩
   ·simp[s7,vN]at hid;rcases hid with rfl|rfl<;>rfl
   ·rw[SD hv hu,SD V h2];have:=fa.lc;have:=fa.lw;have:=hz2.lc;have:=hz2.lw;omega)).mono fun y ob ⟨l1,F1,q1,q2,q3,q4,l2,F2,⟨v7,s5,V,h2,e1,e2,e3⟩,e4,e5⟩=>by
   subst e1 e2 e3 e4 e5;exact⟨_,_,q1,q2,q3,q4,v7,s5,V,h2,rfl,rfl,rfl⟩
theorem x_54{p:Prop}(c:p:=by first|(simp;done)|(simp;omega)):p:=c
theorem x_135{p:Prop}(c:p:=by simp[ah,mkH,mkB,mkL,c6]):p:=c
theorem ahg(x:mm)(vA:List Int)(hk:It x):GC Tryz.prog 4 [E' x,inV vA] [] (aD true) []:=by
 refine gi 4 Tryz.func4 rfl Tryz.ntmps4 rfl ?_;intro L O w0;refine sL<|ab (zX 2002 Z) Z<|ar Z<|Y<|aS<|sL<|bm Z<|ba x4 Z<|ak Z<|Y ?_;refine AW.cond rfl ?_ ?_
 ·intro V;refine sL<|cI Z<|Y<|aR<|rT ?_;refine ax ?_ trivial;rfl
 intro V;refine aK<|gT<|aS ?_;have eN:vA.length<=1048576:=by have h:=V;simp only[ap,gt_iff_lt,decide_eq_false_iff_not]at h;omega
 refine aL<|ao Z<|nA<|aP (.agg [vL _ _ _,vL _ _ _,U _ _,U _ _,U _ _,U _ _,U _ _,vL _ _ _,vL _ _ _,vL _ _ _,U _ _,vL _ _ _,vL _ _ _,vL _ _ _]) EX Z<|ae Z<|ab (zL Tryz.func11 (Xk x hk) Z) Z<|ao Z<|Y<|aS<|sL<|ae Z<|ak Z<|Y ?_;refine AW.cond rfl ?_ ?_
 ·intro h2;refine sL<|cI Z<|Y<|aR<|rT ?_;refine ax ?_ trivial;rfl
 intro h2;refine aK<|gT<|aS ?_;have hs:0<=vZ x 1048576:=by have h:=h2;simp only[decide_eq_false_iff_not]at h;omega
 have hz:=Xd hs;obtain⟨cQ,qC⟩:=afx hz;have hz2:=agU x vA;obtain⟨hd0,hd1⟩:=acs hz2.m;have oF:=hz.d.lc;have hlw:=hz.d.lw;have afI:=hz2.lc;have afJ:=hz2.lw;refine aL<|aP (.agg [vL _ _ _,vL _ _ _,U _ _,U _ _,U _ _,U _ _,U _ _,vL _ _ _,vL _ _ _,vL _ _ _,U _ _,vL _ _ _,vL _ _ _,vL _ _ _]) EX Z<|ab (zC [] [] [] Tryz.func13 (Iu x hz) (trivial) Z Z) Z ?_;refine xH ([]) [1,2,4,23] [2002] ?_;refine bm Z<|ab (zC [] [] [] Tryz.func19 ((agD vA eN).ui) (trivial) Z Z) Z<|ab (zC [] [] [] Tryz.func18 (ahd x vA hk hz) (trivial) Z Z) Z<|ab (zA 2006 Du Z) Z<|ab (zB 2006 Dv Dw Z) Z<|nA<|aP (.agg [vL _ _ _,vL _ _ _,U _ _,U _ _,U _ _,U _ _,U _ _,vL _ _ _,vL _ _ _,vL _ _ _,U _ _,vL _ _ _,vL _ _ _,vL _ _ _]) EX Z ?_;refine A1 (A2 (F:=[]) [(1,11),(2,12),(3,13),(4,14),(5,15),(6,16),(7,17),(8,18)] [11,12,13,14,15,16,17,18] [] ([]).length Tryz.func13 (agd x hz) ki List.drop_length List.take_length (Nat.le_refl _) ((by simp)) (fun _ _ _ _=>trivial) rfl rfl) rfl ?_;rintro _ _ ⟨xz1,oz1,Fz1,fa,hF1,hM1,rfl,rfl⟩;obtain⟨vs1,y6,vC,hu1,rfl,rfl,rfl⟩:=fa;have E7:dS ([]++sY vs1 y6 x.log.bT):=dS.gJ x_29 hF1;refine ab (zA 2007 Ig Z) Z<|ab (zB 2007 NA NB Z) Z<|Y<|aS ?_;rw[List.nil_append];have E7:dS (sY vs1 y6 x.log.bT):=TJ;have hFl:=SD vC hu1;refine AW.mU 11 rfl ?_;intro u11;refine AW.mU 12 rfl ?_;intro u12;refine AW.mU 13 rfl ?_;intro u13;refine AW.mU 14 rfl ?_;intro u14;refine AW.mU 15 rfl ?_;intro u15;refine AW.mU 16 rfl ?_;intro u16;refine AW.mU 17 rfl ?_;intro u17;refine AW.mU 18 rfl ?_;intro u18;refine aL<|bm Z<|ab (zC [(2007,19)] [19] [] Tryz.func19 (agD vA eN) (trivial) Z Z) Z<|bD Z<|Y<|aS ?_;refine AW.mU 19 rfl ?_;intro u19;refine aL<|aP (.agg [.own _,.own _,U _ _,U _ _,U _ _,U _ _,U _ _,.own _,.own _,.own _,U _ _,.own _,.own _,.own _]) EZ Z<|bW Z ?_;refine A1 (A2 (F:=(sY vs1 y6 x.log.bT)) [(1,21),(2,22),(31,11),(32,12),(33,13),(34,14),(35,15),(36,16),(37,17),(38,18),(39,19)] [21,22] [31,32,33,34,35,36,37,38,39] 0 Tryz.func20 (ahf [u11,u12,u13,u14,u15,u16,u17,u18] u19 vs1 y6 x vA hk hz vC hu1) ki List.drop_zero List.take_zero (Nat.zero_le _) ((by rw[hFl];omega)) ((fun y l F ⟨_,_,_,_,_,e2,_⟩=>by subst e2;exact⟨stays.ai rfl,stays.ai rfl,stays.ai rfl,stays.ai rfl,stays.ai rfl,stays.ai rfl,stays.ai rfl,stays.ai rfl,stays.ai rfl,trivial⟩)) rfl rfl) rfl ?_;rintro _ _ ⟨xz2,oz2,Fz2,hz2,hF2,hM2,rfl,rfl⟩;obtain⟨v7,s5,hv2,hu2,rfl,rfl,rfl⟩:=hz2;have abt:dS ([]++(sY vs1 y6 x.log.bT++sY v7 s5 (crD x vA))):=dS.gJ x_29 hF2;refine xH (([]++(sY vs1 y6 x.log.bT++sY v7 s5 (crD x vA)))) [1,2,4,6,7,8,33] [11,12,13,14,15,16,17,18,19,21,22,2002,2006,2007] ?_;refine ab (zA 2009 Du Z) Z<|ab (zB 2009 Dv Dw Z) Z<|Y<|aS<|aS ?_;rw[List.nil_append];have abt:dS (sY vs1 y6 x.log.bT++sY v7 s5 (crD x vA)):=dS.gJ TJ TJ;have ac8:=SD hv2 hu2;refine aL<|aP (.agg [.own _,.own _]) mE Z<|aP (.agg [vL _ _ _,vL _ _ _]) mE Z<|ab (zLN Tryz.func21 (W9 (crD x vA) hz2.e) rfl (.cons (acV (vs:=v7) (us:=s5) (d:=(crD x vA)) (s:=(sY vs1 y6 x.log.bT).length) ki rfl rfl hv2 hu2 acx) (.cons (Reads.jB rfl) .nil))) Z<|ma Z<|bJ 37 false rfl x_54<|Y<|aN Z<|aK<|gT<|aS<|aS<|aF []<|sq 0 (dw (.agg [.own _,.own _,U _ _,U _ _,U _ _,U _ _,U _ _,.own _,.own _,.own _,U _ _,.own _,.own _,.own _]) EZ rfl)<|vq 1 (dw (.agg [vL _ _ _,vL _ _ _,U _ _,U _ _,U _ _,U _ _,U _ _,vL _ _ _,vL _ _ _,vL _ _ _,U _ _,vL _ _ _,vL _ _ _,vL _ _ _]) EX rfl)<|bn 2 rfl (zC [] [] [] Tryz.func13 (Iu x hz) (trivial) rfl rfl) (.inr rfl)<|bn 3 rfl (zLN Tryz.func15 (Xq x hz) rfl (.cons (acL (vs:=vs1) (us:=y6) (h:=x) (s:=0) ki rfl rfl rfl rfl rfl rfl rfl rfl vC hu1 (fun j hj=>by rw[Nat.zero_add,List.getElem?_append_left hj])) (.cons (Reads.jB rfl) .nil))) (.inr rfl)<|vq 4 (tJ rfl)<|nw 42 false rfl x_54<|fD<|gT<|aN Z<|aK<|gT<|aS<|sL<|bW Z<|bm rfl ?_;refine ab (zC [] [] [] Tryz.func19 ((agD vA eN).ui) (trivial) rfl rfl) rfl ?_;refine xH ((sY vs1 y6 x.log.bT++sY v7 s5 (crD x vA))) [1,2,4,6,7,8,9,43,45] [11,12,13,14,15,16,17,18,19,21,22,2002,2006,2007,2009] ?_;refine ab (zLN Tryz.func22 (agY vA (by omega)) rfl (.cons (acp rfl) (.cons (Reads.jB rfl) .nil))) Z<|ma Z<|bJ 47 false rfl x_54<|Y<|aN Z<|aK<|gA<|ao Z<|nA<|aP (.agg [.own _,.own _,U _ _,U _ _,U _ _,U _ _,U _ _,.own _,.own _,.own _,U _ _,.own _,.own _,.own _]) EZ Z<|ae rfl ?_;refine A1 (A2 (F:=(sY vs1 y6 x.log.bT++sY v7 s5 (crD x vA))) [(1,11),(2,12),(3,13),(4,14),(5,15),(6,16),(7,17),(8,18)] [] [1,2,3,4,5,6,7,8] 0 Tryz.func16 (afp [u11,u12,u13,u14,u15,u16,u17,u18] vs1 y6 x (sY v7 s5 (crD x vA)) 1 vC hu1 TJ (by rw[ac8];omega) hz (by omega)) ki List.drop_zero List.take_zero (Nat.zero_le _) ((by rw[List.length_append,hFl,ac8];omega)) ((fun y l F ⟨_,e2,_⟩=>by subst e2;exact⟨stays.ai rfl,stays.ai (by show (lW y6 (c7 E6 m3 _ _)).length=_;rw[K9 (by rw[k7];exact hu1),k7,K9 hu1]),stays.ai x_135,stays.ai x_135,stays.ai x_135,stays.ai x_135,stays.ai x_135,stays.ai x_135,trivial⟩)) rfl rfl) rfl ?_;rintro _ _ ⟨xz3,oz3,Fz3,hz3,hF3,hM3,rfl,rfl⟩;obtain⟨rfl,rfl,rfl⟩:=hz3;have acg:dS ([]++(sY vs1 y6 (f6 x.log.bT 1)++sY v7 s5 (crD x vA))):=dS.gJ x_29 hF3;refine ao Z<|Y<|aS ?_;rw[List.nil_append];have hrA:dS (sY vs1 y6 (f6 x.log.bT 1)):=TJ;have acg:dS (sY vs1 y6 (f6 x.log.bT 1)++sY v7 s5 (crD x vA)):=dS.gJ TJ TJ;refine aL<|bW Z<|ae Z ?_;refine ab (zC [(0,19)] [] [0] Tryz.func23 (agZ u19 vA _ (by omega) (by omega)) x_50 rfl rfl) Z<|ao Z<|Y<|aS<|sL<|ae Z<|ak Z<|bJ 55 false rfl x_54<|dm Z<|aP (.agg [.own _,.own _]) mE Z<|aP (.agg [vL _ _ _,vL _ _ _]) mE Z<|ab (zLN Tryz.func21 (W9 (crD x vA) hz2.e) rfl (.cons (acV (vs:=v7) (us:=s5) (d:=(crD x vA)) (s:=(sY vs1 y6 (f6 x.log.bT 1)).length) ki rfl rfl hv2 hu2 acx) (.cons (Reads.jB rfl) .nil))) rfl ?_;refine xH ((sY vs1 y6 (f6 x.log.bT 1)++sY v7 s5 (crD x vA))) [1,2,4,6,9,56,59] [21,22,2002,2006,2009] ?_;refine ma Z<|bJ 60 false rfl x_54<|bL Z<|Y<|aN Z<|aK<|gA<|ao Z<|Y<|aS ?_;refine AW.mU 21 rfl ?_;intro u21;refine AW.mU 22 rfl ?_;intro u22;rw[<-List.append_nil (sY v7 s5 (crD x vA))];have ads:dS (sY vs1 y6 (f6 x.log.bT 1)++(sY v7 s5 (crD x vA)++[])):=dS.gJ TJ (dS.gJ TJ dS.nil);refine aL<|aP (.agg [.own _,.own _]) mE Z<|ae Z ?_;refine A1 (A2 (F:=(sY vs1 y6 (f6 x.log.bT 1)++(sY v7 s5 (crD x vA)++[]))) [(1,21),(2,22)] [] [1,2] (sY vs1 y6 (f6 x.log.bT 1)).length Tryz.func24 (adm u21 u22 v7 s5 (crD x vA) [] 1 hv2 hu2 dS.nil (by simp) hz2 (by omega)) ki List.drop_left List.take_left (by simp) ((by rw[List.length_append,List.append_nil,ac8,SD (d:=f6 x.log.bT 1) (by show _=(c7 uD s0 _ _).length;rw[k7];exact vC) (by show _=(c7 E6 m3 _ _).length;rw[k7];exact hu1)];show (c7 uD s0 _ _).length+(c7 E6 m3 _ _).length+_<=_;rw[k7,k7];omega)) ((fun y l F ⟨_,e2,_⟩=>by subst e2;exact⟨stays.ai rfl,stays.ai (by show (lW s5 (c7 E6 m3 _ _)).length=_;rw[K9 (by rw[k7];exact hu2),k7,K9 hu2]),trivial⟩)) rfl rfl) rfl ?_;rintro _ _ ⟨xz4,oz4,Fz4,hz4,hF4,hM4,rfl,rfl⟩;obtain⟨rfl,rfl,rfl⟩:=hz4;have ads:dS (sY vs1 y6 (f6 x.log.bT 1)++(sY v7 s5 (f6 (crD x vA) 1)++[])):=dS.gJ x_29 hF4;refine ao Z<|Y<|aS ?_;rw[List.append_nil (sY v7 s5 (f6 (crD x vA) 1))];have afK:dS (sY vs1 y6 (f6 x.log.bT 1)++sY v7 s5 (f6 (crD x vA) 1)):=dS.gJ TJ TJ;refine aL<|ao Z<|nA<|aP (.agg [.own _,.own _]) mE Z<|ae Z<|ab (zLN Tryz.func25 (ad8 (crD x vA) 1 hz2.m (by omega)) rfl (.cons (acV (vs:=v7) (us:=s5) (d:=f6 (crD x vA) 1) (s:=(sY vs1 y6 (f6 x.log.bT 1)).length) ki rfl rfl (by show _=(c7 uD s0 _ _).length;rw[k7];exact hv2) (by show _=(c7 E6 m3 _ _).length;rw[k7];exact hu2) acx) (.cons (Reads.jB rfl) .nil))) Z<|ao Z<|Y<|aS<|sL<|ae Z<|ak Z<|bJ 69 false rfl x_54<|Y<|aN Z<|aK<|gT<|aS<|sL<|ae Z<|ae Z<|ak Z<|bJ 72 false rfl x_54 ?_;refine Y<|aN Z<|aK<|gA<|aP (.agg [vL _ _ _,vL _ _ _,U _ _,U _ _,U _ _,U _ _,U _ _,vL _ _ _,vL _ _ _,vL _ _ _,U _ _,vL _ _ _,vL _ _ _,vL _ _ _]) EX Z<|ab (zC [] [] [] Tryz.func13 (Iu x hz) (trivial) Z Z) Z ?_;refine xH ((sY vs1 y6 (f6 x.log.bT 1)++sY v7 s5 (f6 (crD x vA) 1))) [1,4,6,9,11,12,74] [21,22,2006,2009] ?_;refine bm Z<|ab (zC [] [] [] Tryz.func19 ((agD vA eN).ui) (trivial) rfl rfl) Z<|ab (zC [] [] [] Tryz.func20 (SE (agV x vA hk hz)) (trivial) rfl rfl) Z<|ab (zA 2013 Du rfl) Z<|ab (zB 2013 Dv Dw rfl) Z<|Y<|aS<|sL<|aP (.agg [vL _ _ _,vL _ _ _]) mE Z<|aP (.agg [vL _ _ _,vL _ _ _]) mE Z<|ab (zL Tryz.func21 (W9 (crD x vA) hz2.e) rfl) Z<|ma Z<|bJ 81 false rfl x_54<|Y<|aN Z<|aK<|gA<|ao Z<|nA<|aP (.agg [.own _,.own _]) mE Z<|ae Z<|ab (zLN Tryz.func25 (ad8 (crD x vA) 1 hz2.m (by omega)) rfl (.cons (acV (vs:=v7) (us:=s5) (d:=f6 (crD x vA) 1) (s:=(sY vs1 y6 (f6 x.log.bT 1)).length) ki rfl rfl (by show _=(c7 uD s0 _ _).length;rw[k7];exact hv2) (by show _=(c7 E6 m3 _ _).length;rw[k7];exact hu2) acx) (.cons (Reads.jB rfl) .nil))) rfl ?_;refine ao Z<|Y<|aS<|sL<|ae Z<|ak Z<|bJ 86 false rfl x_54<|Y<|aN Z<|aK<|gT<|aS<|sL<|ae Z<|ae Z<|ak Z<|bJ 89 false rfl x_54<|Y<|aN Z<|aK<|gA<|cI Z<|lN ?_;refine gT<|aR ?_;refine ax ?_ trivial;rfl

theorem dd.CX{α:Type}{sz:Nat}{dg:World->Nat->Nat->List Value->α->Prop}{w:World}{lo hi:Nat}{v:Value}{xs:List α}{p:α->Prop}(h:dd sz dg w lo hi v xs)(hp:∀lo hi cs x,dg w lo hi cs x->p x):∀x∈xs,p x:=by
 obtain⟨a,cap,rfl,c1,c2,ml⟩:=h;intro x hx;rcases ml with hz|⟨b,off,rfl,b1,b2,hel⟩
 ·subst hz;simp at hx
 obtain⟨i,hi,rfl⟩:=List.getElem_of_mem hx;obtain⟨cs,V,_⟩:=hel i hi;exact hp _ _ _ _ V
theorem dd.short{α:Type}{sz:Nat}{dg:World->Nat->Nat->List Value->α->Prop}{w:World}{lo hi:Nat}{v:Value}{xs:List α}(h:dd sz dg w lo hi v xs):xs.length<=9223372036854775807:=by
 obtain⟨a,c,_,k1,k2,_⟩:=h;unfold maxLen at k2;omega
theorem OZ{w:World}{lo hi:Nat}{v:Value}{b:List Int}(h:dd 1 yb w lo hi v b)(hh:hi<=w.heap.size):∃fp,RW w false (nQ b) v fp:=by
 have:=wU (L:=fun _=>False) (ρ:=fun _=>undef) (H:=bx []) (e:=5) h (fun cs x q=>(show cs=dF x from q.1)) (fun _=>rfl) (by intro c u hu;simp[dF]at hu;subst hu;rfl) hh (fun _ _ _=>mh);rw[RV]at this;obtain⟨fp,q,_⟩:=this;exact⟨fp,q⟩
theorem O0{w:World}{lo hi:Nat}{v:Value}{b:List Int}(h:dd 1 yb w lo hi v b):fA b:=fun x hx=>(h.CX fun _ _ _ _ q=>q.2) x hx
theorem Yo{w:World}{lo hi:Nat}(hh:hi<=w.heap.size){cs:List Value}{x:Cell}(h:sF w lo hi cs x):cs.length=1/\∃fp,bP w false [nQ x.bytes] cs fp:=by
 obtain⟨v0,rfl,q,_⟩:=h;obtain⟨fp,k⟩:=OZ q hh;refine⟨rfl,fp++[],?_⟩;rw[bP];exact⟨v0,[],fp,[],rfl,rfl,k,by rw[bP];exact⟨rfl,rfl⟩⟩
theorem Yp{w:World}{lo hi:Nat}(hh:hi<=w.heap.size){cs:List Value}{x:gq}(h:sG w lo hi cs x):cs.length=2/\∃fp,bP w false [.v (.int .i64 x.at_),nQ x.bytes] cs fp:=by
 obtain⟨v0,rfl,q,_⟩:=h;obtain⟨fp,k⟩:=OZ q hh;refine⟨rfl,[]++(fp++[]),?_⟩;rw[bP];refine⟨_,[v0],[],fp++[],rfl,rfl,by rw[RW];exact⟨rfl,rfl,rfl⟩,?_⟩;rw[bP];exact⟨v0,[],fp,[],rfl,rfl,k,by rw[bP];exact⟨rfl,rfl⟩⟩
structure Yq(d:du):Prop where
 hb:qK d
 lc:d.cells.length<=9223372036854775807
 bc:∀c∈d.cells,c.bytes.length<=9223372036854775807
 lw:d.bu.length<=9223372036854775807
 bw:∀c∈d.bu,c.bytes.length<=9223372036854775807
theorem Yr{d:du}{w:World}{v0 v1:Value}(h0:dd 1 sF w 0 w.heap.size v0 d.cells)(V:dd 2 sG w 0 w.heap.size v1 d.bu):Yq d:=
 ⟨⟨fun c hc=>(h0.CX (p:=fun c=>fA c.bytes) fun _ _ _ _ ⟨_,_,q,_⟩=>O0 q) c hc,fun c hc=>(V.CX (p:=fun c=>fA c.bytes) fun _ _ _ _ ⟨_,_,q,_⟩=>O0 q) c hc⟩,h0.short,fun c hc=>(h0.CX (p:=fun c=>c.bytes.length<=9223372036854775807) fun _ _ _ _ ⟨_,_,q,_⟩=>q.short) c hc,V.short,fun c hc=>(V.CX (p:=fun c=>c.bytes.length<=9223372036854775807) fun _ _ _ _ ⟨_,_,q,_⟩=>q.short) c hc⟩
theorem Ys{e:TypeId}{d:List Cell}{w:World}{v:Value}(h:dd 1 sF w 0 w.heap.size v d):RV (fun _=>False) (fun _=>undef) (bx []) w (.p (.ab e 1 (oS d))) v:=by
 obtain⟨fp,q⟩:=NM (e:=e) (row:=fun c:Cell=>[nQ c.bytes]) h (fun cs x k=>Yo (Nat.le_refl _) k) (fun _=>rfl) (Nat.le_refl _);rw[RV];exact⟨fp,q,fun _ _=>mh⟩
theorem Yt{e:TypeId}{d:List gq}{w:World}{v:Value}(h:dd 2 sG w 0 w.heap.size v d):RV (fun _=>False) (fun _=>undef) (bx []) w (.p (.ab e 2 (oT d))) v:=by
 obtain⟨fp,q⟩:=NM (e:=e) (row:=fun c:gq=>[.v (.int .i64 c.at_),nQ c.bytes]) h (fun cs x k=>Yp (Nat.le_refl _) k) (fun _=>rfl) (Nat.le_refl _);rw[RV];exact⟨fp,q,fun _ _=>mh⟩

theorem Yu{x:mm}{w:World}{v0 v1 v2 v3 v4 v5 v6 afN:Value}(h0:dd 1 sF w 0 w.heap.size v0 x.log.bT.cells)(V:dd 2 sG w 0 w.heap.size v1 x.log.bT.bu)(h2:dd 7 wE w 0 w.heap.size v2 x.book.ag)(h3:dd 7 wF w 0 w.heap.size v3 x.book.an)(h4:dd 5 wG w 0 w.heap.size v4 x.book.aq)(h5:dd 3 x8 w 0 w.heap.size v5 x.ia.lines)(h6:dd 7 sH w 0 w.heap.size v6 x.wait)(h7:dd 7 sH w 0 w.heap.size afN x.f9):It x:=
 let k:=Yr h0 V
 ⟨k.lc,k.bc,k.lw,k.bw,h2.short,h3.short,h4.short,h5.short,h6.short,h7.short,k.hb,h2.each fun _ _ _ _ h=>h.2,h3.each fun _ _ _ _ h=>h.2,h4.each fun _ _ _ _ h=>h.2⟩
theorem Yv{x:mm}{w:World}{v0 v1 v2 v3 v4 v5 v6 afN:Value}(h0:dd 1 sF w 0 w.heap.size v0 x.log.bT.cells)(V:dd 2 sG w 0 w.heap.size v1 x.log.bT.bu)(h2:dd 7 wE w 0 w.heap.size v2 x.book.ag)(h3:dd 7 wF w 0 w.heap.size v3 x.book.an)(h4:dd 5 wG w 0 w.heap.size v4 x.book.aq)(h5:dd 3 x8 w 0 w.heap.size v5 x.ia.lines)(h6:dd 7 sH w 0 w.heap.size v6 x.wait)(h7:dd 7 sH w 0 w.heap.size afN x.f9) :
 RV (fun _=>False) (fun _=>undef) (bx []) w (E' x) (.agg #[v0,v1,.int .i64 x.log.next,.int .i64 x.log.dP,.int .i64 x.book.tick,.int .i64 x.book.next,.int .i64 x.book.aA,v2,v3,v4,.int .i64 x.ia.last,v5,v6,afN]):=by
 rw[RV]
 refine⟨[v0,v1,.int .i64 x.log.next,.int .i64 x.log.dP,.int .i64 x.book.tick,.int .i64 x.book.next,.int .i64 x.book.aA,v2,v3,v4,.int .i64 x.ia.last,v5,v6,afN],rfl,?_⟩
 simp only[bf]
 exact⟨_,_,rfl,Ys h0,_,_,rfl,Yt V,_,_,rfl,fX rfl,_,_,rfl,fX rfl,_,_,rfl,fX rfl,_,_,rfl,fX rfl,_,_,rfl,fX rfl,
  _,_,rfl,wU h2 (fun _ _ h=>h.1) (fun _=>rfl) (by intro c u hu;simp[aX]at hu;rcases hu with h|h|h|h|h|h|h<;>(subst h;rfl)) (Nat.le_refl _) (fun _ _ _=>mh),
  _,_,rfl,wU h3 (fun _ _ h=>h.1) (fun _=>rfl) (by intro c u hu;simp[go]at hu;rcases hu with h|h|h|h|h|h|h<;>(subst h;rfl)) (Nat.le_refl _) (fun _ _ _=>mh),
  _,_,rfl,wU h4 (fun _ _ h=>h.1) (fun _=>rfl) (by intro c u hu;simp[iX]at hu;rcases hu with h|h|h|h|h<;>(subst h;rfl)) (Nat.le_refl _) (fun _ _ _=>mh),
  _,_,rfl,fX rfl,
  _,_,rfl,wU h5 (fun _ _ h=>h.1) (fun _=>rfl) (by intro c u hu;simp[ct]at hu;rcases hu with h|h|h<;>(subst h;rfl)) (Nat.le_refl _) (fun _ _ _=>mh),
  _,_,rfl,wU h6 (fun _ _ h=>h.1) (fun _=>rfl) (by intro c u hu;simp[fR]at hu;rcases hu with h|h|h|h|h|h|h<;>(subst h;rfl)) (Nat.le_refl _) (fun _ _ _=>mh),
  _,_,rfl,wU h7 (fun _ _ h=>h.1) (fun _=>rfl) (by intro c u hu;simp[fR]at hu;rcases hu with h|h|h|h|h|h|h<;>(subst h;rfl)) (Nat.le_refl _) (fun _ _ _=>mh),rfl⟩

theorem ahh(x:mm)(a0:Option Addr)(c0:Nat)(a1:Option Addr)(c1:Nat)(a2:Option Addr)(c2:Nat)(a3:Option Addr)(c3:Nat)(a4:Option Addr)(c4:Nat)(a5:Option Addr)(c5:Nat)(a6:Option Addr)(af8:Nat)(a7:Option Addr)(af9:Nat)(y:List Int)(a8:Option Addr)(agX:Nat)(w:World)
 (h0:dd 1 sF w 0 w.heap.size (.slice a0 x.log.bT.cells.length c0) x.log.bT.cells) (V:dd 2 sG w 0 w.heap.size (.slice a1 x.log.bT.bu.length c1) x.log.bT.bu) (h2:dd 7 wE w 0 w.heap.size (.slice a2 x.book.ag.length c2) x.book.ag) (h3:dd 7 wF w 0 w.heap.size (.slice a3 x.book.an.length c3) x.book.an) (h4:dd 5 wG w 0 w.heap.size (.slice a4 x.book.aq.length c4) x.book.aq) (h5:dd 3 x8 w 0 w.heap.size (.slice a5 x.ia.lines.length c5) x.ia.lines) (h6:dd 7 sH w 0 w.heap.size (.slice a6 x.wait.length af8) x.wait) (h7:dd 7 sH w 0 w.heap.size (.slice a7 x.f9.length af9) x.f9) (wf0:O1 x) (h8:dd 1 agH w 0 w.heap.size (.slice a8 y.length agX) y) :
 Calls Tryz.prog 4 #[.agg #[.slice a0 x.log.bT.cells.length c0,.slice a1 x.log.bT.bu.length c1,.int .i64 x.log.next,.int .i64 x.log.dP,.int .i64 x.book.tick,.int .i64 x.book.next,.int .i64 x.book.aA,.slice a2 x.book.ag.length c2,.slice a3 x.book.an.length c3,.slice a4 x.book.aq.length c4,.int .i64 x.ia.last,.slice a5 x.ia.lines.length c5,.slice a6 x.wait.length af8,.slice a7 x.f9.length af9],.slice a8 y.length agX] w fun r w'=>r=.returned (.bool true)/\cZ w w':=
 Xx (cs:=[_,_]) rfl (ahg x y (Yu h0 V h2 h3 h4 h5 h6 h7)) (by
  simp only[bf];exact⟨_,_,rfl,Yv h0 V h2 h3 h4 h5 h6 h7,_,_,rfl,wU (enc:=kt) h8 (fun _ _ h=>h.1) (fun _=>rfl) (by intro c u hu;simp[kt]at hu;subst hu;rfl) (Nat.le_refl _) (fun _ _ _=>mh),rfl⟩)
end Go.Proofs.YtflhgkmhmcfimaaGreat

namespace Go.Proofs.YtflhgkmhmcfimaaGreat.fnExactHubCrash
open Go.ChangeShapes Go.WideShapes Go.ChangeAt Go.RowKit Go.Proofs.YtflhgkmhmcfimaaGreat
set_option maxHeartbeats 16000000
set_option maxRecDepth 100000
set_option linter.unusedVariables false
theorem own:ownKnob Tryz.prog.godebug=none:=by kernel_rfl
theorem laid:laidOutB Tryz.prog=true:=by kernel_rfl
theorem readable:∀t∈[38,62],Tryz.prog.readableRec t=true/\t<Tryz.prog.types.size:=by
 intro t ht;simp only[List.mem_cons,List.not_mem_nil,or_false]at ht;rcases ht with rfl|rfl;all_goals exact⟨by kernel_rfl,of_decide_eq_true x_65⟩
theorem lifted(os:Os)(started:os.Started)(H:Type)(enc:TypeId×Value->H) :
 ReturnsInHanded {} Tryz.checked os 4 .any (Rows.fnExactHubCrashSpec.pre6 enc Tryz.prog Tryz.f4 Rows.fnExactHubCrashRow.domain false) (Rows.fnExactHubCrashSpec.post enc Tryz.prog Tryz.f4 false true false false):=by
 refine returnsInHanded_of_change (C:=Tryz.checked) own started x_65 Tryz.func4
  (ChangeSpec.witness6 (enc:=enc) (C:=Tryz.checked) false ⟨#[],#[.agg #[.slice none 0 0,.slice none 0 0,.int .i64 0,.int .i64 0,.int .i64 0,.int .i64 0,.int .i64 0,.slice none 0 0,.slice none 0 0,.slice none 0 0,.int .i64 0,.slice none 0 0,.slice none 0 0,.slice none 0 0],.slice none 0 0],[]⟩ 8 x_65 x_65 x_65 x_65) ?_
 intro W base args ds gs before O2 hW aby _
 have O3:∀(j:Nat) t v,Tryz.f4.params[j]? = some t->args[j]? = some v->Value.okWide Tryz.prog W .any base t v:=O2
 have O4:=hW
 obtain⟨p,q,O5,hV,rfl,hfz,jU⟩:=hW
 have hA:DataW.TrodAll enc Tryz.prog W 0 (fun _=>true) true Tryz.f4.params.toList args.toList ds p:=O5
 rw[Tryz.params4]at hA O3
 have hB:=hA
 obtain⟨v0,vs0,d0,ds0,p0,q0,pF,rfl,rfl,h0,r0⟩:=trodAll_cons hA
 obtain⟨v1,vs1,d1,ds1,p1,q1,rfl,rfl,rfl,V,r1⟩:=trodAll_cons r0
 obtain⟨rfl,rfl,rfl⟩:=trodAll_nil r1
 obtain rfl:args=#[v0,v1]:=by cases args;simp_all
 obtain⟨rfl,rfl⟩:=trodVars_none hV
 obtain⟨oC,rfl,_⟩:=okWide_struct Tryz.underlying38 (O3 0 38 v0 rfl rfl)
 obtain⟨fu0,t0⟩:=h0
 obtain⟨x0,Dy,Dz,O6,O7,O8,O9,O',Pa,e0,Pb,Pc,Pe,Pf,Pg,Ph,Pi,Pj,w0⟩:=Rm t0
 have e0:oC=#[Dy,Dz,.int .i64 x0.log.next,.int .i64 x0.log.dP,.int .i64 x0.book.tick,.int .i64 x0.book.next,.int .i64 x0.book.aA,O6,O7,O8,.int .i64 x0.ia.last,O9,O',Pa]:=Array.ext' (by simpa[Value.cells]using e0)
 subst e0
 obtain⟨Yx,Yy,rfl⟩:∃a c,Dy=Value.slice a x0.log.bT.cells.length c:=let ⟨a,c,h,_⟩:=Pb;⟨a,c,h⟩
 obtain⟨Yz,YA,rfl⟩:∃a c,Dz=Value.slice a x0.log.bT.bu.length c:=let ⟨a,c,h,_⟩:=Pc;⟨a,c,h⟩
 obtain⟨YB,YC,rfl⟩:∃a c,O6=Value.slice a x0.book.ag.length c:=let ⟨a,c,h,_⟩:=Pe;⟨a,c,h⟩
 obtain⟨YD,YE,rfl⟩:∃a c,O7=Value.slice a x0.book.an.length c:=let ⟨a,c,h,_⟩:=Pf;⟨a,c,h⟩
 obtain⟨YF,YG,rfl⟩:∃a c,O8=Value.slice a x0.book.aq.length c:=let ⟨a,c,h,_⟩:=Pg;⟨a,c,h⟩
 obtain⟨YH,YI,rfl⟩:∃a c,O9=Value.slice a x0.ia.lines.length c:=let ⟨a,c,h,_⟩:=Ph;⟨a,c,h⟩
 obtain⟨YJ,YK,rfl⟩:∃a c,O'=Value.slice a x0.wait.length c:=let ⟨a,c,h,_⟩:=Pi;⟨a,c,h⟩
 obtain⟨YL,YM,rfl⟩:∃a c,Pa=Value.slice a x0.f9.length c:=let ⟨a,c,h,_⟩:=Pj;⟨a,c,h⟩
 obtain⟨a1,l1,c1,rfl⟩:=okWide_slice Tryz.underlying62 (O3 1 62 v1 rfl rfl)
 obtain⟨fu1,t1⟩:=V
 obtain⟨x1,s1⟩:=tG (dg:=agH) Tryz.underlying62 iJ (by decide) (fun _ _ _ h=>ag0 h) t1
 obtain rfl:l1=x1.length:=by obtain⟨_,_,he,_⟩:=s1;injection he
 clear O5 O2
 simp only[List.append_nil]at O4
 refine(ahh x0 Yx Yy Yz YA YB YC YD YE YF YG YH YI YJ YK YL YM x1 a1 c1 W Pb Pc Pe Pf Pg Ph Pi Pj w0 s1).mono fun e W' ⟨he,hg⟩=>?_
 subst he
 exact⟨_,rfl,_,_,_,_,_,[],O4,trodAll_mk1 (shut_bool Tryz.underlying4 true),
  Pk laid hg.below (readable) hB,rfl,hg.below.frame _,fun h=>by cases h⟩
theorem YN:(Rows.fnExactHubCrashRow.inPlace==Tryz.pinned.checked.prog.inPlace 4)=true:=by kernel_rfl
theorem YO:(Rows.fnExactHubCrashRow.unfollowed==Tryz.pinned.checked.prog.unfollowed 4)=true:=by kernel_rfl
theorem YP:(Rows.fnExactHubCrashRow.recurses==Tryz.pinned.checked.prog.recurses 4)=true:=by kernel_rfl
theorem YQ:(Rows.fnExactHubCrashRow.named==Tryz.pinned.checked.prog.varsNamed 4)=true:=by kernel_rfl
theorem YR:Tryz.pinned.checked.prog.funcNamed Rows.fnExactHubCrashRow.func=some 4:=by kernel_rfl
theorem closed:joinedFacts Tryz.pinned.checked.prog 4 Tryz.f4 Rows.fnExactHubCrashSpec Rows.fnExactHubCrashRow=true:=by
 unfold joinedFacts;rw[YN,YO,YP,YQ];kernel_rfl
theorem YS:Rows.fnExactHubCrashRow.holds Tryz.pinned (OpenSpec.ofChange Rows.fnExactHubCrashSpec):=
 OpenClaim.holds_of_wide 4 Tryz.f4 rfl rfl rfl rfl rfl rfl rfl ⟨rfl,rfl,rfl,rfl,rfl⟩ rfl rfl rfl rfl rfl YR Tryz.func4 closed
  (of_decide_eq_true x_65) (by unfold Func.isWrapper;first|(rw[if_pos (by decide +kernel)];kernel_rfl)|(rw[if_neg (by decide +kernel)];exact⟨rfl,rfl⟩))
  (fun os started H enc _=>lifted os started H enc)
theorem proved:Rows.FnExactHubCrashSaid:=
 YS
#print axioms proved
end Go.Proofs.YtflhgkmhmcfimaaGreat.fnExactHubCrash

