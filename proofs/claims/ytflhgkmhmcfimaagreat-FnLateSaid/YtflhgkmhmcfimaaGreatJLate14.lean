/- Texts of the proof of FnFnLate, joined: Cur1, ED1, ED2, ED3, E34, EQ1, E35, MkD, EP2, EP3, EQ3, LogL. -/
import Derived.Test.YtflhgkmhmcfimaaGreatJLate5
import Derived.Test.YtflhgkmhmcfimaaGreatVNum
import Derived.Test.YtflhgkmhmcfimaaGreatJLate8
import Derived.Test.YtflhgkmhmcfimaaGreatJLate4
import Derived.Test.YtflhgkmhmcfimaaGreatJLate13
namespace Go.Proofs.YtflhgkmhmcfimaaGreat
set_option maxRecDepth 100000
open Tryz
open Go.RowKit
set_option linter.unusedSimpArgs false
set_option linter.unusedVariables false
theorem akO(x:Int)(m:Nat)(hm:m<9223372036854775808):0<=bits BinOp.and IntKind.i64 x (m:Int)/\bits BinOp.and IntKind.i64 x (m:Int)<=m:=by
 have V:(BitVec.ofInt 64 x &&& BitVec.ofInt 64 (m:Int)).toNat<=m:=by
  rw[BitVec.toNat_and];have h2:(BitVec.ofInt 64 (m:Int)).toNat=m:=by
   rw[BitVec.toNat_ofInt];omega
  rw[h2];exact Nat.and_le_right
 have h3:bits BinOp.and IntKind.i64 x (m:Int)=IntKind.i64.wrap ((BitVec.ofInt 64 x &&& BitVec.ofInt 64 (m:Int)).toNat:Int):=rfl;rw[h3];generalize (BitVec.ofInt 64 x &&& BitVec.ofInt 64 (m:Int)).toNat=z at *;have h4:IntKind.i64.wrap (z:Int)=z:=by
  simp[IntKind.wrap,IntKind.bits,IntKind.signed];omega
 rw[h4];omega
abbrev ahN(b:Int):List Value:=[.int .u8 b]
abbrev ahm(g:Value)(code:List Int)(i:Nat)(h:Int):AO:=.box 224 (some g) [.p (.ab 5 1 (ah ahN code)),int (i:Int),int h]
def ahk(code:List Int)(i:Nat):Prop:=i<=code.length/\code.length<=1048576
def DrR(g:Value)(code:List Int)(R:AV->Prop):AV->List (Nat×AO)->Prop:=fun x ob=>∃i h,ahk code i/\R x/\ob=[(0,ahm g code i h)]
def DrI(R:Int->Prop):AV->Prop:=fun x=>∃n,R n/\x=int n
theorem ahn{g:Value}{code:List Int}{i:Nat}{h:Int}{R:AV->Prop}:∀x bd,DrR g code R x bd->pins [(0,ahm g code i h)] bd [0]:=fun x bd ⟨_,_,_,_,e⟩=>by
 subst e;exact⟨stays.box (Eq.refl 3),trivial⟩
theorem ajD(x:Int)(m:Nat)(hm:m<9223372036854775808):0<=bits .and .i64 x (m:Int)/\bits .and .i64 x (m:Int)<=m:=akO x m hm
theorem ajE{n m:Int}(h0:0<=n)(hm:1<=m):0<=n.tmod m/\n.tmod m<m:=⟨Int.tmod_nonneg _ h0,Int.tmod_lt_of_pos _ x_2⟩

set_option maxHeartbeats 16000000
set_option maxRecDepth 100000
theorem akD(code:List Int)(hm:code.length<=1048576):GX prog 96 [.p (.ab 5 1 (ah ahN code))] [] (fun x ob=>∃h,x=.ptr 31 0 0/\ob=[(31,.box 224 none [.p (.ab 5 1 (ah ahN code)),int ((0:Nat):Int),int h])]):=by
 refine GX.intro (rs:=[.tmp 2]) func96 rfl ntmps96 x_8 ⟨rfl,trivial⟩ ?_;intro L O w0;refine sL<|e9 Z<|nA<|bm Z<|ba kE Z ?_;refine eo rfl ⟨rfl,ce (by rw[ap];unfold i64;omega)⟩<|ao Z<|Y<|aS<|sL<|ao Z<|Y<|aB ?_;refine aW [0,2] [] (D:=Nat×Int) (fun d=>[(4,int (d.1:Int)),(3,int d.2)]) (fun d=>[]) (fun d=>d.1<=code.length) (fun d=>code.length-d.1) ((0,_)) (Nat.zero_le _) ⟨rfl,rfl,trivial⟩ trivial ?_;intro ⟨j,q⟩ hI;replace hI:j<=code.length:=hI;refine aS<|sL<|ae Z<|bm Z<|ba kE Z<|ak Z<|aQ Z ?_;refine AL.bool (t:=12) rfl ?_ ?_
 ·intro V;refine ae Z<|ak Z<|bj Z<|Y ?_;refine AW.cond rfl ?_ ?_
  ·intro h2;refine aK<|gT<|aS<|aB<|aL<|ae Z<|lq (rd (x:=U _ _) (kg Z Z Z (Fd Z) Z) Z)<|bm Z<|ae Z ?_;have hj:j<code.length:=by have h:=V;rw[ap]at h;simp only[decide_eq_true_eq,Bool.and_eq_true]at h;omega
   refine li j fh Z (bS hj)<|oy tf Z<|lq (rd (x:=U _ _) (me Z pK lM Z) Z)<|lq (rd (x:=U _ _) (kg Z Z Z (N7 Z) Z) Z)<|lq (rd (x:=U _ _) (kg Z Z Z (N7 Z) Z) Z)<|lq (rd (x:=U _ _) (kg Z Z Z (N8 Z) Z) Z)<|ao Z<|lN<|gB<|gT<|aL<|ae Z<|bg Z<|ao Z<|Y ?_;refine⟨(j+1,_),hj,by show code.length-(j+1)<code.length-j;omega,x_85,trivial,rfl,rfl⟩
  intro h2;refine aE<|eT<|eT<|eB<|gA<|bm Z<|ae Z<|lT [2,28,29] [] ?_;refine lq (rd (x:=.agg [vL _ _ _,U _ _,U _ _]) (cP Z ajw Z Z Z) Z)<|ab (zX 31 Z) Z<|lC Z<|Y<|aR ?_;refine fN (.ptr 31 0 0) [(31,.box 224 none [.p (.ab 5 1 (ah ahN code)),int ((0:Nat):Int),int q])] ?_ rfl ⟨rfl,trivial⟩;exact⟨_,rfl,rfl⟩
 intro V;refine aa Z<|aa Z<|bL Z<|Y<|aN Z<|aE<|eT<|eT<|eB<|gA<|bm Z<|ae Z<|lq (rd (x:=.agg [vL _ _ _,U _ _,U _ _]) (cP Z ajw Z Z Z) Z)<|ab (zX 31 Z) Z<|lC Z<|Y<|aR ?_;refine fN (.ptr 31 0 0) [(31,.box 224 none [.p (.ab 5 1 (ah ahN code)),int ((0:Nat):Int),int q])] ?_ rfl ⟨rfl,trivial⟩;exact⟨_,rfl,rfl⟩
theorem aip(g:Value)(code:List Int)(i:Nat)(h:Int)(hc:ahk code i):GX prog 184 [.ptr 0 0 0] [(0,ahm g code i h)] (DrR g code (DrI fun n=>0<=n/\n<=255)):=by
 refine GX.intro (rs:=[.tmp 2]) func184 rfl ntmps184 x_8 ⟨rfl,trivial⟩ ?_;intro L O w0;refine sL<|ao Z<|nA<|aM Z<|aM Z<|lc Z<|lf 2 aiz Z<|aj ac Z<|lq (rd (x:=U _ _) (kg Z Z Z (Fd Z) Z) Z)<|lq (rd (x:=U _ _) (kg Z Z Z (N7 Z) Z) Z)<|lc Z<|lf 2 aiz Z<|ab (zB 0 ca cb Z) Z<|Y<|aS<|aF []<|pq 0 (dJ Z)<|pq 1 (qc Z)<|pq 2 (qf 2 aiz Z)<|sq 3 (aZ ac Z) ?_;refine sq 4 (iC rfl ⟨rfl,by decide,by decide⟩)<|vq 5 (cG rfl)<|vq 6 (rc rfl)<|vq 7 (rf 2 aiz rfl)<|vq 8 (aZ ac rfl) ?_;refine vq 9 (iC rfl ⟨rfl,by decide,by decide⟩)<|vq 10 (rd (x:=U _ _) (kg rfl rfl rfl (akM rfl) rfl) rfl)<|vq 11 (rd (x:=U _ _) (kg rfl rfl rfl (N8 rfl) rfl) rfl)<|vq 12 (j8 rfl)<|fD<|gT<|aS<|aS<|aF []<|pq 0 (dJ rfl)<|pq 1 (qc rfl)<|pq 2 (qf 1 aiy rfl)<|sq 3 (aZ ac rfl)<|vq 4 (cG rfl)<|vq 5 (rc rfl)<|fT [0,2,3,28,30] [0] ?_;refine vq 6 (rf 0 ajv Z)<|vq 7 (jj kb Z)<|vq 8 (le kE Z)<|vq 9 (dt Z)<|fD<|gT ?_;refine AW.cond rfl ?_ ?_
 ·intro V;refine aS<|aF []<|pq 0 (gL (U _ _) Z)<|pq 1 (dJ Z)<|pq 2 (qc Z)<|pq 3 (qf 0 ajv Z)<|sq 4 (jj kb Z)<|vq 5 (cG Z)<|vq 6 (rc Z)<|vq 7 (rf 1 aiy Z)<|vq 8 (aZ ac Z) ?_;have hi:i<code.length:=by have h:=V;rw[ap]at h;simp only[decide_eq_true_eq]at h;omega
  refine vq 9 (ri i fh Z (bS hi))<|vq 10 (qU tf Z)<|vq 11 (rd (x:=U _ _) (me Z pK lM Z) Z)<|vq 12 (rd (x:=U _ _) (kg Z Z Z (N7 Z) Z) Z)<|vq 13 (rd (x:=U _ _) (kg Z Z Z (N8 Z) Z) Z)<|vq 14 (j8 Z)<|fD<|gT<|aL<|aM Z<|aM Z<|lc Z<|lf 1 aiy Z<|aj ac Z ?_;refine eo rfl ⟨rfl,ce (by unfold i64;have:=hc.2;omega)⟩<|lc Z<|lf 1 aiy Z<|ab (zB 0 ca cb rfl) Z<|lT [2,3] [0] ?_;refine nA<|ae Z<|ao Z<|Y<|aR ?_;refine fN (int _) [(0,ahm g code (i+1) _)] ?_ rfl ⟨(congrArg (fun z:Int=>AO.box 224 (some g) [.p (.ab 5 1 (ah ahN code)),int z,int _]) x_2),trivial⟩;exact⟨i+1,_,⟨hi,hc.2⟩,⟨_,ajD _ 255 x_3,rfl⟩,rfl⟩
 intro V;refine aK<|gA<|ae Z<|ao Z<|Y<|aR ?_;refine fN (int _) [(0,ahm g code i _)] ?_ rfl ⟨rfl,trivial⟩;exact⟨i,_,hc,⟨_,ajD _ 255 x_3,rfl⟩,rfl⟩
theorem x_11{p:Prop}(c:p:=by exact ⟨⟨0,rfl,rfl⟩,trivial⟩):p:=c
theorem ahp(g:Value)(code:List Int)(i:Nat)(h m:Int)(hc:ahk code i):GX prog 98 [.ptr 0 0 0,int m] [(0,ahm g code i h)] (DrR g code (DrI fun n=>0<=n/\(n<m\/m<=0/\n=0))):=by
 refine GX.intro (rs:=[.tmp 4]) func98 rfl ntmps98 x_8 ⟨rfl,trivial⟩ ?_;intro L O w0;refine sL<|ao Z<|Y<|aS<|sL<|ae Z<|ak Z<|Y ?_;refine AW.cond rfl ?_ ?_
 ·intro V;refine sL<|ao Z<|Y<|aR<|rT ?_;have Ej:m<=0:=by have h:=V;simpa using h
  refine fN (int 0) [(0,ahm g code i h)] ?_ rfl ⟨rfl,trivial⟩;exact⟨i,h,hc,⟨0,⟨by omega,.inr ⟨Ej,rfl⟩⟩,rfl⟩,rfl⟩
 intro V;refine aK<|gT<|aS<|sL<|ae Z<|ak Z<|Y ?_;refine AW.cond rfl ?_ ?_
 ·intro h2;refine sL<|aM Z ?_;refine alX [(0,0)] [] [0] func184 (aip g code _ _ hc) x_11 (ahn) Z ?_;intro xz1 oz1 fa;obtain⟨i1,q1,qC,⟨n1,⟨na1,nb1⟩,rfl⟩,rfl⟩:=fa;refine ae rfl ?_;refine eo rfl ⟨rfl,by have h:=V;simp only[decide_eq_false_iff_not]at h;omega⟩<|ao Z<|Y<|aR<|rT ?_;have hm1:1<=m:=by have h:=V;simp only[decide_eq_false_iff_not]at h;omega
  obtain⟨z1,z2⟩:=ajE (n:=n1) (m:=m) x_2 hm1;refine fN (int (n1.tmod m)) [(0,ahm g code i1 q1)] ?_ rfl ⟨rfl,trivial⟩;exact⟨i1,q1,qC,⟨_,⟨z1,.inl z2⟩,rfl⟩,rfl⟩
 intro h2;refine aK<|gA<|aM Z ?_;refine alX [(0,0)] [] [0] func184 (aip g code _ _ hc) x_11 (ahn) Z ?_;intro xz2 oz2 hz2;obtain⟨i2,q2,Cj,⟨n2,⟨na2,nb2⟩,rfl⟩,rfl⟩:=hz2;refine ao Z<|nA<|aM Z ?_;refine alX [(0,0)] [] [0] func184 (aip g code _ _ Cj) x_11 (ahn) Z ?_;intro xz3 oz3 hz3;obtain⟨i3,q3,hc3,⟨ahG,⟨na3,nb3⟩,rfl⟩,rfl⟩:=hz3;refine lT [0,1,4,5,20] [0] ?_;refine ao Z<|nA<|aM Z ?_;refine alX [(0,0)] [] [0] func184 (aip g code _ _ hc3) x_11 (ahn) Z ?_;intro xz4 oz4 hz4;obtain⟨i4,q4,hc4,⟨ahZ,⟨na4,nb4⟩,rfl⟩,rfl⟩:=hz4;refine ao Z<|nA<|aM Z ?_;refine alX [(0,0)] [] [0] func184 (aip g code _ _ hc4) x_11 (ahn) Z ?_;intro xz5 oz5 hz5;obtain⟨i5,q5,hc5,⟨ahU,⟨na5,nb5⟩,rfl⟩,rfl⟩:=hz5;refine ao Z<|nA<|ae Z<|bg Z<|ae Z<|bg Z<|bg Z<|ae Z<|bg Z<|bg Z<|ae Z<|bg Z<|ae Z ?_;refine eo rfl ⟨rfl,by have h:=V;simp only[decide_eq_false_iff_not]at h;omega⟩<|ao Z<|Y<|aR ?_;have hm1:1<=m:=by have h:=V;simp only[decide_eq_false_iff_not]at h;omega
 obtain⟨z1,z2⟩:=ajE (n:=(n2*16777216+ahG*65536+ahZ*256+ahU)) (m:=m) x_2 hm1;refine fN (int ((n2*16777216+ahG*65536+ahZ*256+ahU).tmod m)) [(0,ahm g code i5 q5)] ?_ rfl ⟨rfl,trivial⟩;exact⟨i5,q5,hc5,⟨_,⟨z1,.inl z2⟩,rfl⟩,rfl⟩
theorem akP{n:Int}(h0:0<=n)(V:n<51):0<1*(2:Int) ^ n.toNat/\1*(2:Int) ^ n.toNat<=1125899906842624:=by
 obtain⟨k,rfl⟩:=Int.eq_ofNat_of_zero_le h0;have hk:k<51:=by omega
 have e:((k:Int)).toNat=k:=Int.toNat_natCast k;rw[e,Int.one_mul];refine⟨Int.pow_pos x_3,?_⟩;have h2:(2:Nat) ^ k<=2 ^ 50:=Nat.pow_le_pow_right x_3 x_2;have h3:((2 ^ k:Nat):Int)<=((2 ^ 50:Nat):Int):=Int.ofNat_le.2 h2;rw[Int.natCast_pow]at h3;have h4:((2 ^ 50:Nat):Int)=1125899906842624:=by decide
 omega
theorem x_88{p:Prop}(c:p:=by exact ⟨_,by unfold i64;omega,rfl⟩):p:=c
theorem ah9(g:Value)(code:List Int)(i:Nat)(h:Int)(hc:ahk code i):GX prog 193 [.ptr 0 0 0] [(0,ahm g code i h)] (DrR g code (DrI i64)):=by
 refine GX.intro (rs:=[.tmp 2]) func193 rfl ntmps193 x_8 ⟨rfl,trivial⟩ ?_;intro L O w0;refine sL<|ao Z<|nA<|aM Z ?_;refine alX [(0,0)] [] [0] func98 (ahp g code _ _ _ hc) x_11 (ahn) Z ?_;intro xz1 oz1 fa;obtain⟨i1,q1,qC,⟨n1,⟨na1,nb1⟩,rfl⟩,rfl⟩:=fa;refine ao Z<|Y<|aS<|sL<|ae Z<|ak Z<|Y ?_;refine AW.cond rfl ?_ ?_
 ·intro V;refine sL<|aM Z ?_;refine alX [(0,0)] [] [0] func98 (ahp g code _ _ _ qC) x_11 (ahn) Z ?_;intro xz2 oz2 hz2;obtain⟨i2,q2,Cj,⟨n2,⟨na2,nb2⟩,rfl⟩,rfl⟩:=hz2;refine bg Z<|ao Z<|Y<|aR<|rT ?_;refine fN (int _) [(0,ahm g code i2 q2)] ?_ rfl ⟨rfl,trivial⟩;exact⟨i2,q2,Cj,x_88,rfl⟩
 intro V;refine aK<|gT<|aS<|sL<|ae Z<|ak Z<|Y ?_;refine AW.cond rfl ?_ ?_
 ·intro h2;refine sL<|aM Z ?_;refine alX [(0,0)] [] [0] func98 (ahp g code _ _ _ qC) x_11 (ahn) Z ?_;intro xz3 oz3 hz3;obtain⟨i3,q3,hc3,⟨ahG,⟨na3,nb3⟩,rfl⟩,rfl⟩:=hz3;refine lT [0,2,3,14] [0] ?_;refine bg Z<|ao Z<|Y<|aR<|rT ?_;refine fN (int _) [(0,ahm g code i3 q3)] ?_ rfl ⟨rfl,trivial⟩;exact⟨i3,q3,hc3,x_88,rfl⟩
 intro h2;refine aK<|gT<|aS<|sL<|ae Z<|ak Z<|Y ?_;refine AW.cond rfl ?_ ?_
 ·intro h3;refine sL<|aM Z ?_;refine alX [(0,0)] [] [0] func98 (ahp g code _ _ _ qC) x_11 (ahn) Z ?_;intro xz4 oz4 hz4;obtain⟨i4,q4,hc4,⟨ahZ,⟨na4,nb4⟩,rfl⟩,rfl⟩:=hz4;refine bg Z<|ao Z<|Y<|aR<|rT ?_;refine fN (int _) [(0,ahm g code i4 q4)] ?_ rfl ⟨rfl,trivial⟩;exact⟨i4,q4,hc4,x_88,rfl⟩
 intro h3;refine aK<|gT<|aS<|sL<|ae Z<|ak Z<|Y ?_;refine AW.cond rfl ?_ ?_
 ·intro h4;refine sL<|aM Z ?_;refine alX [(0,0)] [] [0] func98 (ahp g code _ _ _ qC) x_11 (ahn) Z ?_;intro xz5 oz5 hz5;obtain⟨i5,q5,hc5,⟨ahU,⟨na5,nb5⟩,rfl⟩,rfl⟩:=hz5;refine bg Z<|ao Z<|Y<|aR<|rT ?_;refine fN (int _) [(0,ahm g code i5 q5)] ?_ rfl ⟨rfl,trivial⟩;exact⟨i5,q5,hc5,x_88,rfl⟩
 intro h4;refine aK<|gT<|aS<|sL<|ae Z<|ak Z<|Y ?_;refine AW.cond rfl ?_ ?_
 ·intro h5;refine sL<|aM Z ?_;refine alX [(0,0)] [] [0] func98 (ahp g code _ _ _ qC) x_11 (ahn) Z ?_;intro xz6 oz6 hz6;obtain⟨i6,q6,hc6,⟨ahB,⟨na6,nb6⟩,rfl⟩,rfl⟩:=hz6;refine lT [0,2,3,29] [0] ?_;refine bg Z<|ao Z<|Y<|aR<|rT ?_;refine fN (int _) [(0,ahm g code i6 q6)] ?_ rfl ⟨rfl,trivial⟩;exact⟨i6,q6,hc6,x_88,rfl⟩
 intro h5;refine aK<|gT<|aS<|sL<|ae Z<|ak Z<|Y ?_;refine AW.cond rfl ?_ ?_
 ·intro h6;refine sL<|aM Z ?_;refine alX [(0,0)] [] [0] func98 (ahp g code _ _ _ qC) x_11 (ahn) Z ?_;intro xz7 oz7 hz7;obtain⟨i7,q7,hc7,⟨ah8,⟨na7,nb7⟩,rfl⟩,rfl⟩:=hz7;refine bg Z<|ao Z<|Y<|aR<|rT ?_;refine fN (int _) [(0,ahm g code i7 q7)] ?_ rfl ⟨rfl,trivial⟩;exact⟨i7,q7,hc7,x_88,rfl⟩
 intro h6;refine aK<|gT<|aS<|sL<|ae Z<|ak Z<|Y ?_;refine AW.cond rfl ?_ ?_
 ·intro h7;refine sL<|aM Z ?_;refine alX [(0,0)] [] [0] func98 (ahp g code _ _ _ qC) x_11 (ahn) Z ?_;intro xz8 oz8 hz8;obtain⟨i8,q8,hc8,⟨ahC,⟨na8,nb8⟩,rfl⟩,rfl⟩:=hz8;obtain⟨hs1,hs2⟩:=akP (n:=ahC) na8 x_2;refine eo rfl ⟨rfl,na8,by omega,by show IntKind.i64.wrap _=_;exact ce (by unfold i64;omega)⟩<|ao Z<|Y<|aR<|rT ?_;refine fN (int _) [(0,ahm g code i8 q8)] ?_ rfl ⟨rfl,trivial⟩;exact⟨i8,q8,hc8,x_88,rfl⟩
 intro h7;refine aK<|gA<|aM Z ?_;refine alX [(0,0)] [] [0] func98 (ahp g code _ _ _ qC) x_11 (ahn) Z ?_;intro xz9 oz9 hz9;obtain⟨i9,q9,hc9,⟨ahT,⟨na9,nb9⟩,rfl⟩,rfl⟩:=hz9;refine lT [0,2,42] [0] ?_;refine aM rfl ?_;refine alX [(0,0)] [] [0] func98 (ahp g code _ _ _ hc9) x_11 (ahn) Z ?_;intro aiW aiX ah0;obtain⟨i10,q10,aik,⟨n10,⟨ail,aiY⟩,rfl⟩,rfl⟩:=ah0;have hm1:0<=ahT*n10:=Int.mul_nonneg na9 ail;have hm2:ahT*n10<=1000000*1000000:=Int.mul_le_mul x_2 x_2 ail x_3;refine bg Z<|ao Z<|Y<|aR ?_;refine fN (int _) [(0,ahm g code i10 q10)] ?_ rfl ⟨rfl,trivial⟩;exact⟨i10,q10,aik,x_88,rfl⟩

def DrE:AV->Prop:=fun x=>∃e,l7 e/\x=ju e
abbrev ahy(T:Option Value)(a b c d e f:Int)(g:Bool):AO:=.box 81 T [int a,int b,int c,int d,int e,int f,aD g]
abbrev Ev7:=Int×Int×Int×Int×Int×Int×Bool
abbrev f5(z:Ev7):aV:=⟨z.1,z.2.1,z.2.2.1,z.2.2.2.1,z.2.2.2.2.1,z.2.2.2.2.2.1,z.2.2.2.2.2.2⟩
theorem akQ(x:Int):-3<=x.tmod 4/\x.tmod 4<=3:=by cases x<;>simp[Int.tmod]<;>omega
theorem x_69{p:Prop}(c:p:=by intro s hs;cases hs;decide):p:=c
theorem aim(g:Value)(code:List Int)(i:Nat)(h:Int)(hc:ahk code i):GX prog 104 [.ptr 0 0 0] [(0,ahm g code i h)] (DrR g code DrE):=by
 refine GX.intro (rs:=[.cell 2 81 (some 7)]) func104 rfl ntmps104 x_8 ⟨rfl,rfl,dD,trivial⟩ ?_;intro L O w0;refine sL<|ab (zA 2002 jl Z) Z<|nA<|aM Z ?_;refine alX [(0,0)] [] [0] func98 (ahp g code _ _ _ hc) x_11 (ahn) Z ?_;intro xz1 oz1 fa;obtain⟨i1,q1,qC,⟨n1,⟨na1,nb1⟩,rfl⟩,rfl⟩:=fa;refine bg Z<|ao Z<|nA<|ae Z<|lq (rd (x:=.agg [U _ _,U _ _,U _ _,U _ _,U _ _,U _ _,vB false]) (cP Z xF Z Z Z) Z)<|ab (zA 2004 jl Z) Z<|ab (zB 2004 mZ m0 Z) Z<|nA<|ae Z<|ab (zC [(60,60)] [60] [] func194 (Z4 _) (trivial) Z Z) Z<|bD Z<|Y ?_;refine aJ [0,2,4,5] [60,2002] (D:=Nat×Int×Ev7) (fun d=>[]) (fun d=>[(0,ahm g code d.1 d.2.1),(2004,ahy none d.2.2.1 d.2.2.2.1 d.2.2.2.2.1 d.2.2.2.2.2.1 d.2.2.2.2.2.2.1 d.2.2.2.2.2.2.2.1 d.2.2.2.2.2.2.2.2)]) (fun d=>ahk code d.1/\l7 (f5 d.2.2)) ?_ ?_
 ·refine sL<|bW Z<|lq (rj 0 n4 rfl (by show 0<6;decide))<|lq (rd (x:=vB _) (dT rfl jN rfl rfl rfl (rfl) rfl) rfl)<|Y ?_;refine AW.cond rfl ?_ ?_
  ·intro V;refine aL<|aM Z ?_;refine alX [(0,0)] [] [0] func98 (ahp g code _ _ _ qC) x_11 (ahn) Z ?_;intro xz2 oz2 hz2;obtain⟨i2,q2,Cj,⟨n2,⟨na2,nb2⟩,rfl⟩,rfl⟩:=hz2;refine lT [0,2,4,5,17] [0,60,2002,2004] ?_;refine bg Z<|lf 1 gE Z<|ab (zB 2004 ca cb Z) Z<|Y ?_;refine⟨(_,_,_,_,_,_,_,_,_),(by refine⟨by assumption,?_⟩;simp only[l7,i64,f5]at *;omega),trivial,⟨rfl,rfl,trivial⟩,rfl,rfl⟩
  intro V;refine aK<|gT ?_;refine⟨(_,_,_,_,_,_,_,_,_),(by refine⟨by assumption,?_⟩;simp only[l7,i64,f5]at *;omega),trivial,⟨rfl,rfl,trivial⟩,rfl,rfl⟩
 intro ⟨iJ6,qJ6,ea6,eb6,ec6,ed6,ee6,ef6,eg6⟩ hJ6;dsimp only;obtain⟨ah5,ain⟩:=hJ6;replace ah5:ahk code iJ6:=ah5;unfold l7 i64 at ain;simp only[f5]at ain;refine aJ [0,2,4,5] [60,2002] (D:=Nat×Int×Ev7) (fun d=>[]) (fun d=>[(0,ahm g code d.1 d.2.1),(2004,ahy none d.2.2.1 d.2.2.2.1 d.2.2.2.2.1 d.2.2.2.2.2.1 d.2.2.2.2.2.2.1 d.2.2.2.2.2.2.2.1 d.2.2.2.2.2.2.2.2)]) (fun d=>ahk code d.1/\l7 (f5 d.2.2)) ?_ ?_
 ·refine sL<|bW Z<|lq (rj 1 n4 rfl (by show 1<6;decide))<|lq (rd (x:=vB _) (dT rfl jN rfl rfl rfl (rfl) rfl) rfl)<|Y ?_;refine AW.cond rfl ?_ ?_
  ·intro h2;refine aL<|aM Z ?_;refine alX [(0,0)] [] [0] func98 (ahp g code _ _ _ ah5) x_11 (ahn) Z ?_;intro xz3 oz3 hz3;obtain⟨i3,q3,hc3,⟨ahG,⟨na3,nb3⟩,rfl⟩,rfl⟩:=hz3;refine bg Z<|lf 2 dn Z<|ab (zB 2004 ca cb Z) Z<|Y ?_;refine⟨(_,_,_,_,_,_,_,_,_),(by refine⟨by assumption,?_⟩;simp only[l7,i64,f5]at *;omega),trivial,⟨rfl,rfl,trivial⟩,rfl,rfl⟩
  intro h2;refine aK<|gT ?_;refine⟨(_,_,_,_,_,_,_,_,_),(by refine⟨by assumption,?_⟩;simp only[l7,i64,f5]at *;omega),trivial,⟨rfl,rfl,trivial⟩,rfl,rfl⟩
 intro ⟨iJ8,qJ8,ea8,eb8,ec8,ed8,ee8,ef8,eg8⟩ hJ8;dsimp only;obtain⟨aid,aio⟩:=hJ8;replace aid:ahk code iJ8:=aid;unfold l7 i64 at aio;simp only[f5]at aio;refine aJ [0,2,4,5] [60,2002] (D:=Nat×Int×Ev7) (fun d=>[]) (fun d=>[(0,ahm g code d.1 d.2.1),(2004,ahy none d.2.2.1 d.2.2.2.1 d.2.2.2.2.1 d.2.2.2.2.2.1 d.2.2.2.2.2.2.1 d.2.2.2.2.2.2.2.1 d.2.2.2.2.2.2.2.2)]) (fun d=>ahk code d.1/\l7 (f5 d.2.2)) ?_ ?_
 ·refine sL<|bW Z<|lq (rj 2 n4 rfl (by show 2<6;decide))<|lq (rd (x:=vB _) (dT rfl jN rfl rfl rfl (rfl) rfl) rfl)<|Y ?_;refine AW.cond rfl ?_ ?_
  ·intro h3;refine aG 8 [0]<|tq 0 (rf 2 dn Z)<|tq 1 (aZ ac Z)<|yq 2 (cG Z) ?_;refine abA (i:=3) rfl x_34 (Un [(0,0)] [] [0] rfl x_69 rfl func98 rfl rfl (ahp g code _ _ _ aid) ⟨rfl,rfl,rfl⟩ x_11 (ahn) rfl) (exK (l:=[0]) rfl rfl) rfl ?_;rintro _ _ ⟨xz5,oz5,hz5,rfl,rfl⟩;obtain⟨i5,q5,hc5,⟨ahU,⟨na5,nb5⟩,rfl⟩,rfl⟩:=hz5;refine yq 4 (rd (x:=U _ _) (kg rfl rfl rfl (N7 rfl) rfl) rfl) ?_;refine yq 5 (iC rfl ⟨rfl,by decide⟩) ?_;have ht4:=akQ (IntKind.i64.wrap (ec8+ahU));refine yq 6 (qV rfl (by unfold i64;omega))<|yq 7 (rf 3 fK rfl)<|yl rfl (zB 2004 ca cb rfl)<|gT ?_;refine⟨(_,_,_,_,_,_,_,_,_),(by refine⟨by assumption,?_⟩;simp only[l7,i64,f5]at *;omega),trivial,⟨rfl,rfl,trivial⟩,rfl,rfl⟩
  intro h3;refine aK<|gT ?_;refine⟨(_,_,_,_,_,_,_,_,_),(by refine⟨by assumption,?_⟩;simp only[l7,i64,f5]at *;omega),trivial,⟨rfl,rfl,trivial⟩,rfl,rfl⟩
 intro ⟨iJ10,qJ10,ea10,eb10,ec10,ed10,ee10,ef10,eg10⟩ hJ10;dsimp only;obtain⟨ai8,ajF⟩:=hJ10;replace ai8:ahk code iJ10:=ai8;unfold l7 i64 at ajF;simp only[f5]at ajF;refine aJ [0,2,4,5] [60,2002] (D:=Nat×Int×Ev7) (fun d=>[]) (fun d=>[(0,ahm g code d.1 d.2.1),(2004,ahy none d.2.2.1 d.2.2.2.1 d.2.2.2.2.1 d.2.2.2.2.2.1 d.2.2.2.2.2.2.1 d.2.2.2.2.2.2.2.1 d.2.2.2.2.2.2.2.2)]) (fun d=>ahk code d.1/\l7 (f5 d.2.2)) ?_ ?_
 ·refine sL<|bW Z<|lq (rj 3 n4 rfl (by show 3<6;decide))<|lq (rd (x:=vB _) (dT rfl jN rfl rfl rfl (rfl) rfl) rfl)<|Y ?_;refine AW.cond rfl ?_ ?_
  ·intro h4;refine aL<|aM Z ?_;refine alX [(0,0)] [] [0] func98 (ahp g code _ _ _ ai8) x_11 (ahn) Z ?_;intro xz6 oz6 hz6;obtain⟨i6,q6,hc6,⟨ahB,⟨na6,nb6⟩,rfl⟩,rfl⟩:=hz6;refine bg Z<|bg Z<|lf 4 bN Z<|ab (zB 2004 ca cb Z) Z<|Y ?_;refine⟨(_,_,_,_,_,_,_,_,_),(by refine⟨by assumption,?_⟩;simp only[l7,i64,f5]at *;omega),trivial,⟨rfl,rfl,trivial⟩,rfl,rfl⟩
  intro h4;refine aK<|gT ?_;refine⟨(_,_,_,_,_,_,_,_,_),(by refine⟨by assumption,?_⟩;simp only[l7,i64,f5]at *;omega),trivial,⟨rfl,rfl,trivial⟩,rfl,rfl⟩
 intro ⟨iJ12,qJ12,ea12,eb12,ec12,ed12,ee12,ef12,eg12⟩ hJ12;dsimp only;obtain⟨ahX,ajG⟩:=hJ12;replace ahX:ahk code iJ12:=ahX;unfold l7 i64 at ajG;simp only[f5]at ajG;refine aJ [0,2,4,5] [60,2002] (D:=Nat×Int×Ev7) (fun d=>[]) (fun d=>[(0,ahm g code d.1 d.2.1),(2004,ahy none d.2.2.1 d.2.2.2.1 d.2.2.2.2.1 d.2.2.2.2.2.1 d.2.2.2.2.2.2.1 d.2.2.2.2.2.2.2.1 d.2.2.2.2.2.2.2.2)]) (fun d=>ahk code d.1/\l7 (f5 d.2.2)) ?_ ?_
 ·refine sL<|bW Z<|lq (rj 4 n4 rfl (by show 4<6;decide))<|lq (rd (x:=vB _) (dT rfl jN rfl rfl rfl (rfl) rfl) rfl)<|Y ?_;refine AW.cond rfl ?_ ?_
  ·intro h5;refine aL<|aM Z ?_;refine alX [(0,0)] [] [0] func98 (ahp g code _ _ _ ahX) x_11 (ahn) Z ?_;intro xz7 oz7 hz7;obtain⟨i7,q7,hc7,⟨ah8,⟨na7,nb7⟩,rfl⟩,rfl⟩:=hz7;refine bg Z<|lf 5 fC Z<|ab (zB 2004 ca cb Z) Z<|Y ?_;refine⟨(_,_,_,_,_,_,_,_,_),(by refine⟨by assumption,?_⟩;simp only[l7,i64,f5]at *;omega),trivial,⟨rfl,rfl,trivial⟩,rfl,rfl⟩
  intro h5;refine aK<|gT ?_;refine⟨(_,_,_,_,_,_,_,_,_),(by refine⟨by assumption,?_⟩;simp only[l7,i64,f5]at *;omega),trivial,⟨rfl,rfl,trivial⟩,rfl,rfl⟩
 intro ⟨iJ14,qJ14,ea14,eb14,ec14,ed14,ee14,ef14,eg14⟩ hJ14;dsimp only;obtain⟨ai9,ajH⟩:=hJ14;replace ai9:ahk code iJ14:=ai9;unfold l7 i64 at ajH;simp only[f5]at ajH;refine aJ [0,2,4,5] [60,2002] (D:=Nat×Int×Ev7) (fun d=>[]) (fun d=>[(0,ahm g code d.1 d.2.1),(2004,ahy none d.2.2.1 d.2.2.2.1 d.2.2.2.2.1 d.2.2.2.2.2.1 d.2.2.2.2.2.2.1 d.2.2.2.2.2.2.2.1 d.2.2.2.2.2.2.2.2)]) (fun d=>ahk code d.1/\l7 (f5 d.2.2)) ?_ ?_
 ·refine aL<|bW Z<|lq (rj 5 n4 rfl (by show 5<6;decide))<|lq (rd (x:=vB _) (dT rfl jN rfl rfl rfl (rfl) rfl) rfl)<|aQ rfl ?_;refine AL.bool (t:=56) rfl ?_ ?_
  ·intro h6;refine aM rfl ?_;refine alX [(0,0)] [] [0] func98 (ahp g code _ _ _ ai9) x_11 (ahn) Z ?_;intro xz8 oz8 hz8;obtain⟨i8,q8,hc8,⟨ahC,⟨na8,nb8⟩,rfl⟩,rfl⟩:=hz8;refine ak Z<|bj Z<|lf 6 pw Z<|ab (zB 2004 ES ET Z) Z<|Y ?_;refine⟨(_,_,_,_,_,_,_,_,_),(by refine⟨by assumption,?_⟩;simp only[l7,i64,f5]at *;omega),trivial,⟨rfl,rfl,trivial⟩,rfl,rfl⟩
  intro h6;refine aa Z<|aa Z<|aa Z<|bL Z<|lf 6 pw Z<|ab (zB 2004 ES ET Z) Z<|Y ?_;refine⟨(_,_,_,_,_,_,_,_,_),(by refine⟨by assumption,?_⟩;simp only[l7,i64,f5]at *;omega),trivial,⟨rfl,rfl,trivial⟩,rfl,rfl⟩
 intro ⟨iJ15,qJ15,ea15,eb15,ec15,ed15,ee15,ef15,eg15⟩ hJ15;dsimp only;obtain⟨ahM,aiq⟩:=hJ15;replace ahM:ahk code iJ15:=ahM;unfold l7 i64 at aiq;simp only[f5]at aiq;refine aJ [2,4] [60,2002] (D:=Nat×Int×Ev7) (fun d=>[]) (fun d=>[(0,ahm g code d.1 d.2.1),(2004,ahy none d.2.2.1 d.2.2.2.1 d.2.2.2.2.1 d.2.2.2.2.2.1 d.2.2.2.2.2.2.1 d.2.2.2.2.2.2.2.1 d.2.2.2.2.2.2.2.2)]) (fun d=>ahk code d.1/\l7 (f5 d.2.2)) ?_ ?_
 ·refine sL<|aM Z ?_;refine alX [(0,0)] [] [0] func98 (ahp g code _ _ _ ahM) x_11 (ahn) Z ?_;intro xz9 oz9 hz9;obtain⟨i9,q9,hc9,⟨ahT,⟨na9,nb9⟩,rfl⟩,rfl⟩:=hz9;refine ak Z<|aQ Z ?_;refine AL.bool (t:=65) rfl ?_ ?_
  ·intro h7;refine bW Z<|lq (rj 3 n4 rfl (by show 3<6;decide))<|lq (rd (x:=vB _) (dT rfl jN rfl rfl rfl (rfl) rfl) rfl)<|bj Z<|Y ?_;refine AW.cond rfl ?_ ?_
   ·intro h8;refine aL<|aM Z ?_;refine alX [(0,0)] [] [0] func98 (ahp g code _ _ _ hc9) x_11 (ahn) Z ?_;intro aiW aiX ah0;obtain⟨i10,q10,aik,⟨n10,⟨ail,aiY⟩,rfl⟩,rfl⟩:=ah0;refine bg Z<|lf 4 bN Z<|ab (zB 2004 ca cb Z) Z<|Y ?_;refine⟨(_,_,_,_,_,_,_,_,_),(by refine⟨by assumption,?_⟩;simp only[l7,i64,f5]at *;omega),trivial,⟨rfl,rfl,trivial⟩,rfl,rfl⟩
   intro h8;refine aK<|gT ?_;refine⟨(_,_,_,_,_,_,_,_,_),(by refine⟨by assumption,?_⟩;simp only[l7,i64,f5]at *;omega),trivial,⟨rfl,rfl,trivial⟩,rfl,rfl⟩
  intro h7;refine aa Z<|aa Z<|aa Z<|bL Z<|Y<|aN Z<|aK<|gT ?_;refine⟨(_,_,_,_,_,_,_,_,_),(by refine⟨by assumption,?_⟩;simp only[l7,i64,f5]at *;omega),trivial,⟨rfl,rfl,trivial⟩,rfl,rfl⟩
 intro ⟨iJ17,qJ17,ea17,eb17,ec17,ed17,ee17,ef17,eg17⟩ hJ17;dsimp only;obtain⟨air,ais⟩:=hJ17;replace air:ahk code iJ17:=air;unfold l7 i64 at ais;simp only[f5]at ais;refine sL<|aP (.agg [U _ _,U _ _,U _ _,U _ _,U _ _,U _ _,vB _]) dD Z<|ab (zB 2002 mZ m0 Z) Z<|Y<|aR ?_;refine fN (ju ⟨_,_,_,_,_,_,_⟩) [(0,ahm g code _ _)] ?_ rfl ⟨rfl,trivial⟩;exact⟨_,_,by assumption,⟨_,by simp only[l7,i64]at *;omega,rfl⟩,rfl⟩
theorem akE(g:Value)(code:List Int)(i:Nat)(h:Int)(hc:ahk code i):GX prog 105 [.ptr 0 0 0] [(0,ahm g code i h)] (DrR g code DrE):=by
 refine GX.intro (rs:=[.cell 2 81 (some 7)]) func105 rfl ntmps105 x_8 ⟨rfl,rfl,dD,trivial⟩ ?_;intro L O w0;refine sL<|ab (zA 2002 jl Z) Z<|nA<|aM Z ?_;refine alX [(0,0)] [] [0] func104 (aim g code _ _ hc) x_11 (ahn) Z ?_;intro xz1 oz1 fa;obtain⟨i1,q1,qC,⟨⟨va1,vb1,vc1,vd1,ve1,vf1,vg1⟩,hw1,rfl⟩,rfl⟩:=fa;refine ab (zA 2003 jl Z) Z<|ab (zB 2003 mZ m0 Z) Z<|nA<|aM Z ?_;refine alX [(0,0)] [] [0] func98 (ahp g code _ _ _ qC) x_11 (ahn) Z ?_;intro xz2 oz2 hz2;obtain⟨i2,q2,Cj,⟨n2,⟨na2,nb2⟩,rfl⟩,rfl⟩:=hz2;refine ao Z<|Y ?_;refine aJ [0,2,3,4] [2002] (D:=Nat×Int×Ev7) (fun d=>[]) (fun d=>[(0,ahm g code d.1 d.2.1),(2003,ahy none d.2.2.1 d.2.2.2.1 d.2.2.2.2.1 d.2.2.2.2.2.1 d.2.2.2.2.2.2.1 d.2.2.2.2.2.2.2.1 d.2.2.2.2.2.2.2.2)]) (fun d=>ahk code d.1/\l7 (f5 d.2.2)) ?_ ?_
 ·refine sL<|ae Z<|ak Z<|Y ?_;refine AW.cond rfl ?_ ?_
  ·intro V;refine aL<|aM Z ?_;refine alX [(0,0)] [] [0] func193 (ah9 g code _ _ Cj) x_11 (ahn) Z ?_;intro xz3 oz3 hz3;obtain⟨i3,q3,hc3,⟨ahG,hn3,rfl⟩,rfl⟩:=hz3;refine lf 0 jz Z<|ab (zB 2003 ca cb Z) Z<|lT [0,2,3,4] [0,2002,2003] ?_;refine Y ?_;refine⟨(_,_,_,_,_,_,_,_,_),(by refine⟨by assumption,?_⟩;simp only[l7,i64,f5]at *;omega),trivial,⟨rfl,rfl,trivial⟩,rfl,rfl⟩
  intro V;refine aK<|gT ?_;refine⟨(_,_,_,_,_,_,_,_,_),(by refine⟨by assumption,?_⟩;simp only[l7,i64,f5]at *;omega),trivial,⟨rfl,rfl,trivial⟩,rfl,rfl⟩
 intro ⟨iJ5,qJ5,ea5,eb5,ec5,ed5,ee5,ef5,eg5⟩ hJ5;dsimp only;obtain⟨ah',ajI⟩:=hJ5;replace ah':ahk code iJ5:=ah';unfold l7 i64 at ajI;simp only[f5]at ajI;refine aJ [0,2,3,4] [2002] (D:=Nat×Int×Ev7) (fun d=>[]) (fun d=>[(0,ahm g code d.1 d.2.1),(2003,ahy none d.2.2.1 d.2.2.2.1 d.2.2.2.2.1 d.2.2.2.2.2.1 d.2.2.2.2.2.2.1 d.2.2.2.2.2.2.2.1 d.2.2.2.2.2.2.2.2)]) (fun d=>ahk code d.1/\l7 (f5 d.2.2)) ?_ ?_
 ·refine sL<|ae Z<|ak Z<|Y ?_;refine AW.cond rfl ?_ ?_
  ·intro h2;refine aL<|aM Z ?_;refine alX [(0,0)] [] [0] func193 (ah9 g code _ _ ah') x_11 (ahn) Z ?_;intro xz4 oz4 hz4;obtain⟨i4,q4,hc4,⟨ahZ,hn4,rfl⟩,rfl⟩:=hz4;refine lf 1 gE Z<|ab (zB 2003 ca cb Z) Z<|Y ?_;refine⟨(_,_,_,_,_,_,_,_,_),(by refine⟨by assumption,?_⟩;simp only[l7,i64,f5]at *;omega),trivial,⟨rfl,rfl,trivial⟩,rfl,rfl⟩
  intro h2;refine aK<|gT ?_;refine⟨(_,_,_,_,_,_,_,_,_),(by refine⟨by assumption,?_⟩;simp only[l7,i64,f5]at *;omega),trivial,⟨rfl,rfl,trivial⟩,rfl,rfl⟩
 intro ⟨iJ7,qJ7,ea7,eb7,ec7,ed7,ee7,ef7,eg7⟩ hJ7;dsimp only;obtain⟨aia,ajJ⟩:=hJ7;replace aia:ahk code iJ7:=aia;unfold l7 i64 at ajJ;simp only[f5]at ajJ;refine aJ [0,2,3,4] [2002] (D:=Nat×Int×Ev7) (fun d=>[]) (fun d=>[(0,ahm g code d.1 d.2.1),(2003,ahy none d.2.2.1 d.2.2.2.1 d.2.2.2.2.1 d.2.2.2.2.2.1 d.2.2.2.2.2.2.1 d.2.2.2.2.2.2.2.1 d.2.2.2.2.2.2.2.2)]) (fun d=>ahk code d.1/\l7 (f5 d.2.2)) ?_ ?_
 ·refine sL<|ae Z<|ak Z<|Y ?_;refine AW.cond rfl ?_ ?_
  ·intro h3;refine aL<|aM Z ?_;refine alX [(0,0)] [] [0] func193 (ah9 g code _ _ aia) x_11 (ahn) Z ?_;intro xz5 oz5 hz5;obtain⟨i5,q5,hc5,⟨ahU,hn5,rfl⟩,rfl⟩:=hz5;refine lf 2 dn Z<|ab (zB 2003 ca cb Z) Z<|Y ?_;refine⟨(_,_,_,_,_,_,_,_,_),(by refine⟨by assumption,?_⟩;simp only[l7,i64,f5]at *;omega),trivial,⟨rfl,rfl,trivial⟩,rfl,rfl⟩
  intro h3;refine aK<|gT ?_;refine⟨(_,_,_,_,_,_,_,_,_),(by refine⟨by assumption,?_⟩;simp only[l7,i64,f5]at *;omega),trivial,⟨rfl,rfl,trivial⟩,rfl,rfl⟩
 intro ⟨iJ9,qJ9,ea9,eb9,ec9,ed9,ee9,ef9,eg9⟩ hJ9;dsimp only;obtain⟨ahI,ajK⟩:=hJ9;replace ahI:ahk code iJ9:=ahI;unfold l7 i64 at ajK;simp only[f5]at ajK;refine aJ [0,2,3,4] [2002] (D:=Nat×Int×Ev7) (fun d=>[]) (fun d=>[(0,ahm g code d.1 d.2.1),(2003,ahy none d.2.2.1 d.2.2.2.1 d.2.2.2.2.1 d.2.2.2.2.2.1 d.2.2.2.2.2.2.1 d.2.2.2.2.2.2.2.1 d.2.2.2.2.2.2.2.2)]) (fun d=>ahk code d.1/\l7 (f5 d.2.2)) ?_ ?_
 ·refine sL<|ae Z<|ak Z<|Y ?_;refine AW.cond rfl ?_ ?_
  ·intro h4;refine aL<|lf 2 dn Z<|aj ac Z<|lf 3 fK Z<|ab (zB 2003 ca cb Z) Z<|Y ?_;refine⟨(_,_,_,_,_,_,_,_,_),(by refine⟨by assumption,?_⟩;simp only[l7,i64,f5]at *;omega),trivial,⟨rfl,rfl,trivial⟩,rfl,rfl⟩
  intro h4;refine aK<|gT ?_;refine⟨(_,_,_,_,_,_,_,_,_),(by refine⟨by assumption,?_⟩;simp only[l7,i64,f5]at *;omega),trivial,⟨rfl,rfl,trivial⟩,rfl,rfl⟩
 intro ⟨iJ11,qJ11,ea11,eb11,ec11,ed11,ee11,ef11,eg11⟩ hJ11;dsimp only;obtain⟨ahR,ait⟩:=hJ11;replace ahR:ahk code iJ11:=ahR;unfold l7 i64 at ait;simp only[f5]at ait;refine aJ [0,2,3,4] [2002] (D:=Nat×Int×Ev7) (fun d=>[]) (fun d=>[(0,ahm g code d.1 d.2.1),(2003,ahy none d.2.2.1 d.2.2.2.1 d.2.2.2.2.1 d.2.2.2.2.2.1 d.2.2.2.2.2.2.1 d.2.2.2.2.2.2.2.1 d.2.2.2.2.2.2.2.2)]) (fun d=>ahk code d.1/\l7 (f5 d.2.2)) ?_ ?_
 ·refine sL<|ae Z<|ak Z<|Y ?_;refine AW.cond rfl ?_ ?_
  ·intro h5;refine aL<|aM Z ?_;refine alX [(0,0)] [] [0] func193 (ah9 g code _ _ ahR) x_11 (ahn) Z ?_;intro xz6 oz6 hz6;obtain⟨i6,q6,hc6,⟨ahB,hn6,rfl⟩,rfl⟩:=hz6;refine lf 4 bN Z<|ab (zB 2003 ca cb Z) Z<|Y ?_;refine⟨(_,_,_,_,_,_,_,_,_),(by refine⟨by assumption,?_⟩;simp only[l7,i64,f5]at *;omega),trivial,⟨rfl,rfl,trivial⟩,rfl,rfl⟩
  intro h5;refine aK<|gT ?_;refine⟨(_,_,_,_,_,_,_,_,_),(by refine⟨by assumption,?_⟩;simp only[l7,i64,f5]at *;omega),trivial,⟨rfl,rfl,trivial⟩,rfl,rfl⟩
 intro ⟨iJ13,qJ13,ea13,eb13,ec13,ed13,ee13,ef13,eg13⟩ hJ13;dsimp only;obtain⟨aic,ajL⟩:=hJ13;replace aic:ahk code iJ13:=aic;unfold l7 i64 at ajL;simp only[f5]at ajL;refine aJ [2,3,4] [2002] (D:=Nat×Int×Ev7) (fun d=>[]) (fun d=>[(0,ahm g code d.1 d.2.1),(2003,ahy none d.2.2.1 d.2.2.2.1 d.2.2.2.2.1 d.2.2.2.2.2.1 d.2.2.2.2.2.2.1 d.2.2.2.2.2.2.2.1 d.2.2.2.2.2.2.2.2)]) (fun d=>ahk code d.1/\l7 (f5 d.2.2)) ?_ ?_
 ·refine sL<|ae Z<|ak Z<|Y ?_;refine AW.cond rfl ?_ ?_
  ·intro h6;refine aL<|aM Z ?_;refine alX [(0,0)] [] [0] func193 (ah9 g code _ _ aic) x_11 (ahn) Z ?_;intro xz7 oz7 hz7;obtain⟨i7,q7,hc7,⟨ah8,hn7,rfl⟩,rfl⟩:=hz7;refine lf 5 fC Z<|ab (zB 2003 ca cb Z) Z<|Y ?_;refine⟨(_,_,_,_,_,_,_,_,_),(by refine⟨by assumption,?_⟩;simp only[l7,i64,f5]at *;omega),trivial,⟨rfl,rfl,trivial⟩,rfl,rfl⟩
  intro h6;refine aK<|gT ?_;refine⟨(_,_,_,_,_,_,_,_,_),(by refine⟨by assumption,?_⟩;simp only[l7,i64,f5]at *;omega),trivial,⟨rfl,rfl,trivial⟩,rfl,rfl⟩
 intro ⟨iJ15,qJ15,ea15,eb15,ec15,ed15,ee15,ef15,eg15⟩ hJ15;dsimp only;obtain⟨ahM,aiq⟩:=hJ15;replace ahM:ahk code iJ15:=ahM;unfold l7 i64 at aiq;simp only[f5]at aiq;refine aJ [2,3] [2002] (D:=Nat×Int×Ev7) (fun d=>[]) (fun d=>[(0,ahm g code d.1 d.2.1),(2003,ahy none d.2.2.1 d.2.2.2.1 d.2.2.2.2.1 d.2.2.2.2.2.1 d.2.2.2.2.2.2.1 d.2.2.2.2.2.2.2.1 d.2.2.2.2.2.2.2.2)]) (fun d=>ahk code d.1/\l7 (f5 d.2.2)) ?_ ?_
 ·refine sL<|ae Z<|ak Z<|Y ?_;refine AW.cond rfl ?_ ?_
  ·intro h7;refine aL<|lf 6 pw Z<|tT jN Z<|bX Z<|lf 6 pw Z<|ab (zB 2003 ES ET Z) Z<|Y ?_;refine⟨(_,_,_,_,_,_,_,_,_),(by refine⟨by assumption,?_⟩;simp only[l7,i64,f5]at *;omega),trivial,⟨rfl,rfl,trivial⟩,rfl,rfl⟩
  intro h7;refine aK<|gT ?_;refine⟨(_,_,_,_,_,_,_,_,_),(by refine⟨by assumption,?_⟩;simp only[l7,i64,f5]at *;omega),trivial,⟨rfl,rfl,trivial⟩,rfl,rfl⟩
 intro ⟨iJ17,qJ17,ea17,eb17,ec17,ed17,ee17,ef17,eg17⟩ hJ17;dsimp only;obtain⟨air,ais⟩:=hJ17;replace air:ahk code iJ17:=air;unfold l7 i64 at ais;simp only[f5]at ais;refine sL<|aP (.agg [U _ _,U _ _,U _ _,U _ _,U _ _,U _ _,vB _]) dD Z<|ab (zB 2002 mZ m0 Z) Z<|Y<|aR ?_;refine fN (ju ⟨_,_,_,_,_,_,_⟩) [(0,ahm g code _ _)] ?_ rfl ⟨rfl,trivial⟩;exact⟨_,_,by assumption,⟨_,by simp only[l7,i64]at *;omega,rfl⟩,rfl⟩

def DrX(g:Value)(code:List Int)(R:AV->List (Nat×AO)->Prop):AV->List (Nat×AO)->Prop:=fun x ob=>∃i h ob2,ahk code i/\R x ob2/\ob=(0,ahm g code i h)::ob2
theorem aiU{g:Value}{code:List Int}{i:Nat}{h:Int}{R:AV->List (Nat×AO)->Prop}:∀x bd,DrX g code R x bd->pins [(0,ahm g code i h)] bd [0]:=fun x bd ⟨_,_,_,_,_,e⟩=>by
 subst e;exact⟨stays.box (Eq.refl 3),trivial⟩
theorem akR(x:Int):-2<=x.tmod 3/\x.tmod 3<=2:=by cases x<;>simp[Int.tmod]<;>omega
def vn(m:Int)(es:List aV):Prop:=(∀e∈es,l7 e)/\(es.length:Int)<=m
theorem vn.take{m:Int}{es:List aV}(h:vn m es)(k:Nat):vn m (es.take k):=⟨fun e he=>h.1 e (List.mem_of_mem_take he),by have:=h.2;grind⟩
theorem vn.add{m:Int}{es:List aV}(h:vn m es){e:aV}(he:l7 e):vn (m+1) (es++[e]):=⟨fun x hx=>by
 rcases List.mem_append.1 hx with q|q
 ·exact h.1 x q
 grind,by have:=h.2;grind⟩
theorem vn.mono{m n:Int}{es:List aV}(h:vn m es)(To:m<=n):vn n es:=⟨h.1,Int.le_trans h.2 To⟩
theorem x_31{p:Prop}(c:p:=by intro r hr;simp[ah]at hr;rcases hr with h|h|h|h|h<;>(subst h;rfl)):p:=c
theorem akl(g:Value)(code:List Int)(i:Nat)(h m:Int)(hc:ahk code i)(hm:0<=m/\m<=100):GX prog 183 [.ptr 0 0 0,int m] [(0,ahm g code i h)] (DrX g code fun x ob2=>∃es,vn (5+m) es/\x=.own 50/\ob2=[(50,.ai 81 7 (ah fR es))]):=by
 refine GX.intro (rs:=[.tmp 4]) func183 rfl ntmps183 x_8 ⟨rfl,trivial⟩ ?_;intro L O w0;refine sL<|e9 Z<|nA<|lq (rd (x:=.agg [U _ _,U _ _,U _ _,U _ _,U _ _,U _ _,vB false]) (cP Z xF Z Z Z) Z)<|lq (rd (x:=.agg [U _ _,U _ _,U _ _,U _ _,U _ _,U _ _,vB false]) (cP Z xF Z Z Z) Z)<|lq (rd (x:=.agg [U _ _,U _ _,U _ _,U _ _,U _ _,U _ _,vB false]) (cP Z xF Z Z Z) Z)<|lq (rd (x:=.agg [U _ _,U _ _,U _ _,U _ _,U _ _,U _ _,vB false]) (cP Z xF Z Z Z) Z)<|aM Z ?_;refine alX [(0,0)] [] [0] func98 (ahp g code _ _ _ hc) x_11 (ahn) Z ?_;intro xz1 oz1 fa;obtain⟨i1,q1,qC,⟨n1,⟨na1,nb1⟩,rfl⟩,rfl⟩:=fa;refine bg Z<|aM Z ?_;refine alX [(0,0)] [] [0] func98 (ahp g code _ _ _ qC) x_11 (ahn) Z ?_;intro xz2 oz2 hz2;obtain⟨i2,q2,Cj,⟨n2,⟨na2,nb2⟩,rfl⟩,rfl⟩:=hz2;refine aM rfl ?_;refine alX [(0,0)] [] [0] func98 (ahp g code _ _ _ Cj) x_11 (ahn) Z ?_;intro xz3 oz3 hz3;obtain⟨i3,q3,hc3,⟨ahG,⟨na3,nb3⟩,rfl⟩,rfl⟩:=hz3;refine lq (rd (x:=.agg [U _ _,U _ _,U _ _,U _ _,U _ _,U _ _,vB false]) (cP rfl xF rfl rfl rfl) rfl) ?_;refine ab (zS 50 (ah fR [⟨1,0,0,0,100000,0,false⟩,⟨2,0,1,0,20000,10000,false⟩,⟨2,0,2,0,10000,20000,false⟩,⟨2,0,3,0,15000,15000,false⟩,⟨4,0,1+n1,0,n2,ahG,false⟩]) jk jl rfl x_31) Z<|lT [0,1,4,20] [0,50] ?_;refine bD Z<|Y ?_;refine aJ [0,1,4] [] (D:=Nat×Int×List aV) (fun d=>[(5,.own 50)]) (fun d=>[(0,ahm g code d.1 d.2.1),(50,.ai 81 7 (ah fR d.2.2))]) (fun d=>ahk code d.1/\vn 5 d.2.2) ?_ ?_
 ·refine sL<|aM Z ?_;refine alX [(0,0)] [] [0] func98 (ahp g code _ _ _ hc3) x_11 (ahn) Z ?_;intro xz4 oz4 hz4;obtain⟨i4,q4,hc4,⟨ahZ,⟨na4,nb4⟩,rfl⟩,rfl⟩:=hz4;refine ak Z<|Y ?_;refine AW.cond rfl ?_ ?_
  ·intro V;refine aL<|bW Z<|aM Z ?_;refine alX [(0,0)] [] [0] func98 (ahp g code _ _ _ hc4) x_11 (ahn) Z ?_;intro xz5 oz5 hz5;obtain⟨i5,q5,hc5,⟨ahU,⟨na5,nb5⟩,rfl⟩,rfl⟩:=hz5;obtain⟨m5,rfl⟩:=Int.eq_ofNat_of_zero_le na5;refine ab (akn 50 rfl rfl x_3 jk rfl rfl ⟨_,rfl⟩ (by simp[ah];omega)) Z<|bD Z<|Y ?_;refine⟨(_,_,List.take m5 [⟨1,0,0,0,100000,0,false⟩,⟨2,0,1,0,20000,10000,false⟩,⟨2,0,2,0,10000,20000,false⟩,⟨2,0,3,0,15000,15000,false⟩,⟨4,0,1+n1,0,n2,ahG,false⟩]),⟨by assumption,vn.take (m:=5) ⟨by intro e he;simp at he;rcases he with h|h|h|h|h<;>(subst h;unfold l7 i64;dsimp only;omega),by simp⟩ _⟩,⟨rfl,trivial⟩,⟨rfl,(congrArg (AO.ai 81 7) (List.map_take).symm),trivial⟩,rfl,rfl⟩
  intro V;refine aK<|gT ?_;refine⟨(_,_,[⟨1,0,0,0,100000,0,false⟩,⟨2,0,1,0,20000,10000,false⟩,⟨2,0,2,0,10000,20000,false⟩,⟨2,0,3,0,15000,15000,false⟩,⟨4,0,1+n1,0,n2,ahG,false⟩]),⟨by assumption,⟨by intro e he;simp at he;rcases he with h|h|h|h|h<;>(subst h;unfold l7 i64;dsimp only;omega),by simp⟩⟩,⟨rfl,trivial⟩,⟨rfl,rfl,trivial⟩,rfl,rfl⟩
 intro ⟨iJ4,qJ4,esJ⟩ hJ4;dsimp only;obtain⟨ajM,ajN⟩:=hJ4;simp only at ajM ajN;refine aS<|sL<|aM Z<|ae Z<|bg Z ?_;refine alX [(0,0)] [] [0] func98 (ahp g code _ _ _ ajM) x_11 (ahn) Z ?_;intro xz6 oz6 hz6;obtain⟨i6,q6,hc6,⟨ahB,⟨na6,nb6⟩,rfl⟩,rfl⟩:=hz6;refine ao Z<|Y<|aB ?_;obtain⟨kk,uG⟩:=Int.eq_ofNat_of_zero_le na6;refine aW [0,4] [] (D:=Nat×Int×Nat×List aV) (fun d=>[(6,int (d.2.2.1:Int)),(5,.own 50)]) (fun d=>[(0,ahm g code d.1 d.2.1),(50,.ai 81 7 (ah fR d.2.2.2))]) (fun d=>ahk code d.1/\vn (5+m-d.2.2.1) d.2.2.2/\(d.2.2.1:Int)<=m) (fun d=>d.2.2.1) ((_,_,kk,esJ)) (⟨by assumption,ajN.mono (by dsimp only;omega),by dsimp only;omega⟩) ⟨(congrArg int uG),rfl,trivial⟩ ⟨rfl,rfl,trivial⟩ ?_;intro ⟨iL,qL,kL,esL⟩ hI;obtain⟨hcL,hwL,hkL⟩:=hI;simp only at hcL hwL hkL;dsimp only;refine aS<|sL<|ae Z<|ak Z<|Y ?_;refine AW.cond rfl ?_ ?_
 ·intro h2;refine aK<|gT<|aS<|aB<|aS ?_;have hk1:1<=kL:=by have h:=h2;simp only[decide_eq_true_eq]at h;omega
  refine aL<|aM Z ?_;refine alX [(0,0)] [] [0] func104 (aim g code _ _ hcL) x_11 (ahn) Z ?_;intro xz7 oz7 hz7;obtain⟨i7,q7,hc7,⟨⟨va7,vb7,vc7,vd7,ve7,vf7,vg7⟩,hw7,rfl⟩,rfl⟩:=hz7;refine ab (zA 2007 jl Z) Z<|ab (zB 2007 mZ m0 Z) Z<|Y ?_;refine aJ [0,4,5,6,7] [50] (D:=Nat×Int×Ev7) (fun d=>[]) (fun d=>[(0,ahm g code d.1 d.2.1),(2007,ahy none d.2.2.1 d.2.2.2.1 d.2.2.2.2.1 d.2.2.2.2.2.1 d.2.2.2.2.2.2.1 d.2.2.2.2.2.2.2.1 d.2.2.2.2.2.2.2.2)]) (fun d=>ahk code d.1/\l7 (f5 d.2.2)) ?_ ?_
  ·refine sL<|aM Z ?_;refine alX [(0,0)] [] [0] func98 (ahp g code _ _ _ hc7) x_11 (ahn) Z ?_;intro xz8 oz8 hz8;obtain⟨i8,q8,hc8,⟨ahC,⟨na8,nb8⟩,rfl⟩,rfl⟩:=hz8;refine ak Z<|Y ?_;refine AW.cond rfl ?_ ?_
   ·intro h3;refine sL<|aM Z ?_;refine alX [(0,0)] [] [0] func98 (ahp g code _ _ _ hc8) x_11 (ahn) Z ?_;intro xz9 oz9 hz9;obtain⟨i9,q9,hc9,⟨ahT,⟨na9,nb9⟩,rfl⟩,rfl⟩:=hz9;refine lT [0,4,5,6,7,42] [0,50,2007] ?_;refine bg Z<|aM Z ?_;refine alX [(0,0)] [] [0] func98 (ahp g code _ _ _ hc9) x_11 (ahn) Z ?_;intro aiW aiX ah0;obtain⟨i10,q10,aik,⟨n10,⟨ail,aiY⟩,rfl⟩,rfl⟩:=ah0;refine bg Z<|aM Z ?_;refine alX [(0,0)] [] [0] func98 (ahp g code _ _ _ aik) x_11 (ahn) Z ?_;intro akY akZ akS;obtain⟨i11,q11,akT,⟨n11,⟨ak0,ak1⟩,rfl⟩,rfl⟩:=akS;refine bg Z<|aM Z ?_;refine alX [(0,0)] [] [0] func98 (ahp g code _ _ _ akT) x_11 (ahn) Z ?_;intro ak2 ak3 akU;obtain⟨i12,q12,ak4,⟨n12,⟨ak5,ak6⟩,rfl⟩,rfl⟩:=akU;refine ak Z<|lq (rd (x:=.agg [U _ _,U _ _,U _ _,U _ _,U _ _,U _ _,vB _]) (cP Z xF Z Z Z) Z)<|ab (zB 2007 mZ m0 Z) Z<|Y<|aL<|lf 2 dn Z<|aj ac Z ?_;refine eo rfl ⟨rfl,by decide⟩ ?_;have ht3:=akR (1+n10);refine bg Z<|lf 3 fK Z<|ab (zB 2007 ca cb Z) Z<|lT [0,4,5,6,7] [0,50,2007] ?_;refine Y ?_;refine⟨(_,_,_,_,_,_,_,_,_),(by refine⟨by assumption,?_⟩;simp only[l7,i64,f5]at *;omega),trivial,⟨rfl,rfl,trivial⟩,rfl,rfl⟩
   intro h3;refine aK<|gT ?_;refine⟨(_,_,_,_,_,_,_,_,_),(by refine⟨by assumption,?_⟩;simp only[l7,i64,f5]at *;omega),trivial,⟨rfl,rfl,trivial⟩,rfl,rfl⟩
  intro ⟨iJ11,qJ11,ea11,eb11,ec11,ed11,ee11,ef11,eg11⟩ hJ11;dsimp only;obtain⟨ahR,ait⟩:=hJ11;replace ahR:ahk code iJ11:=ahR;unfold l7 i64 at ait;simp only[f5]at ait;refine aL<|bW Z<|aP (.agg [U _ _,U _ _,U _ _,U _ _,U _ _,U _ _,vB _]) dD Z ?_;refine ab (zS 2061 (ah fR [⟨ea11,eb11,ec11,ed11,ee11,ef11,eg11⟩]) jk jl rfl) Z<|ab (zP 50 jk jl sD rfl x_17 (by have:=hwL.2;simp[ah];omega)) Z<|bD Z<|lN<|gB<|gT<|aL<|ae Z<|bg Z<|ao Z<|Y ?_;refine⟨(_,_,kL-1,esL++[⟨ea11,eb11,ec11,ed11,ee11,ef11,eg11⟩]),⟨by assumption,(hwL.add (by unfold l7 i64;dsimp only;omega)).mono (by dsimp only;omega),by dsimp only;omega⟩,by dsimp only;omega,⟨(Eq.trans (b:=int _) rfl (congrArg int (by dsimp only;omega))),rfl,trivial⟩,⟨rfl,(congrArg (AO.ai 81 7) (fx fR _ [_]).symm),trivial⟩,rfl,rfl⟩
 intro h2;refine aE<|eT<|eT<|eB<|gA<|bW Z<|bD Z<|Y<|aR ?_;refine fN (.own 50) [(0,ahm g code _ _),(50,.ai 81 7 (ah fR esL))] ?_ rfl ⟨rfl,rfl,trivial⟩;exact⟨_,_,_,hcL,⟨esL,hwL.mono x_2,rfl,rfl⟩,rfl⟩

section
variable {P:Program}{L O:Nat->Prop}{w0:World}{N:Nat}{Q:AQ}{c:Code}{τ:Nat->AV}{H:Nat->AO}
theorem RR.ah7{ρ:Nat->Value}{fp:Nat->List Nat}{a:Act}{w:World}(h:RR L O w0 N τ H ρ fp a w)(id:Nat){e:ga}{sz:Nat}{rows rows':List (List PV)}(hH:H id=.ai e sz rows)(hl:rows'.length=rows.length)(hr:∀ {xs fr},bI w false sz rows xs fr->bI w false sz rows' xs fr) :
 ∃ρ fp,RR L O w0 N τ (aH H id (.ai e sz rows')) ρ fp a w:=
 ⟨_,_,h.ahH (id:=id) (o':=.ai e sz rows') (f':=fp id) h.jp (Nat.le_refl _) (fun _ _ _=>rfl) (fun _=>by rw[hH];exact⟨rfl,hl,rfl⟩) (fun E=>by
   have bY:=h.ob id;rw[hH]at bY;obtain⟨xs,fr,b1,b2,b3,b4,b5⟩:=bY;exact⟨xs,fr,hr b1,fun b hb=>(E.block b (bI.lt rows b1 b hb) (b2 b hb)).2,by rw[hl];exact b3,b4,b5⟩) (h.own id) (fun j hj b hb=>h.dj id j (Ne.symm hj) b hb)⟩
theorem AW.ah7(id:Nat){e:ga}{sz:Nat}{rows rows':List (List PV)}(hH:H id=.ai e sz rows)(hl:rows'.length=rows.length)(hr:∀ {w:World} {xs fr},bI w false sz rows xs fr->bI w false sz rows' xs fr)(hK:AW P L O w0 N c τ (aH H id (.ai e sz rows')) Q):AW P L O w0 N c τ H Q:=fun ρ fp a w h=>by
 obtain⟨ci,bH,q⟩:=h.ah7 id hH hl hr;exact hK ci bH a w q
end
theorem ajl{e:TypeId}{sz:Nat}{w:World}:∀(n:Nat) {xs:List Value} {fr:List Nat},bI w false 1 (List.replicate n [PV.v (.slice none 0 0)]) xs fr->bI w false 1 (List.replicate n [PV.ab e sz []]) xs fr
 |0,xs,fr,h=>h
 |n+1,xs,fr,h=>by
  rw[List.replicate_succ,bI]at *;obtain⟨V,c,r,f1,f2,rfl,rfl,h2,h3⟩:=h;refine⟨rfl,c,r,f1,f2,rfl,rfl,?_,ajl n h3⟩;rw[bP]at *;obtain⟨c0,r0,g1,g2,rfl,rfl,k1,k2⟩:=h2;refine⟨c0,r0,g1,g2,rfl,rfl,?_,k2⟩;rw[RW]at *;obtain⟨rfl,rfl,_⟩:=k1;refine⟨[],[],[],by rw[bI];exact⟨rfl,rfl⟩,?_,rfl⟩;unfold iF;simp only[Bool.false_eq_true,if_false];exact⟨none,0,rfl,by simp,by simp[maxLen],.inl ⟨rfl,trivial⟩⟩

abbrev ahW(n:Nat):du:=⟨List.replicate n ⟨[]⟩,[]⟩
theorem ajm(n:Nat):qK (ahW n):=⟨(fun c hc=>by rw[(List.mem_replicate.1 hc).2];exact .nil),(fun w hw=>by cases hw)⟩
theorem ajn:∀ {ws:List gq} {cs:List Cell} {c:Cell},c∈ws.foldl abT cs->c∈cs\/∃w∈ws,c.bytes=w.bytes
 |[],_,_,h=>.inl h
 |w::ws,cs,c,h=>by
  rw[List.foldl_cons]at h;rcases ajn h with q|⟨w',q1,q2⟩
  ·rcases List.mem_or_eq_of_mem_set q with z|rfl
   ·exact .inl z
   exact .inr ⟨w,by simp,rfl⟩
  exact .inr ⟨w',by simp[q1],q2⟩
theorem x_67{p:Prop}(c:p:=by exact ⟨(fun c hc=>by cases hc),(fun c hc=>by cases hc)⟩):p:=c
theorem aiQ{d:du}(hb:qK d):qK (abM d):=by
 unfold abM;split
 ·refine⟨fun c hc=>?_,fun w hw=>by cases hw⟩;rcases ajn hc with q|⟨w,q1,q2⟩
  ·exact hb.1 c q
  rw[q2];exact hb.2 w q1
 exact x_67
theorem aiR{d:du}{i:Nat}{b:List Int}(hb:qK d)(h:fA b):qK (v6 d i b):=⟨hb.1,fun w hw=>by
 rcases List.mem_append.1 hw with q|q
 ·exact hb.2 w q
 rw[List.mem_singleton.1 q];exact h⟩
theorem ake{b:List Int}(h:fA b):fA (yP b):=by
 unfold yP;split
 ·exact .zero 128
 exact h
theorem ajo{vA:List Int}:∀(ws:List gq) (k:Nat) (cs:List Cell),(∀w∈ws,w.bytes.length=128/\fA w.bytes)->cs.all lL=true->(∀c∈cs,fA c.bytes)->(abP vA ws k cs).all lL=true/\(abP vA ws k cs).length=cs.length/\∀c∈abP vA ws k cs,fA c.bytes
 |[],_,cs,_,h2,h3=>⟨h2,rfl,h3⟩
 |w::ws,k,cs,V,h2,h3=>by
  have hw:=V w x_20;have step:(ab8 vA cs k w).all lL=true/\(ab8 vA cs k w).length=cs.length/\∀c∈ab8 vA cs k w,fA c.bytes:=by
   unfold ab8;split
   ·exact⟨h2,rfl,h3⟩
   have ho:∀c,c=(cs[w.at_.toNat]?).getD ⟨[]⟩->lL c=true/\fA c.bytes:=fun c hc=>by
    cases e:cs[w.at_.toNat]? with
    |none=>rw[e]at hc;subst hc;exact⟨rfl,.nil⟩
    |some x=>
     rw[e]at hc;subst hc;exact⟨List.all_eq_true.1 h2 _ (List.mem_of_getElem? e),h3 _ (List.mem_of_getElem? e)⟩
   obtain⟨o1,o2⟩:=ho _ rfl;have hk:acv vA k<=128:=by unfold acv;omega
   refine⟨acC h2 (ac1 (adA o1) hw.1 hk),List.length_set ..,fun c hc=>?_⟩;rcases List.mem_or_eq_of_mem_set hc with z|rfl
   ·exact h3 c z
   exact(hw.2.take _).gJ ((ake o2).drop _)
  have ih:=ajo (vA:=vA) ws (k+1) _ (fun x hx=>V x (by simp[hx])) step.1 step.2.2;exact⟨ih.1,ih.2.1.trans step.2.1,ih.2.2⟩
theorem aii{d:du}{vA:List Int}(h:ik d=true)(hb:qK d):ik (acU d vA)=true/\qK (acU d vA)/\(acU d vA).bu=[]:=by
 have V:=wL h;obtain⟨i1,i2,i3⟩:=ajo (vA:=vA) d.bu 0 d.cells (fun w hw=>by
  obtain⟨j,hj,rfl⟩:=List.getElem_of_mem hw;exact⟨Jk h hj,hb.2 _ hw⟩) V.2.1 hb.1
 rw[adB h];exact⟨PB ⟨by show 1<=(abP ..).length;omega,by show (abP ..).length<=600;omega,Nat.zero_le _⟩ i1 rfl,⟨i3,fun w hw=>by cases hw⟩,rfl⟩
theorem ajp:∀(ws:List gq) (cs:List Cell),cs.all lL=true->(∀w∈ws,w.bytes.length=128)->(ws.foldl abT cs).all lL=true
 |[],cs,h,_=>h
 |w::ws,cs,h,hw=>by
  rw[List.foldl_cons];exact ajp ws _ (acC h (hw w x_20)) (fun x hx=>hw x (by simp[hx]))
theorem aiS{d:du}(h:ik d=true):ik (abM d)=true/\(abM d).bu=[]:=by
 have V:=wL h;rw[acu h];refine⟨PB ⟨by show 1<=(abE d _).length;rw[abW];exact V.1.1,by show (abE d _).length<=600;rw[abW];exact V.1.2.1,Nat.zero_le _⟩ (ajp _ _ V.2.1 fun w hw=>?_) rfl,rfl⟩;obtain⟨j,hj,rfl⟩:=List.getElem_of_mem (List.mem_of_mem_take hw);exact Jk h hj
structure DkI(n:Int)(c:List Cell)(w:List gq):Prop where
 ok:ik ⟨c,w⟩=true
 by_:qK ⟨c,w⟩
 n0:0<=n
 nw:(w.length:Int)+n<=6
theorem DkI.sync{n:Int}{c:List Cell}{w:List gq}(h:DkI n c w)(hn:0<n):DkI (n-1) (abM ⟨c,w⟩).cells (abM ⟨c,w⟩).bu:=⟨(aiS h.ok).1,aiQ h.by_,by omega,by have:=h.nw;rw[(aiS h.ok).2];simp;omega⟩
theorem DkI.aiT{n:Int}{c:List Cell}{w:List gq}{vA:List Int}(h:DkI n c w)(hn:0<n):DkI (n-1) (acU ⟨c,w⟩ vA).cells (acU ⟨c,w⟩ vA).bu:=⟨(aii h.ok h.by_).1,(aii h.ok h.by_).2.1,by omega,by have:=h.nw;rw[(aii h.ok h.by_).2.2];simp;omega⟩
theorem DkI.wr{n:Int}{c:List Cell}{w:List gq}{i:Nat}{b:List Int}(h:DkI n c w)(hn:0<n)(hi:i<c.length)(hb:b.length=128)(hB:fA b):DkI (n-1) (v6 ⟨c,w⟩ i b).cells (v6 ⟨c,w⟩ i b).bu:=⟨ab7 h.ok hi (by show w.length<600;have:=h.nw;omega) hb,aiR h.by_ hB,by omega,by have:=h.nw;show ((w++[_]).length:Int)+(n-1)<=6;rw[List.length_append,List.length_singleton];omega⟩
theorem akf{c:List Cell}{w:List gq}{i:Nat}{b:List Int}(h:qK ⟨c,w⟩)(hb:fA b):qK ⟨c.set i ⟨b⟩,w⟩:=⟨fun x hx=>by
 rcases List.mem_or_eq_of_mem_set hx with q|rfl
 ·exact h.1 x q
 exact hb,h.2⟩
theorem akg(n:Nat)(V:1<=n)(h2:n<=600):GC prog 182 [int (n:Int)] [] (.au [Gn,aD true]) (SH (ahW n)):=by
 refine GC.intro (rs:=[.cell 2 43 (some 2),.tmp 3]) func182 rfl ntmps182 x_8 ⟨rfl,rfl,mE,rfl,trivial⟩ ?_;intro L O w0;refine sL<|ab (zA 2002 Du rfl) Z<|ar Z<|Y<|aS<|sL<|ae Z<|ak Z<|bJ 5 false rfl x_80<|dm Z<|ae Z<|ak Z<|bJ 8 false rfl x_80<|bL Z<|Y<|aN Z<|aK<|gA<|ae Z<|ab (uq 1 (m:=n) rfl rfl x_3 xE CB rfl rfl rfl rfl rfl (Nat.le_trans (Nat.mul_le_mul_right _ VT) x_2) (by unfold maxLen;omega)) Z<|lq (rd (x:=.agg [.own _,vV _]) (cP rfl adU rfl rfl rfl) rfl)<|ab (zB 2002 Dv Dw rfl) Z<|cI Z<|lN ?_;refine gT ?_;refine AW.pi 2 2002 1 192 2 rfl x_3 rfl ?_;refine AW.ah7 1 (rows':=List.replicate n [nQ []]) rfl x_20 (fun h=>ajl n h) ?_;refine AW.obj 1 (.ai 195 1 (oS (ahW n).cells)) (congrArg (AO.ai 195 1) (by unfold oS;rw[List.map_replicate])) ?_;refine aR ?_;refine ax ?_ ⟨rfl,rfl,trivial⟩;rfl
theorem akh(n:Nat)(V:1<=n)(h2:n<=600):GC prog 182 [int (n:Int)] [] (.au [mt (ahW n),aD true]) []:=(akg n V h2).aeN

section
variable {P:Program}{L O:Nat->Prop}{w0:World}{N:Nat}{τ τ':Nat->AV}{H H':Nat->AO}{Q:AQ}{ops:Array Oper}{o:Oper}{F:List Nat}{n:Nat}{av:Array Bool}
theorem d9.rd{i:Nat}{x:AV}{t:Nat}(ho:ops[i]? = some o)(sA:Rd P o τ H (fun _=>false) x)(hg:gv τ ops o=some true)(hd:o.dst=some t)(ht:t<N)
 (h:AF P L O w0 N ops F n (av.setIfInBounds i true) (aH τ t x) H Q):d9 P L O w0 N ops F n av i τ H Q:=fun ρ fp a w bV=>
 wpOp_step ho fun K hK=>by
  rw[bV.wanted hg,if_pos rfl];obtain⟨c,V,h2⟩:=sA.run bV;unfold Oper.wp;rw[h2 w (l6.refl _ _ _ _)];refine hK _ _ ⟨fun _=>lb.refl _,h ρ fp _ w ?_⟩;rw[hd];exact bV.put V ht
theorem AL.pi{l:List Oper}(id b k:Nat)(e:TypeId)(sz:Nat){T:TypeId}{p:Option Value}{cells:List AV}(hb:H b=.box T p cells)(zT:b≠id)(hk:cells[k]? = some (.p (.v (.slice none 0 0))))(h:AL P L O w0 N ops l (fun s=>bq (cK id) (τ s)) (aH (aH (fun j=>(H j).bq (cK id)) id (.ai e sz [])) b (.box T p ((iA (cK id) cells).set k (.own id)))) Q):AL P L O w0 N ops l τ H Q:=
 fun ρ fp a w hr=>h _ _ a w (hr.pi id b k e sz hb zT hk)
end

section
variable {α:Type}(n:α->Int)(g:α->Int->α)
def mT:List α->Int
 |[]=>0
 |x::l=>n x+mT l
variable {n g}
theorem acT{B:Int}:∀ {l:List α},(∀x∈l,0<=n x/\n x<=B)->0<=mT n l/\mT n l<=B*(l.length:Int)
 |[],_=>by simp[mT]
 |x::l,h=>by
  have V:=h x x_20;have h2:=acT (l:=l) (fun q hq=>h q (by simp[hq]));rw[mT,List.length_cons,Int.natCast_add,Int.mul_add];simp only[Int.cast_ofNat_Int,Int.mul_one];omega
end
abbrev uD(c:Cell):Int:=(c.bytes.length:Int)
abbrev E6(w:gq):Int:=1+(w.bytes.length:Int)
theorem CC(c:Cell):0<=uD c:=Int.natCast_nonneg _
theorem abS(w:gq):0<=E6 w:=by unfold E6;omega
structure vU(d:du):Prop where
 lc:d.cells.length<=1048576
 lw:d.bu.length<=1048576
 bc:∀c∈d.cells,c.bytes.length<=1048576
 bw:∀w∈d.bu,w.bytes.length<=1048576
 cc:mT uD d.cells<=1048576
 cw:mT E6 d.bu<=1048576
theorem dS.set{F:List AO}{j:Nat}{o:AO}(h:dS F)(ho:nr o=true):dS (F.set j o):=fun x hx=>by
 rcases List.mem_or_eq_of_mem_set hx with q|rfl
 ·exact h x q
 omega
section
variable {L:Nat->Prop}{ρ:Nat->Value}{H:Nat->AO}
theorem bI.each{α:Type}{row:α->List PV}{sz:Nat}{dg:World->Nat->Nat->List Value->α->Prop}{w:World}{lo hi b:Nat}(hr:∀cs x,dg w lo hi cs x->cs.length=sz/\∃fp,bP w false (row x) cs fp)(hs:∀x,(row x).length=sz) :
 ∀ {xs:List α} {off:Nat},uF sz dg w lo hi b off xs->∃cs fp,bI w false sz (xs.map row) cs fp/\jo w b off cs/\cs.length=sz*xs.length
 |[],off,_=>⟨[],[],by trivial,fun j v hj=>by grind,rfl⟩
 |x::xs,off,h=>by
  obtain⟨cs,V,h2⟩:=h 0 x_20;obtain⟨hl,fp,h3⟩:=hr cs _ V;have ht:uF sz dg w lo hi b (off+sz) xs:=fun i hU=>by
   obtain⟨c,k1,k2⟩:=h (i+1) (by simpa using hU);grind
  obtain⟨uU,EC,q1,q2,q3⟩:=bI.each hr hs ht;refine⟨cs++uU,fp++EC,?_,fun j v hj=>?_,by grind⟩
  ·rw[List.map_cons,bI];grind
  rcases Nat.lt_or_ge j cs.length with z|z
  ·rw[List.getElem?_append_left z]at hj;have:=h2 j v hj;grind
  rw[List.getElem?_append_right z]at hj;have:=q2 _ v hj;grind
end

structure Is(d:du):Prop where
 lc:d.cells.length<=1000000000
 lw:d.bu.length<=1000000000
 bc:∀c∈d.cells,c.bytes.length<=1000000000
 bw:∀w∈d.bu,w.bytes.length<=1000000000
theorem vU.e{d:du}(h:vU d):Is d:=⟨Nat.le_trans h.lc x_3,Nat.le_trans h.lw x_3,fun c hc=>Nat.le_trans (h.bc c hc) x_3,fun c hc=>Nat.le_trans (h.bw c hc) x_3⟩
structure Xb(d:du):Prop where
 lc:d.cells.length<=100000000
 lw:d.bu.length<=100000000
 cc:mT uD d.cells<=100000000
 cw:mT E6 d.bu<=100000000
theorem vU.m{d:du}(h:vU d):Xb d:=⟨Nat.le_trans h.lc x_3,Nat.le_trans h.lw x_3,Int.le_trans h.cc x_3,Int.le_trans h.cw x_3⟩

theorem adp:∀(ws:List gq) (cs:List Cell),cs.all lL=true->(∀w∈ws,w.bytes.length=128)->(ws.foldl abT cs).all lL=true
 |[],cs,h,_=>h
 |w::ws,cs,h,hw=>by
  rw[List.foldl_cons];exact adp ws _ (acC h (hw w x_20)) (fun x hx=>hw x (by simp[hx]))
theorem aen{d:du}(h:ik d=true):ik (abM d)=true:=by
 have V:=wL h;rw[acu h];refine PB ⟨by show 1<=(abE d _).length;rw[abW];exact V.1.1,by show (abE d _).length<=600;rw[abW];exact V.1.2.1,Nat.zero_le _⟩ (adp _ _ V.2.1 fun w hw=>?_) rfl;obtain⟨j,hj,rfl⟩:=List.getElem_of_mem (List.mem_of_mem_take hw);exact Jk h hj
theorem aeo{d:du}(h:ik d=true):vU d:=by
 have V:=(wL h).1;have hc:∀c∈d.cells,c.bytes.length<=128:=fun c hc=>by
  obtain⟨j,hj,rfl⟩:=List.getElem_of_mem hc;exact PC h hj
 have hw:∀c∈d.bu,c.bytes.length<=128:=fun c hc=>by
  obtain⟨j,hj,rfl⟩:=List.getElem_of_mem hc;exact Nat.le_of_eq (Jk h hj)
 have k1:=acT (n:=uD) (B:=128) (l:=d.cells) fun c q=>⟨CC c,by have:=hc c q;show (c.bytes.length:Int)<=128;omega⟩;have k2:=acT (n:=E6) (B:=129) (l:=d.bu) fun c q=>⟨abS c,by have:=hw c q;show 1+(c.bytes.length:Int)<=129;omega⟩;exact⟨by omega,by omega,fun c q=>Nat.le_trans (hc c q) x_3,fun c q=>Nat.le_trans (hw c q) x_3,by omega,by omega⟩
theorem adq:vU ⟨[],[]⟩:=⟨by simp,by simp,(fun c h=>by cases h),(fun c h=>by cases h),by simp[mT],by simp[mT]⟩
theorem aep(d:du):m1 d=0/\ik d=true/\ik (m4 d).bT=true\/m1 d≠0/\m4 d=⟨⟨[],[]⟩,0,0⟩:=by
 by_cases hc:m1 d=0
 ·have hd:ik d=true:=by
   unfold m1 at hc;cases h:ik d with
   |true=>rfl
   |false=>rw[h]at hc;cases hc
  have h0:d.bu.length=0:=by
   unfold m1 at hc;by_cases h:d.bu.length=0
   ·exact h
   rw[hd,if_neg x_146]at hc;cases hc
  have h2:¬((dH d).length=d.cells.length\/16000000<=m2 d):=fun q=>by rw[lg2 hd h0 q]at hc;cases hc
  have:=acD hd;refine .inl ⟨hc,hd,?_⟩;rw[acE hc];exact aen (ab7 hd x_2 x_2 (TB x_8))
 exact .inr ⟨hc,abU hc⟩
theorem aeq(d:du):vU (m4 d).bT:=by
 rcases aep d with h|h
 ·exact aeo h.2.2
 rw[h.2];exact adq

abbrev alH:List Int:=List.replicate 128 0
theorem alI:g8 alH=false:=by decide +kernel
theorem ajq{d:du}(hb:qK d):qK (m4 d).bT:=by
 unfold m4;split
 ·exact aiQ (aiR hb (TC (.cons x_3 x_3 .nil) x_8))
 exact x_67
theorem ajr{l:uW}(hb:qK l.bT):qK (afM l).bT:=by
 unfold afM;split
 ·exact aiQ hb
 exact x_67
theorem ajs{l:uW}{e:aV}(hc:aho l e=0):ik l.bT=true/\aI l.next 0 l.bT.cells.length=true/\aI l.dP 1 16000000=true/\co e=true/\¬(l.next=l.bT.cells.length\/600<=l.bT.bu.length):=by
 have V:ik l.bT=true:=by cases h:ik l.bT with|true=>rfl|false=>rw[ad1 (.inl h)]at hc;cases hc
 have h2:aI l.next 0 l.bT.cells.length=true:=by cases h:aI l.next 0 l.bT.cells.length with|true=>rfl|false=>rw[ad1 (.inr (.inl h))]at hc;cases hc
 have h3:aI l.dP 1 16000000=true:=by cases h:aI l.dP 1 16000000 with|true=>rfl|false=>rw[ad1 (.inr (.inr (.inl h)))]at hc;cases hc
 have h4:co e=true:=by cases h:co e with|true=>rfl|false=>rw[ad1 (.inr (.inr (.inr h)))]at hc;cases hc
 exact⟨V,h2,h3,h4,fun q=>by rw[al0 V h2 h3 h4 q]at hc;cases hc⟩
theorem aki{l:uW}{e:aV}(hc:aho l e=0):ik (ahu l e).bT=true:=by
 obtain⟨V,h2,h3,h4,h5⟩:=ajs hc;rw[aiw hc];have:=ahS.1 h2;exact ab7 V x_2 x_2 (TB (by show (rY e).length<=100;rw[TF];decide))
theorem ajt{l:uW}{e:aV}(hb:qK l.bT):qK (ahu l e).bT:=by
 by_cases hc:aho l e=0
 ·rw[aiw hc];exact aiR hb (TC (Zc (ajs hc).2.2.2.1) (by show (rY e).length<=100;rw[TF];decide))
 rw[ahz hc];exact x_67
structure LgI(n:Int)(l:uW):Prop where
 ok:ik l.bT=true
 by_:qK l.bT
 n0:0<=n
 n1:n<=11
theorem LgI.same{n:Int}{l:uW}(h:LgI n l)(hn:0<n):LgI (n-1) l:=⟨h.ok,h.by_,by omega,by have:=h.n1;omega⟩
theorem LgI.sync{n:Int}{l:uW}(h:LgI n l)(hn:0<n):LgI (n-1) (afM l):=⟨by rw[afS h.ok];exact(aiS h.ok).1,ajr h.by_,by omega,by have:=h.n1;omega⟩
theorem LgI.aiT{n:Int}{l:uW}{vA:List Int}(h:LgI n l)(hn:0<n)(hc:m1 (acU l.bT vA)=0):LgI (n-1) (m4 (acU l.bT vA)):=⟨by rcases aep (acU l.bT vA)with q|q;exact q.2.2;exact absurd hc q.1,ajq (aii h.ok h.by_).2.1,by omega,by have:=h.n1;omega⟩
theorem LgI.add{n:Int}{l:uW}{e:aV}(h:LgI n l)(hn:0<n)(hc:aho l e=0):LgI (n-1) (ahu l e):=⟨aki hc,ajt h.by_,by omega,by have:=h.n1;omega⟩

theorem alp{i:Int}{w:gq}:∀(ws:List gq),kD (ws++[w]) i=if w.at_=i then some w.bytes else kD ws i
 |[]=>rfl
 |x::ws=>by
  show (match kD (ws++[w]) i with|some b=>some b|none=>if x.at_=i then some x.bytes else none)=_;rw[alp ws];by_cases h:w.at_=i
  ·rw[if_pos h,if_pos h]
  rw[if_neg h,if_neg h];rfl
theorem alq{i:Nat}:∀(ws:List gq) (cs:List Cell),(∀w∈ws,0<=w.at_)->(ws.foldl abT cs)[i]? = (cs[i]?).map fun c=>match kD ws i with|some b=>⟨b⟩|none=>c
 |[],cs,_=>by simp[kD]
 |w::ws,cs,h=>by
  rw[List.foldl_cons,alq ws _ (fun x hx=>h x (by simp[hx]))];have h0:=h w x_20;show ((cs.set w.at_.toNat ⟨w.bytes⟩)[i]?).map _=(cs[i]?).map fun c=>match (match kD ws i with|some b=>some b|none=>if w.at_=(i:Int)then some w.bytes else none)with|some b=>(⟨b⟩:Cell)|none=>c
  rw[List.getElem?_set];by_cases q:w.at_.toNat=i
  ·rw[if_pos q];have q2:w.at_=(i:Int):=by omega
   by_cases z:w.at_.toNat<cs.length
   ·rw[if_pos z,List.getElem?_eq_getElem (show i<cs.length by omega)];cases kD ws i<;>simp[q2]
   rw[if_neg z,List.getElem?_eq_none (show cs.length<=i by omega)];rfl
  rw[if_neg q];have q2:¬w.at_=(i:Int):=by omega
  cases kD ws i<;>simp[q2]
theorem alJ{d:du}(h:ik d=true){i:Nat}(hi:i<d.cells.length):io (abM d) i=io d i:=by
 rw[acu h];unfold io;show yP (((abE d d.bu.length)[i]?).getD ⟨[]⟩).bytes=_;unfold abE;rw[List.take_length,alq _ _ (fun w hw=>by obtain⟨j,hj,rfl⟩:=List.getElem_of_mem hw;exact(acW h hj).1),List.getElem?_eq_getElem hi];cases hl:kD d.bu i with
 |none=>rfl
 |some b=>
  obtain⟨w,hw,hwb⟩:=Jm hl;obtain⟨j,hj,rfl⟩:=List.getElem_of_mem hw;have:=Jk h hj;rw[hwb]at this;show yP b=b;exact Jh x_2
theorem ak7{d:du}{i:Nat}(h:i<(oh d).length):(oh d)[i]=io d i:=by simp[oh]
theorem ak8{d:du}(h:ik d=true):oh (abM d)=oh d:=by
 have hl:(abM d).cells.length=d.cells.length:=by rw[acu h];exact abW _ _
 refine List.ext_getElem (by rw[Jl,Jl,hl]) fun i V h2=>?_;have hi:i<d.cells.length:=by rwa [Jl]at h2
 rw[ak7,ak7,alJ h hi]
theorem ala{d:du}{i:Nat}{b:List Int}:oh (v6 d i b)=(oh d).set i b:=by
 refine List.ext_getElem (by rw[List.length_set,Jl,Jl];rfl) fun j V h2=>?_;have hj:j<d.cells.length:=by rw[List.length_set,Jl]at h2;exact h2
 rw[List.getElem_set,ak7,ak7];unfold io v6;show (match kD (d.bu++[⟨(i:Int),b⟩]) (j:Int)with|some b=>b|none=>_)=_;rw[alp];by_cases q:i=j
 ·subst q;rw[if_pos rfl,if_pos rfl]
 rw[if_neg (show ¬((i:Int)=(j:Int)) by omega),if_neg q];rfl
theorem alr:∀(bs:List (List Int)) (acc:List fb),∃r,og bs acc=acc++r
 |[],acc=>⟨[],by simp[og]⟩
 |b::r,acc=>by
  unfold og;split
  ·obtain⟨q,hq⟩:=alr r (acc++[gu b]);exact⟨gu b::q,by rw[hq,List.append_assoc];rfl⟩
  exact⟨[],by simp⟩
theorem amX{b:List Int}{r:List (List Int)}{acc:List fb}:og (b::r) acc=if pA acc b then og r (acc++[gu b])else acc:=rfl
theorem als:∀(m:Nat) (bs:List (List Int)) (acc:List fb) (rest:List (List Int)),acc.length+m<=(og bs acc).length->og (bs.take m++rest) acc=og rest ((og bs acc).take (acc.length+m))
 |0,bs,acc,rest,_=>by
  obtain⟨r,hr⟩:=alr bs acc;rw[hr,List.take_zero,List.nil_append,Nat.add_zero,List.take_left]
 |m+1,[],acc,rest,h=>by
  have:og [] acc=acc:=rfl;rw[this]at h;omega
 |m+1,b::r,acc,rest,h=>by
  by_cases hg:pA acc b=true
  ·have e:og (b::r) acc=og r (acc++[gu b]):=by rw[amX,if_pos hg]
   rw[e]at h ⊢;have ih:=als m r (acc++[gu b]) rest (by rw[List.length_append,List.length_singleton];omega);rw[List.length_append,List.length_singleton]at ih;rw[List.take_succ_cons,List.cons_append,show acc.length+(m+1)=acc.length+1+m by omega,<-ih];rw[amX,if_pos hg]
  have e:og (b::r) acc=acc:=by unfold og;rw[if_neg hg]
  rw[e]at h;omega
theorem run_set{bs:List (List Int)}{b:List Int}(h:(og bs []).length<bs.length):og (bs.set (og bs []).length b) []=og (b::bs.drop ((og bs []).length+1)) (og bs []):=by
 have e:bs.set (og bs []).length b=bs.take (og bs []).length++b::bs.drop ((og bs []).length+1):=by
  rw[List.set_eq_take_append_cons_drop,if_pos h]
 rw[e,als _ bs [] _ x_20];simp
theorem ald:∀(l:List (List Int)) (t:Int),t<=l.foldl (fun t b=>max t (kP b).dP) t/\∀b∈l,(kP b).dP<=l.foldl (fun t b=>max t (kP b).dP) t
 |[],t=>⟨Int.le_refl _,fun b h=>by cases h⟩
 |x::l,t=>by
  have ih:=ald l (max t (kP x).dP);rw[List.foldl_cons];refine⟨by omega,fun b hb=>?_⟩;rcases List.mem_cons.1 hb with rfl|hb
  ·omega
  exact ih.2 b hb
theorem alb{m:Int}:∀(l:List (List Int)) (t:Int),t<=m->(∀b∈l,(kP b).dP<=m)->l.foldl (fun t b=>max t (kP b).dP) t<=m
 |[],t,h,_=>h
 |x::l,t,h,hb=>by
  rw[List.foldl_cons];have:=hb x x_20;exact alb l _ x_2 (fun b q=>hb b (by simp[q]))
theorem ak9{l:List (List Int)}{b:List Int}(h:b∈l):(kP b).dP<=abF l:=(ald l 0).2 b h
theorem alK(l:List (List Int)):0<=abF l:=(ald l 0).1
theorem alh(bs:List (List Int)):yu (og bs [])<=abF bs:=by
 unfold yu;split
 ·rename_i s hs;rcases PH (List.mem_of_getLast? hs)with q|⟨b,hb,hF,rfl⟩
  ·cases q
  have:=ak9 hb;rwa [dv hF]at this
 exact alK _
theorem alj{bs:List (List Int)}{acc:List fb}{t:Int}(hb:∀b∈bs,(kP b).dP<=t)(h:t<yu acc):og bs acc=acc:=by
 cases bs with
 |nil=>rfl
 |cons b r=>
  unfold og;rw[if_neg];intro hg;obtain⟨g1,_,g3⟩:=sW.1 hg;have:=hb b x_20;rw[dv g1]at this;omega
theorem alc{e:aV}(h:co e=true):lJ (rY e)=e:=by
 obtain⟨b1,b2,b3,b4,b5,b6⟩:=Dq h;have p3:(cl 3 e.key).length=3:=da _ _;have aft:(cl 7 e.af).length=7:=da _ _;have afu:(cl 7 e.ay).length=7:=da _ _;have e0:rY e=69::e.kind::(cl 3 e.key++(e.ch::e.to::(cl 7 e.af++(cl 7 e.ay++[if e.yes then 1 else 0])))):=by unfold rY;simp only[List.append_assoc];rfl
 have d2:(rY e).drop 2=cl 3 e.key++(e.ch::e.to::(cl 7 e.af++(cl 7 e.ay++[if e.yes then 1 else 0]))):=by rw[e0];rfl
 have d5:(rY e).drop 5=e.ch::e.to::(cl 7 e.af++(cl 7 e.ay++[if e.yes then 1 else 0])):=by rw[show (5:Nat)=2+3 from rfl,<-List.drop_drop,d2,List.drop_left' p3]
 have d7:(rY e).drop 7=cl 7 e.af++(cl 7 e.ay++[if e.yes then 1 else 0]):=by rw[show (7:Nat)=5+2 from rfl,<-List.drop_drop,d5];rfl
 have d14:(rY e).drop 14=cl 7 e.ay++[if e.yes then 1 else 0]:=by rw[show (14:Nat)=7+7 from rfl,<-List.drop_drop,d7,List.drop_left' aft]
 have d21:(rY e).drop 21=[if e.yes then 1 else 0]:=by rw[show (21:Nat)=14+7 from rfl,<-List.drop_drop,d14,List.drop_left' afu]
 have g (k:Nat):(rY e).getD k 0=(((rY e).drop k)[0]?).getD 0:=by rw[List.getD_eq_getElem?_getD,List.getElem?_drop,Nat.add_zero]
 unfold lJ;rw[g 1,g 5,g 6,g 21,show (6:Nat)=5+1 from rfl,<-List.drop_drop,d2,d5,d7,d14,d21,List.take_left' p3,List.take_left' aft,List.take_left' afu,LX b2.1 x_2,LX b5.1 x_2,LX b6.1 x_2,e0];obtain⟨k1,k2,k3,k4,k5,k6,y⟩:=e;cases y<;>rfl
theorem alx{e:aV}(h:co e=true):lK (rY e)=true:=uS.2 ⟨TF e,by rw[alc h];exact h,by rw[alc h]⟩
theorem alm(a b:List fb):pj (a++b)=pj a++pj b:=List.filterMap_append
theorem alk{a:List fb}{s:fb}:yu (a++[s])=s.dP:=ZC a s
structure alL(d:du):Prop where
 evs:f8 (m4 d).bT=f8 d
 len:((dH (m4 d).bT).length:Int)=(m4 d).next
 ep:(m4 d).dP=m2 d+1
 top:m2 (m4 d).bT=(m4 d).dP
 run:dH (m4 d).bT=dH d++[⟨(dH d).length,m2 d+1,[66]⟩]
theorem alG{d:du}(hc:m1 d=0):alL d:=by
 have g9:ik d=true:=by rcases aep d with q|q;exact q.2.1;exact absurd hc q.1
 have alt:ik (m4 d).bT=true:=by rcases aep d with q|q;exact q.2.2;exact absurd hc q.1
 have h0:d.bu.length=0:=by
  by_cases h:d.bu.length=0
  ·exact h
  rw[lg1 (.inr h)]at hc;cases hc
 have hn:¬((dH d).length=d.cells.length\/16000000<=m2 d):=fun q=>by rw[lg2 g9 h0 q]at hc;cases hc
 have hle:=acD g9;have eI:(dH d).length<d.cells.length:=by omega
 have hS:=adx g9 eI x_2;have hW:=ab7 g9 eI x_2 (TB (s:=⟨(dH d).length,m2 d+1,[66]⟩) x_8);have hL:=acE hc;generalize hb:oq ⟨(dH d).length,m2 d+1,[66]⟩=b at hL hW;have hbF:g8 b=true:=by rw[<-hb];exact ali hS
 have hbC:gu b=⟨(dH d).length,m2 d+1,[66]⟩:=by rw[<-hb];exact TE hS
 have hv:oh (m4 d).bT=(oh d).set (dH d).length b:=by rw[hL];show oh (abM _)=_;rw[ak8 hW,ala]
 have hR:=DP g9;have hT:=adS g9;have Lm:yu (dH d)<=m2 d:=by rw[hR,hT];exact alh _
 have rq:dH (m4 d).bT=dH d++[⟨(dH d).length,m2 d+1,[66]⟩]:=by
  rw[DP alt,hv];have e:=run_set (bs:=oh d) (b:=b) (by rw[<-hR,Jl];exact eI);rw[<-hR]at e;rw[e];have hg:pA (dH d) b=true:=sW.2 ⟨hbF,by rw[hbC],by rw[hbC];show yu _<=m2 d+1;omega⟩;rw[amX,if_pos hg,hbC];exact alj (t:=m2 d) (fun x hx=>by rw[hT];exact ak9 (List.mem_of_mem_drop hx)) (by rw[alk];show m2 d<m2 d+1;omega)
 refine⟨?_,by rw[rq,hL];simp,by rw[hL],?_,rq⟩
 ·unfold f8;rw[rq,alm];show pj (dH d)++[]=_;rw[List.append_nil]
 rw[adS alt,hv,hL];show abF _=m2 d+1;have mS:(kP b).dP=m2 d+1:=by rw[dv hbF,hbC]
 refine Int.le_antisymm (alb _ _ (by have:=(acY d).1;omega) fun x hx=>?_) ?_
 ·rcases List.mem_or_eq_of_mem_set hx with q|rfl
  ·have:=ak9 q;rw[<-hT]at this;omega
  omega
 rw[<-mS];exact ak9 (List.mem_iff_getElem.2 ⟨(dH d).length,by rw[List.length_set,Jl];exact eI,by rw[List.getElem_set_self]⟩)
structure alV(l:uW)(e:aV):Prop where
 ge:(ahu l e).next<=((dH (ahu l e).bT).length:Int)
 run:((dH (ahu l e).bT).length:Int)=(ahu l e).next->dH (ahu l e).bT=dH l.bT++[⟨l.next,l.dP,rY e⟩]
 evs:((dH (ahu l e).bT).length:Int)=(ahu l e).next->f8 (ahu l e).bT=f8 l.bT++[e]
theorem kept{d:du}(h:ik d=true):acU (abM d) []=abM d/\f8 (abM d)=f8 d:=by
 have hs:=aiS h;refine⟨?_,?_⟩
 ·rw[adB hs.1,hs.2];have:=hs.2;revert this;generalize abM d=x;intro hx;obtain⟨c,w⟩:=x;subst hx;rfl
 unfold f8;rw[DP hs.1,DP h,ak8 h]
end Go.Proofs.YtflhgkmhmcfimaaGreat

