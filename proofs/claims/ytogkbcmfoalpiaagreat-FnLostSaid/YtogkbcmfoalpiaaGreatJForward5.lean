/- Texts of the proof of FnForward, joined: EA2, EB, EA3, EA4. -/
import Derived.Test.YtogkbcmfoalpiaaGreatJForward4
import Derived.Test.YtogkbcmfoalpiaaGreatJForward3
import Derived.Test.YtogkbcmfoalpiaaGreatKDiv2
import Derived.Test.YtogkbcmfoalpiaaGreatKBook9
import Derived.Test.YtogkbcmfoalpiaaGreatKAp
import Derived.Test.YtogkbcmfoalpiaaGreatKAllowI
import Derived.Test.YtogkbcmfoalpiaaGreatKAllowS
import Derived.Test.YtogkbcmfoalpiaaGreatKScore1
namespace Go.Proofs.YtogkbcmfoalpiaaGreat
open Go.RowKit
set_option maxHeartbeats 16000000
set_option maxRecDepth 100000
set_option linter.unusedSimpArgs false
set_option linter.unusedVariables false
abbrev u64(n:Int):AV:=.p (.v (.int .u64 n))
theorem lz_e:GC Tryz.prog 149 [u64 1000000] [] (int 44) []:=GC.of_vals (r:=.int .i64 44) (RV.v_mk rfl) rfl fun w=>by
 refine(Tryz.bits_LeadingZeros64 1000000 w (by omega) (by omega)).mono ?_
 rintro e w' ⟨rfl,rfl⟩
 exact⟨by congr 2,Grow.refl _⟩
theorem mul64_e(a b:Int)(a0:0≤a)(a1:a≤1125899906842624)(b0:0≤b)(b1:b≤1125899906842624):GC Tryz.prog 147 [u64 a,u64 b] [] (.tup [u64 (a*b/18446744073709551616),u64 (a*b%18446744073709551616)]) []:=
 GC.of_vals (r:=.tuple #[.int .u64 (a*b/18446744073709551616),.int .u64 (a*b%18446744073709551616)]) (RV.tupv (cs:=[.int .u64 (a*b/18446744073709551616),.int .u64 (a*b%18446744073709551616)]) rfl rfl) rfl fun w=>by
  obtain⟨A,rfl⟩:=Int.eq_ofNat_of_zero_le a0
  obtain⟨C,rfl⟩:=Int.eq_ofNat_of_zero_le b0
  refine(Tryz.bits_Mul64 A C (by omega) (by omega) w).mono ?_
  rintro e w' ⟨rfl,rfl⟩
  refine⟨?_,Grow.refl _⟩
  simp
theorem amtOk_e(n:Int):GC Tryz.prog 62 [int n] [] (boo (amtOk n)) []:=GC.of_vals (r:=.bool (amtOk n)) (RV.v_mk rfl) rfl fun w=>(impl_AmtOk_c n w).mono fun e w' h=>⟨h.1,h.2▸Grow.refl _⟩
theorem samtOk_e(n:Int):GC Tryz.prog 76 [int n] [] (boo (amtOk n)) []:=GC.of_vals (r:=.bool (amtOk n)) (RV.v_mk rfl) rfl fun w=>(spec_AmtOk_c n w).mono fun e w' h=>⟨h.1,h.2▸Grow.refl _⟩
def addOk(a b:Int):Bool:=amtOk a&&amtOk b&&amtOk (a+b)
def addV(a b:Int):Int:=if addOk a b then a+b else 0
theorem addV_no{a b:Int}(h:addOk a b=false):addV a b=0:=by unfold addV;rw[h];rfl
theorem addV_yes{a b:Int}(h:addOk a b=true):addV a b=a+b:=by unfold addV;rw[h];rfl
def feeQ(ppm n:Int):Int:=if 0<n*ppm%1000000 then n*ppm/1000000+1 else n*ppm/1000000
def feeIn(ppm n:Int):Bool:=amtOk n&&inB ppm 0 1000000
def feeOk(base ppm n:Int):Bool:=feeIn ppm n&&addOk base (feeQ ppm n)
def feeV(base ppm n:Int):Int:=if feeIn ppm n then addV base (feeQ ppm n)else 0
theorem fee_no{base ppm n:Int}(h:feeIn ppm n=false):feeOk base ppm n=false∧feeV base ppm n=0:=by unfold feeOk feeV;rw[h];exact⟨rfl,rfl⟩
theorem fee_yes{base ppm n:Int}(h:feeIn ppm n=true):feeOk base ppm n=addOk base (feeQ ppm n)∧feeV base ppm n=addV base (feeQ ppm n):=by unfold feeOk feeV;rw[h];exact⟨rfl,rfl⟩
theorem mil_le{n ppm:Int}(n0:0≤n)(p0:0≤ppm)(p1:ppm≤1000000):0≤n*ppm∧n*ppm≤n*1000000:=⟨Int.mul_nonneg n0 p0,Int.mul_le_mul_of_nonneg_left p1 n0⟩
theorem mil_big{n ppm:Int}(n0:0≤n)(n1:n≤1125899906842624)(p0:0≤ppm)(p1:ppm≤1125899906842624):0≤n*ppm∧n*ppm≤1125899906842624*1125899906842624:=⟨Int.mul_nonneg n0 p0,Int.mul_le_mul n1 p1 p0 (by omega)⟩
def divM(a b:Int):AV:=if inB a 0 1125899906842624&&inB b 0 1125899906842624&&decide (a*b/1000000≤1125899906842624)then .tup [int (a*b/1000000),int (a*b%1000000),boo true]else .tup [int 0,int 0,boo false]
theorem divM_no{a b:Int}(h:(amtOk a&&amtOk b&&decide (a*b/1000000≤1125899906842624))=false):divM a b=.tup [int 0,int 0,boo false]:=by unfold divM;unfold amtOk at h;rw[h];rfl
theorem divM_yes{a b:Int}(h:(amtOk a&&amtOk b&&decide (a*b/1000000≤1125899906842624))=true):divM a b=.tup [int (a*b/1000000),int (a*b%1000000),boo true]:=by unfold divM;unfold amtOk at h;rw[h];rfl
def dq1(hi lo:Int):Int:=(hi*17592186044416+lo/1048576)/4096000000
def dun(hi lo:Int):Int:=(hi*17592186044416+lo/1048576)*4294967296+lo*17592186044416%18446744073709551616/4294967296-dq1 hi lo*17592186044416000000
def dq0(hi lo:Int):Int:=dun hi lo/4096000000
theorem dq1_bd{hi lo:Int}(h0:1≤hi)(h1:hi<1000000)(l0:0≤lo)(l1:lo<18446744073709551616):0≤dq1 hi lo∧dq1 hi lo<4294967296∧dq1 hi lo*4096000000≤hi*17592186044416+lo/1048576∧hi*17592186044416+lo/1048576<dq1 hi lo*4096000000+4096000000:=by unfold dq1;omega
theorem dun_eq{hi lo:Int}(l0:0≤lo)(l1:lo<18446744073709551616):dun hi lo=hi*75557863725914323419136+lo*4096-dq1 hi lo*17592186044416000000:=by unfold dun;omega
theorem dun_bd{hi lo:Int}(h0:1≤hi)(h1:hi<1000000)(l0:0≤lo)(l1:lo<18446744073709551616):0≤dun hi lo∧dun hi lo<17592186044416000000:=by
 have:=dq1_bd h0 h1 l0 l1
 rw[dun_eq l0 l1];omega
theorem dq0_bd{hi lo:Int}(h0:1≤hi)(h1:hi<1000000)(l0:0≤lo)(l1:lo<18446744073709551616):0≤dq0 hi lo∧dq0 hi lo<4294967296∧dq0 hi lo*4096000000≤dun hi lo∧dun hi lo<dq0 hi lo*4096000000+4096000000:=by
 have:=dun_bd h0 h1 l0 l1
 unfold dq0;omega
theorem quo_mil{hi lo:Int}(h0:1≤hi)(h1:hi<1000000)(l0:0≤lo)(l1:lo<18446744073709551616):dq1 hi lo*4294967296+dq0 hi lo=(hi*18446744073709551616+lo)/1000000:=by
 have a1:=dq1_bd h0 h1 l0 l1
 have a2:=dq0_bd h0 h1 l0 l1
 have a3:=dun_eq (hi:=hi) l0 l1
 generalize dq1 hi lo=p at *
 generalize dq0 hi lo=q at *
 generalize dun hi lo=u at *
 omega
theorem wrap64_eq(n:Int):IntKind.u64.wrap n=n%18446744073709551616:=by simp[IntKind.wrap,IntKind.signed,IntKind.bits]
theorem hw(a b c:Int):IntKind.u64.wrap (IntKind.u64.wrap (IntKind.u64.wrap a+b)-IntKind.u64.wrap c)=(a+b-c)%18446744073709551616:=by
 rw[wrap64_eq,wrap64_eq,wrap64_eq,wrap64_eq];omega
theorem low_zero(lo:Int):lo*17592186044416%18446744073709551616%4294967296=0:=by omega
theorem rem_mil{hi lo p q u:Int}(a5:p*4294967296+q=(hi*18446744073709551616+lo)/1000000)(a6:u=hi*75557863725914323419136+lo*4096-p*17592186044416000000):(u*4294967296+lo*17592186044416%18446744073709551616%4294967296-q*17592186044416000000)%18446744073709551616=(hi*18446744073709551616+lo)%1000000*17592186044416:=by
 rw[low_zero]
 have h1:=Int.emod_add_mul_ediv (hi*18446744073709551616+lo) 1000000
 have h2:=Int.emod_nonneg (hi*18446744073709551616+lo) (show (1000000:Int)≠0 by decide)
 have h3:=Int.emod_lt_of_pos (hi*18446744073709551616+lo) (show (0:Int)<1000000 by decide)
 rw[←a5]at h1
 generalize (hi*18446744073709551616+lo)%1000000=r at *
 have e:u*4294967296+0-q*17592186044416000000=r*17592186044416:=by omega
 rw[e]
 omega
theorem div64_e(hi lo:Int)(h0:1≤hi)(h1:hi<1000000)(l0:0≤lo)(l1:lo<18446744073709551616):GC Tryz.prog 148 [u64 hi,u64 lo,u64 1000000] [] (.tup [u64 ((hi*18446744073709551616+lo)/1000000),u64 ((hi*18446744073709551616+lo)%1000000)]) []:=by
 refine GC.intro (rs:=[.tmp 6,.tmp 7]) Tryz.func148 rfl Tryz.ntmps148 (Nat.le_of_ble_eq_true rfl) ⟨rfl,rfl,trivial⟩ ?_
 intro L O w0
 refine sL<|laI Z<|laI Z<|nG<|aS<|sL<|lmI Z<|lbB Z<|lsB 20 false rfl (rfl)<|nG<|aN Z<|aK<|gT<|aS<|sL<|lmI Z<|lmI Z<|lbB Z<|lsB 24 false rfl (by simp;omega)<|nG<|aN Z<|aK<|gT<|aS ?_
 refine sL<|lmI Z<|lbB Z<|lsB 27 false rfl (by simp;omega)<|nG<|aN Z<|aK<|gA<|lmI Z<|lst (zL Tryz.func149 (lz_e) rfl) Z<|lq (rd (x:=vI _ _) (rd_conv rfl ty.ik3 ty.ik143 rfl) rfl) ?_
 refine AL.slot 36 (u64 44) rfl ?_
 refine laI Z<|nA<|lmI Z<|lmI Z<|lq (rd (x:=vI _ _) (rd_val rfl rfl rfl (run_shl (r:=17592186044416000000) rfl (by decide) (by decide) (by decide)) rfl) rfl)<|laI Z<|nA<|lmI Z<|lq (rd (x:=vI _ _) (rd_val rfl rfl rfl (run_shr (r:=4096000000) rfl (by decide) (by decide) (by decide)) rfl) rfl)<|laI Z<|nA<|lmI Z<|lq (rd (x:=vI _ _) (rd_val rfl rfl rfl (run_and (r:=0) (by decide)) rfl) rfl)<|laI Z<|nA<|lmI Z<|lmI Z<|lq (rd (x:=vI _ _) (rd_val rfl rfl rfl (run_shl (r:=hi*17592186044416) rfl (by decide) (by decide) (wrap_u64 (by show 0≤hi*17592186044416;omega) (by show hi*17592186044416<_;omega))) rfl) rfl) ?_
 refine lmI Z<|lmI Z<|lq (rd (x:=vI _ _) (rd_val rfl rfl rfl (run_subw (r:=20) (by decide)) rfl) rfl)<|lq (rd (x:=vI _ _) (rd_val rfl rfl rfl (run_shr (r:=lo/1048576) rfl (by decide) (by decide) rfl) rfl) rfl)<|lT [1,2,6,7,8,9,10,46,50] [] ?_
 refine lq (rd (x:=vI _ _) (rd_val rfl rfl rfl (run_or (r:=hi*17592186044416+lo/1048576) (bits_or_add 44 (by omega) (by omega) (by omega) (by omega) (by omega) (by omega))) rfl) rfl)<|laI Z<|nA<|lmI Z<|lmI Z<|lq (rd (x:=vI _ _) (rd_val rfl rfl rfl (run_shl (r:=lo*17592186044416%18446744073709551616) rfl (by decide) (by decide) (by show IntKind.u64.wrap (lo*17592186044416)=_;simp[IntKind.wrap,IntKind.signed,IntKind.bits])) rfl) rfl)<|laI Z<|nA<|lmI Z<|lq (rd (x:=vI _ _) (rd_val rfl rfl rfl (run_shr (r:=lo*17592186044416%18446744073709551616/4294967296) rfl (by decide) (by decide) rfl) rfl) rfl)<|laI Z<|nA<|lmI Z<|lq (rd (x:=vI _ _) (rd_val rfl rfl rfl (run_and (r:=lo*17592186044416%18446744073709551616%4294967296) (bits_and_mask (by omega) (by omega))) rfl) rfl)<|laI Z<|nA<|lmI Z<|lmI rfl ?_
 have a1:=dq1_bd h0 h1 l0 l1
 refine lhI rfl ⟨rfl,by decide,wrap_u64 (by show 0≤(hi*17592186044416+lo/1048576).tdiv 4096000000;rw[Int.tdiv_eq_ediv_of_nonneg (by omega)];exact a1.1) (by show (hi*17592186044416+lo/1048576).tdiv 4096000000<_;rw[Int.tdiv_eq_ediv_of_nonneg (by omega)];have:=a1.2.1;unfold dq1 at this;omega)⟩ ?_
 refine AL.slot 61 (u64 (dq1 hi lo)) (Eq.trans (b:=u64 _) rfl (congrArg u64 (by unfold dq1;exact Int.tdiv_eq_ediv_of_nonneg (by omega)))) ?_
 refine laI Z<|nA<|lmI Z<|lmI Z<|lmI Z ?_
 refine lhI rfl ⟨rfl,wrap_u64 (by omega) (by omega)⟩ ?_
 refine lhI rfl ⟨rfl,wrap_u64 (by omega) (by omega)⟩<|laI Z<|nG<|aS<|aB ?_
 refine aW [2,6,7,8,9,10,11,13,14,15,16] [] (D:=Unit) (fun d=>[]) (fun d=>[]) (fun d=>True) (fun d=>0) (()) (trivial) trivial trivial ?_
 intro d hI
 refine aS<|sL<|lmI Z<|lbB Z<|lsB 68 false rfl (by simp;omega)<|lmZ Z<|lmI Z<|lmI rfl ?_
 refine lhI rfl ⟨rfl,wrap_u64 (by omega) (by omega)⟩<|lmI rfl ?_
 refine lhI rfl ⟨rfl,wrap_u64 (by omega) (by omega)⟩<|lT [2,6,7,8,9,10,11,13,14,15,16,69,72,74] [] ?_
 refine lmI rfl ?_
 refine lhI rfl ⟨rfl,wrap_u64 (by omega) (by omega)⟩<|lbB Z<|lsB 77 false rfl (by simp;omega)<|lkZ Z<|nG<|aN Z<|aE<|eT<|eT<|eB<|gA<|lmI Z<|lq (rd (x:=vI _ _) (rd_val rfl rfl rfl (run_mulw rfl) rfl) rfl)<|lmI Z<|lq (rd (x:=vI _ _) (rd_val rfl rfl rfl (run_addw rfl) rfl) rfl)<|lmI Z<|lmI Z<|lq (rd (x:=vI _ _) (rd_val rfl rfl rfl (run_mulw rfl) rfl) rfl) ?_
 have a2:=dun_bd h0 h1 l0 l1
 have a4:=dq0_bd h0 h1 l0 l1
 refine lq (rd (x:=vI _ _) (rd_val rfl rfl rfl (run_subw (r:=dun hi lo) (by rw[hw];rw[show (hi*17592186044416+lo/1048576)*4294967296+lo*17592186044416%18446744073709551616/4294967296-dq1 hi lo*17592186044416000000=dun hi lo from rfl];omega)) rfl) rfl)<|laI Z<|nA<|lmI Z<|lmI rfl ?_
 refine lhI rfl ⟨rfl,by decide,wrap_u64 (by rw[Int.tdiv_eq_ediv_of_nonneg (by omega)];exact a4.1) (by rw[Int.tdiv_eq_ediv_of_nonneg (by omega)];have:=a4.2.1;unfold dq0 at this;omega)⟩ ?_
 refine AL.slot 96 (u64 (dq0 hi lo)) (Eq.trans (b:=u64 _) rfl (congrArg u64 (by unfold dq0;exact Int.tdiv_eq_ediv_of_nonneg (by omega)))) ?_
 refine laI Z<|nA<|lmI Z<|lmI Z<|lmI Z ?_
 refine lhI rfl ⟨rfl,wrap_u64 (by omega) (by omega)⟩ ?_
 refine lhI rfl ⟨rfl,wrap_u64 (by omega) (by omega)⟩<|laI Z<|nG<|aS<|aB ?_
 refine aW [2,6,7,8,9,10,14,15,16,17,18] [] (D:=Unit) (fun d=>[]) (fun d=>[]) (fun d=>True) (fun d=>0) (()) (trivial) trivial trivial ?_
 intro d hI
 refine aS<|sL<|lmI Z<|lbB Z<|lsB 103 false rfl (by simp;omega)<|lmZ Z<|lmI Z<|lmI rfl ?_
 refine lhI rfl ⟨rfl,wrap_u64 (by omega) (by omega)⟩<|lmI Z<|lT [2,6,7,8,9,10,14,15,16,17,18,104,107,108] [] ?_
 refine lhI rfl ⟨rfl,wrap_u64 (by omega) (by omega)⟩<|lmI rfl ?_
 refine lhI rfl ⟨rfl,wrap_u64 (by omega) (by omega)⟩<|lbB Z<|lsB 112 false rfl (by simp;omega)<|lkZ Z<|nG<|aN Z<|aE<|eT<|eT<|eB<|gA<|lmI rfl ?_
 refine lhI rfl ⟨rfl,wrap_u64 (by omega) (by omega)⟩<|lmI rfl ?_
 have a5:=quo_mil h0 h1 l0 l1
 refine lhI rfl ⟨rfl,wrap_u64 (by omega) (by omega)⟩ ?_
 refine AL.slot 124 (u64 ((hi*18446744073709551616+lo)/1000000)) (Eq.trans (b:=u64 _) rfl (congrArg u64 a5)) ?_
 refine lmI Z<|lq (rd (x:=vI _ _) (rd_val Z Z Z (run_mulw Z) Z) Z)<|lmI Z<|lq (rd (x:=vI _ _) (rd_val Z Z Z (run_addw Z) Z) Z)<|lmI Z<|lmI Z<|lq (rd (x:=vI _ _) (rd_val Z Z Z (run_mulw Z) Z) Z) ?_
 have a6:=dun_eq (hi:=hi) l0 l1
 refine lq (rd (x:=vI _ _) (rd_val rfl rfl rfl (run_subw (r:=(hi*18446744073709551616+lo)%1000000*17592186044416) (by rw[hw];exact rem_mil a5 a6)) rfl) rfl)<|lmI Z<|lq (rd (x:=vI _ _) (rd_val rfl rfl rfl (run_shr (r:=(hi*18446744073709551616+lo)%1000000) rfl (by decide) (by decide) (by show (hi*18446744073709551616+lo)%1000000*17592186044416/17592186044416=_;omega)) rfl) rfl)<|laI Z<|laI Z<|nG<|aR ?_
 refine end_ret ?_ trivial
 rfl
theorem div64_all(hi lo:Int)(h0:0≤hi)(h1:hi<1000000)(l0:0≤lo)(l1:lo<18446744073709551616):GC Tryz.prog 148 [u64 hi,u64 lo,u64 1000000] [] (.tup [u64 ((hi*18446744073709551616+lo)/1000000),u64 ((hi*18446744073709551616+lo)%1000000)]) []:=by
 by_cases h:hi=0
 ·subst h
  refine GC.of_vals (r:=.tuple #[.int .u64 ((0*18446744073709551616+lo)/1000000),.int .u64 ((0*18446744073709551616+lo)%1000000)]) (RV.tupv (cs:=[.int .u64 ((0*18446744073709551616+lo)/1000000),.int .u64 ((0*18446744073709551616+lo)%1000000)]) rfl rfl) rfl fun w=>?_
  refine(Div64_low_c lo 1000000 w l0 (by omega) (by omega) (by omega)).mono ?_
  rintro e w' ⟨rfl,n,rfl⟩
  exact⟨by rw[Int.zero_mul,Int.zero_add],(Grow.refl _).drewN _⟩
 ·exact div64_e hi lo (by omega) h1 l0 l1
theorem hi_lt{a b:Int}(a0:0≤a)(a1:a≤1125899906842624)(b0:0≤b)(b1:b≤1125899906842624):0≤a*b/18446744073709551616∧a*b/18446744073709551616≤68719476736∧0≤a*b%18446744073709551616∧a*b%18446744073709551616<18446744073709551616∧a*b/18446744073709551616*18446744073709551616+a*b%18446744073709551616=a*b:=by
 have:=mil_big a0 a1 b0 b1
 generalize a*b=p at *
 omega
theorem divided_e(a b:Int):GC Tryz.prog 143 [int a,int b,int 1000000] [] (divM a b) []:=by
 refine GC.intro (rs:=[.tmp 6,.tmp 7,.tmp 8]) Tryz.func143 rfl Tryz.ntmps143 (Nat.le_of_ble_eq_true rfl) ⟨rfl,rfl,rfl,trivial⟩ ?_
 intro L O w0
 refine sL<|laI Z<|laI Z<|laZ Z<|nG<|aS<|sL<|lmI Z<|lst (zL Tryz.func62 (amtOk_e _) Z) Z<|luB Z<|lmB Z ?_
 refine AL.bool (t:=16) rfl ?_ ?_
 ·intro h1
  refine lno Z<|lno Z<|lno Z<|lkT Z<|lmT Z<|lno Z<|lno Z<|lno Z<|lkT Z<|nG<|aY Z<|sL<|laI Z<|laI Z<|laZ Z<|nG<|aR<|rT ?_
  refine end_ret ?_ trivial
  first
  |(refine congrArg some (divM_yes ?_).symm;simp[amtOk,inB,ha,hb,hq];done)
  |(refine congrArg some (divM_no ?_).symm;simp_all;done)
  |(refine congrArg some (divM_no ?_).symm;simp only[decide_eq_true_eq]at *;rw[Bool.and_eq_false_iff];right;simp only[decide_eq_false_iff_not];omega)
 ·intro h1
  refine lmI Z<|lst (zL Tryz.func62 (amtOk_e _) Z) Z<|lT [0,1,2,6,7,8,16,18] [] ?_
  refine luB Z<|lkB Z<|lmB Z ?_
  refine AL.bool (t:=21) rfl ?_ ?_
  ·intro h2
   refine lno Z<|lno Z<|lno Z<|lkT Z<|nG<|aY Z<|sL<|laI Z<|laI Z<|laZ Z<|nG<|aR<|rT ?_
   refine end_ret ?_ trivial
   first
   |(refine congrArg some (divM_yes ?_).symm;simp[amtOk,inB,ha,hb,hq];done)
   |(refine congrArg some (divM_no ?_).symm;simp_all;done)
   |(refine congrArg some (divM_no ?_).symm;simp only[decide_eq_true_eq]at *;rw[Bool.and_eq_false_iff];right;simp only[decide_eq_false_iff_not];omega)
  ·intro h2
   refine lmI Z<|lst (zL Tryz.func63 (in_e _ _ _) rfl) Z<|lsB 23 true rfl (by decide)<|luZ Z<|lkZ Z<|nG<|aN Z<|aK<|gA ?_
   have ha:=amtOk_true.1 (by simpa using h1:amtOk a=true)
   have hb:=amtOk_true.1 (by simpa using h2:amtOk b=true)
   obtain⟨g0,g1,g2,g3,g4⟩:=hi_lt ha.1 ha.2 hb.1 hb.2
   refine lmI Z<|lq (rd (x:=vI _ _) (rd_conv Z ty.ik3 ty.ik150 Z) Z) ?_
   refine AL.slot 28 (u64 (a)) (Eq.trans (b:=u64 _) rfl (congrArg u64 (wrap_u64 (by omega) (by omega)))) ?_
   refine lmI Z<|lq (rd (x:=vI _ _) (rd_conv Z ty.ik3 ty.ik150 Z) Z) ?_
   refine AL.slot 30 (u64 (b)) (Eq.trans (b:=u64 _) rfl (congrArg u64 (wrap_u64 (by omega) (by omega)))) ?_
   refine lst (zL Tryz.func147 (mul64_e a b ha.1 ha.2 hb.1 hb.2) Z) Z<|lT [2,6,7,8,31] [] ?_
   refine lmX (.tup [vI _ _,vI _ _]) Z<|lxI Z<|lxI Z<|laI Z<|laI Z<|nG<|aS<|sL<|lmI Z<|lmI Z<|lq (rd (x:=vI _ _) (rd_conv Z ty.ik3 ty.ik150 Z) Z) ?_
   refine AL.slot 36 (u64 (1000000)) (Eq.trans (b:=u64 _) rfl (congrArg u64 (wrap_u64 (by omega) (by omega)))) ?_
   refine lbB Z<|nG ?_
   refine AW.cond rfl ?_ ?_
   ·intro h3
    refine sL<|laI Z<|laI Z<|laZ Z<|nG<|aR<|rT ?_
    refine end_ret ?_ trivial
    first
    |(refine congrArg some (divM_yes ?_).symm;simp[amtOk,inB,ha,hb,hq];done)
    |(refine congrArg some (divM_no ?_).symm;simp_all;done)
    |(refine congrArg some (divM_no ?_).symm;simp only[decide_eq_true_eq]at *;rw[Bool.and_eq_false_iff];right;simp only[decide_eq_false_iff_not];omega)
   ·intro h3
    refine aK<|gA<|lmI Z<|lmI Z<|lmI Z<|lq (rd (x:=vI _ _) (rd_conv Z ty.ik3 ty.ik150 Z) Z) ?_
    refine AL.slot 42 (u64 (1000000)) (Eq.trans (b:=u64 _) rfl (congrArg u64 (wrap_u64 (by omega) (by omega)))) ?_
    refine lst (zL Tryz.func148 (div64_all (a*b/18446744073709551616) (a*b%18446744073709551616) g0 (by have h:=h3;simp only[decide_eq_false_iff_not]at h;omega) g2 g3) rfl) Z<|lT [6,7,8,43] [] ?_
    refine lmX (.tup [vI _ _,vI _ _]) Z<|lxI Z<|lxI Z ?_
    refine AL.slot 44 (u64 (a*b/1000000)) (Eq.trans (b:=u64 _) rfl (congrArg (fun z=>u64 (z/1000000)) g4)) ?_
    refine laI rfl ?_
    refine AL.slot 45 (u64 (a*b%1000000)) (Eq.trans (b:=u64 _) rfl (congrArg (fun z=>u64 (z%1000000)) g4)) ?_
    refine laI Z<|nG<|aS<|sL<|lmI Z<|lbB Z<|nG ?_
    refine AW.cond rfl ?_ ?_
    ·intro h4
     refine sL<|laI Z<|laI Z<|laZ Z<|nG<|aR<|rT ?_
     refine end_ret ?_ trivial
     first
     |(refine congrArg some (divM_yes ?_).symm;simp[amtOk,inB,ha,hb,hq];done)
     |(refine congrArg some (divM_no ?_).symm;simp_all;done)
     |(refine congrArg some (divM_no ?_).symm;simp only[decide_eq_true_eq]at *;rw[Bool.and_eq_false_iff];right;simp only[decide_eq_false_iff_not];omega)
    ·intro h4
     refine aK<|gA<|lmI Z ?_
     have hq:a*b/1000000≤1125899906842624:=by have h:=h4;simp only[decide_eq_false_iff_not]at h;omega
     have hp:=mil_big ha.1 ha.2 hb.1 hb.2
     have hq0:0≤a*b/1000000:=by omega
     refine lq (rd (x:=vI _ _) (rd_conv rfl ty.ik150 ty.ik3 rfl) rfl)<|lsN 49 (a*b/1000000) rfl (by rw[IntKind.wrap_i64];omega)<|lmI Z<|lq (rd (x:=vI _ _) (rd_conv rfl ty.ik150 ty.ik3 rfl) rfl)<|lsN 51 (a*b%1000000) rfl (by rw[IntKind.wrap_i64];omega)<|laI Z<|laI Z<|laT Z<|nG<|aR ?_
     refine end_ret ?_ trivial
     first
     |(refine congrArg some (divM_yes ?_).symm;simp[amtOk,inB,ha,hb,hq];done)
     |(refine congrArg some (divM_no ?_).symm;simp_all;done)
     |(refine congrArg some (divM_no ?_).symm;simp only[decide_eq_true_eq]at *;rw[Bool.and_eq_false_iff];right;simp only[decide_eq_false_iff_not];omega)
theorem divided_yes{a b:Int}(h:(amtOk a&&amtOk b&&decide (a*b/1000000≤1125899906842624))=true):GC Tryz.prog 143 [int a,int b,int 1000000] [] (.tup [int (a*b/1000000),int (a*b%1000000),boo true]) []:=divM_yes h▸divided_e a b
theorem divided_no{a b:Int}(h:(amtOk a&&amtOk b&&decide (a*b/1000000≤1125899906842624))=false):GC Tryz.prog 143 [int a,int b,int 1000000] [] (.tup [int 0,int 0,boo false]) []:=divM_no h▸divided_e a b
theorem in_div{ppm n:Int}(h:feeIn ppm n=true):0≤n∧n≤1125899906842624∧0≤ppm∧ppm≤1000000∧n*ppm/1000000≤n∧0≤n*ppm/1000000:=by
 unfold feeIn at h
 rw[Bool.and_eq_true,amtOk_true,inB_true]at h
 have:=mil_le h.1.1 h.2.1 h.2.2
 generalize n*ppm=p at *
 omega
theorem feeIn_div{ppm n:Int}(h:feeIn ppm n=true):(amtOk n&&amtOk ppm&&decide (n*ppm/1000000≤1125899906842624))=true:=by
 have h2:=in_div h
 rw[Bool.and_eq_true,Bool.and_eq_true,amtOk_true,amtOk_true,decide_eq_true_eq]
 omega
theorem feeIn_of{ppm n:Int}(h:(amtOk n&&amtOk ppm&&decide (n*ppm/1000000≤1125899906842624))=true)(h2:¬1000000<ppm):feeIn ppm n=true:=by
 rw[Bool.and_eq_true,Bool.and_eq_true,amtOk_true,amtOk_true,decide_eq_true_eq]at h
 unfold feeIn
 rw[Bool.and_eq_true,amtOk_true,inB_true]
 omega
theorem feeQ_hi{ppm n:Int}(h:0<n*ppm%1000000):feeQ ppm n=n*ppm/1000000+1:=if_pos h
theorem feeQ_lo{ppm n:Int}(h:¬0<n*ppm%1000000):feeQ ppm n=n*ppm/1000000:=if_neg h
theorem sdiv_e(a b:Int)(h:feeIn b a=true):GC Tryz.prog 144 [int a,int b,int 1000000] [] (.tup [int (a*b/1000000),int (a*b%1000000),boo true]) []:=
 GC.of_vals (r:=.tuple #[.int .i64 (a*b/1000000),.int .i64 (a*b%1000000),.bool true]) (RV.tupv (cs:=[.int .i64 (a*b/1000000),.int .i64 (a*b%1000000),.bool true]) rfl rfl) rfl fun w=>by
  have h2:=in_div h
  refine(spec_l01Div_c a b 1000000 w (by omega) (by omega) (by omega) (by omega) (by omega) (by omega)).mono ?_
  rintro e w' ⟨rfl,rfl⟩
  exact⟨by unfold divRes;rw[if_pos (by omega)],Grow.refl _⟩
theorem amt_e(n:Int):GC Tryz.prog 132 [int n] [] (.tup [int (if amtOk n then n else 0),boo (amtOk n)]) []:=by
 refine GC.intro (rs:=[.tmp 2,.tmp 3]) Tryz.func132 rfl Tryz.ntmps132 (Nat.le_of_ble_eq_true rfl) ⟨rfl,rfl,trivial⟩ ?_
 intro L O w0
 refine sL<|laI Z<|laZ Z<|nG<|aS<|sL<|lmI Z<|lst (zL Tryz.func62 (amtOk_e _) Z) Z<|luB Z<|nG ?_
 refine AW.cond rfl ?_ ?_
 ·intro h1
  refine sL<|laI Z<|laZ Z<|nG<|aR<|rT ?_
  refine end_ret ?_ trivial
  first|(simp_all;done)|(simp_all;rfl)
 ·intro h1
  refine aK<|gA<|lmI Z<|laI Z<|laT Z<|nG<|aR ?_
  refine end_ret ?_ trivial
  first|(simp_all;done)|(simp_all;rfl)
theorem addAmt_e(a b:Int):GC Tryz.prog 99 [int a,int b] [] (.tup [int (addV a b),boo (addOk a b)]) []:=by
 refine GC.intro (rs:=[.tmp 4,.tmp 5]) Tryz.func99 rfl Tryz.ntmps99 (Nat.le_of_ble_eq_true rfl) ⟨rfl,rfl,trivial⟩ ?_
 intro L O w0
 refine sL<|laI Z<|laZ Z<|nG<|aS<|sL<|lmI Z<|lst (zL Tryz.func62 (amtOk_e _) Z) Z<|luB Z<|lmB Z ?_
 refine AL.bool (t:=9) rfl ?_ ?_
 ·intro h1
  refine lno Z<|lno Z<|lno Z<|lkT Z<|nG<|aY Z<|sL<|laI Z<|laZ Z<|nG<|aR<|rT ?_
  refine end_ret ?_ trivial
  unfold addV addOk
  simp_all
  try rfl
 ·intro h1
  refine lmI Z<|lst (zL Tryz.func62 (amtOk_e _) Z) Z<|luB Z<|lkB Z<|nG ?_
  refine AW.cond rfl ?_ ?_
  ·intro h2
   refine sL<|laI Z<|laZ Z<|nG<|aR<|rT ?_
   refine end_ret ?_ trivial
   unfold addV addOk
   simp_all
   try rfl
  ·intro h2
   refine aK<|gA<|lmI Z<|lmI Z ?_
   have ha:=amtOk_true.1 (by simpa using h1:amtOk a=true)
   have hb:=amtOk_true.1 (by simpa using h2:amtOk b=true)
   refine lgI Z<|lst (zL Tryz.func132 (amt_e _) Z) Z<|lT [4,5,17] [] ?_
   refine lxI Z<|lxB Z<|laI Z<|laB Z<|nG<|aR ?_
   refine end_ret ?_ trivial
   unfold addV addOk
   simp_all
   try rfl
theorem saddAmt_e(a b:Int):GC Tryz.prog 52 [int a,int b] [] (.tup [int (addV a b),boo (addOk a b)]) []:=by
 refine GC.intro (rs:=[.tmp 4,.tmp 5]) Tryz.func52 rfl Tryz.ntmps52 (Nat.le_of_ble_eq_true rfl) ⟨rfl,rfl,trivial⟩ ?_
 intro L O w0
 refine sL<|laI Z<|laZ Z<|nG<|aS<|sL<|lmI Z<|lst (zL Tryz.func76 (samtOk_e _) Z) Z<|luB Z<|lmB Z ?_
 refine AL.bool (t:=9) rfl ?_ ?_
 ·intro h1
  refine lno Z<|lno Z<|lno Z<|lkT Z<|lmT Z<|lno Z<|lno Z<|lno Z<|lno Z<|lno Z<|lkT Z<|nG<|aY Z<|sL<|laI Z<|laZ Z<|nG<|aR<|rT ?_
  refine end_ret ?_ trivial
  unfold addV addOk
  simp_all
  try rfl
 ·intro h1
  refine lmI Z<|lst (zL Tryz.func76 (samtOk_e _) Z) Z<|luB Z<|lkB Z<|lmB Z ?_
  refine AL.bool (t:=14) rfl ?_ ?_
  ·intro h2
   refine lno Z<|lno Z<|lno Z<|lno Z<|lno Z<|lkT Z<|nG<|aY Z<|sL<|laI Z<|laZ Z<|nG<|aR<|rT ?_
   refine end_ret ?_ trivial
   unfold addV addOk
   simp_all
   try rfl
  ·intro h2
   refine lmI Z<|lmI Z ?_
   have ha:=amtOk_true.1 (by simpa using h1:amtOk a=true)
   have hb:=amtOk_true.1 (by simpa using h2:amtOk b=true)
   refine lgI Z<|lst (zL Tryz.func76 (samtOk_e _) Z) Z<|lT [0,1,4,5,14,18] [] ?_
   refine luB Z<|lkB Z<|nG ?_
   refine AW.cond rfl ?_ ?_
   ·intro h3
    refine sL<|laI Z<|laZ Z<|nG<|aR<|rT ?_
    refine end_ret ?_ trivial
    unfold addV addOk
    simp_all
    try rfl
   ·intro h3
    refine aK<|gA<|lmI Z<|lmI Z<|lgI Z<|laI Z<|laT Z<|nG<|aR ?_
    refine end_ret ?_ trivial
    unfold addV addOk
    simp_all
    try rfl
theorem fee_e(base ppm n:Int):GC Tryz.prog 131 [int base,int ppm,int n,boo true] [] (.tup [int (feeV base ppm n),boo (feeOk base ppm n)]) []:=by
 refine GC.intro (rs:=[.tmp 8,.tmp 9]) Tryz.func131 rfl Tryz.ntmps131 (Nat.le_of_ble_eq_true rfl) ⟨rfl,rfl,trivial⟩ ?_
 intro L O w0
 refine sL<|laI Z<|laZ Z<|nA<|lmI Z<|lmI Z ?_
 rcases hd:(amtOk n&&amtOk ppm&&decide (n*ppm/1000000≤1125899906842624))with _|_
 ·skip
  refine lst (zL Tryz.func143 (divided_no hd) Z) Z<|lmX (.tup [vI _ _,vI _ _,vB false]) Z<|lxI Z<|lxI Z<|lxX (vB false) Z<|laI Z<|laI Z<|laZ Z<|nG<|aS<|sL<|lmZ Z<|luT Z<|lmT Z<|lno Z<|lno Z<|lkT Z<|nG<|aY Z<|sL<|laI Z<|laZ Z<|nG<|aR<|rT ?_
  refine end_ret ?_ trivial
  have hf:feeIn ppm n=false:=by
   rcases hq:feeIn ppm n with _|_
   ·rfl
   ·rw[feeIn_div hq]at hd;cases hd
  rw[(fee_no hf).1,(fee_no hf).2];try rfl
 ·skip
  refine lst (zL Tryz.func143 (divided_yes hd) Z) Z<|lT [0,1,3,8,9,16] [] ?_
  refine lmX (.tup [vI _ _,vI _ _,vB true]) Z<|lxI Z<|lxI Z<|lxX (vB true) Z<|laI Z<|laI Z<|laT Z<|nG<|aS<|sL<|lmT Z<|luZ Z<|lmZ Z<|lmI Z<|lbB Z<|lkB Z<|nG ?_
  refine AW.cond rfl ?_ ?_
  ·intro h1
   refine sL<|laI Z<|laZ Z<|nG<|aR<|rT ?_
   refine end_ret ?_ trivial
   have hf:feeIn ppm n=false:=by
    rcases hq:feeIn ppm n with _|_
    ·rfl
    ·have:=in_div hq;simp only[decide_eq_true_eq]at *;omega
   rw[(fee_no hf).1,(fee_no hf).2];rfl
  ·intro h1
   refine aK<|gT<|aS<|sL ?_
   have hin:=feeIn_of hd (by simpa using h1)
   have hb:=in_div hin
   refine lmT Z<|lmT Z<|lmI Z<|lbB Z<|lkB Z<|nG ?_
   refine AW.cond rfl ?_ ?_
   ·intro h2
    refine aL<|lmI Z<|lgI Z<|laI Z<|nA<|lmI Z<|lmI Z<|lst (zL Tryz.func99 (addAmt_e _ _) Z) Z<|lT [8,9,35] [] ?_
    refine lxI Z<|lxB Z<|laI Z<|laB Z<|nG<|aR ?_
    refine end_ret ?_ trivial
    rw[(fee_yes hin).1,(fee_yes hin).2,feeQ_hi (by simpa using h2)];rfl
   ·intro h2
    refine aK<|gA<|lmI Z<|lmI Z<|lst (zL Tryz.func99 (addAmt_e _ _) Z) Z<|lxI Z<|lxB Z<|laI Z<|laB Z<|nG<|aR ?_
    refine end_ret ?_ trivial
    rw[(fee_yes hin).1,(fee_yes hin).2,feeQ_lo (by simpa using h2)];rfl
theorem feeUp_e(base ppm n:Int):GC Tryz.prog 98 [int base,int ppm,int n] [] (.tup [int (feeV base ppm n),boo (feeOk base ppm n)]) []:=by
 refine GC.intro (rs:=[.tmp 6,.tmp 7]) Tryz.func98 rfl Tryz.ntmps98 (Nat.le_of_ble_eq_true rfl) ⟨rfl,rfl,trivial⟩ ?_
 intro L O w0
 refine sL<|laI Z<|laZ Z<|nA<|lmI Z<|lmI Z<|lmI Z<|lst (zL Tryz.func131 (fee_e _ _ _) Z) Z<|lxI Z<|lxB Z<|laI Z<|laB Z<|nG<|aR ?_
 refine end_ret ?_ trivial
 rfl
theorem sfee_e(base ppm n:Int):GC Tryz.prog 136 [int base,int ppm,int n,boo true] [] (.tup [int (feeV base ppm n),boo (feeOk base ppm n)]) []:=by
 refine GC.intro (rs:=[.tmp 8,.tmp 9]) Tryz.func136 rfl Tryz.ntmps136 (Nat.le_of_ble_eq_true rfl) ⟨rfl,rfl,trivial⟩ ?_
 intro L O w0
 refine sL<|laI Z<|laZ Z<|nG<|aS<|sL<|lmI Z<|lst (zL Tryz.func76 (samtOk_e _) Z) Z<|luB Z<|lmB Z ?_
 refine AL.bool (t:=16) rfl ?_ ?_
 ·intro h1
  refine lno Z<|lno Z<|lno Z<|lkT Z<|lmT Z<|lno Z<|lno Z<|lkT Z<|lmT Z<|lno Z<|lno Z<|lkT Z<|nG<|aY Z<|sL<|laI Z<|laZ Z<|nG<|aR<|rT ?_
  refine end_ret ?_ trivial
  first
  |(rw[(fee_yes hin).1,(fee_yes hin).2,feeQ_hi (by simpa using h1)];rfl)
  |(rw[(fee_yes hin).1,(fee_yes hin).2,feeQ_lo (by simpa using h1)];rfl)
  |(have hb0:amtOk base=false:=by simpa using h1
    have hf:feeOk base ppm n=false∧feeV base ppm n=0:=by unfold feeOk feeV addV addOk;simp[hb0]
    rw[hf.1,hf.2];rfl)
  |(have hf:feeIn ppm n=false:=by
     rcases hq:feeIn ppm n with _|_
     ·rfl
     ·have h:=in_div hq;have h2:amtOk n=true:=amtOk_true.2 ⟨h.1,h.2.1⟩;simp_all<;>omega
    rw[(fee_no hf).1,(fee_no hf).2];rfl)
 ·intro h1
  refine lmI Z<|lst (zL Tryz.func76 (samtOk_e _) Z) Z<|lT [0,1,2,3,8,9,16,18] [] ?_
  refine luB Z<|lkB Z<|lmB Z ?_
  refine AL.bool (t:=21) rfl ?_ ?_
  ·intro h2
   refine lno Z<|lno Z<|lkT Z<|lmT Z<|lno Z<|lno Z<|lkT Z<|nG<|aY Z<|sL<|laI Z<|laZ Z<|nG<|aR<|rT ?_
   refine end_ret ?_ trivial
   first
   |(rw[(fee_yes hin).1,(fee_yes hin).2,feeQ_hi (by simpa using h2)];rfl)
   |(rw[(fee_yes hin).1,(fee_yes hin).2,feeQ_lo (by simpa using h2)];rfl)
   |(have hb0:amtOk base=false:=by simpa using h1
     have hf:feeOk base ppm n=false∧feeV base ppm n=0:=by unfold feeOk feeV addV addOk;simp[hb0]
     rw[hf.1,hf.2];rfl)
   |(have hf:feeIn ppm n=false:=by
      rcases hq:feeIn ppm n with _|_
      ·rfl
      ·have h:=in_div hq;have h2:amtOk n=true:=amtOk_true.2 ⟨h.1,h.2.1⟩;simp_all<;>omega
     rw[(fee_no hf).1,(fee_no hf).2];rfl)
  ·intro h2
   refine lmI Z<|lbB Z<|lkB Z<|lmB Z ?_
   refine AL.bool (t:=25) rfl ?_ ?_
   ·intro h3
    refine lno Z<|lno Z<|lkT Z<|nG<|aY Z<|sL<|laI Z<|laZ Z<|nG<|aR<|rT ?_
    refine end_ret ?_ trivial
    first
    |(rw[(fee_yes hin).1,(fee_yes hin).2,feeQ_hi (by simpa using h3)];rfl)
    |(rw[(fee_yes hin).1,(fee_yes hin).2,feeQ_lo (by simpa using h3)];rfl)
    |(have hb0:amtOk base=false:=by simpa using h1
      have hf:feeOk base ppm n=false∧feeV base ppm n=0:=by unfold feeOk feeV addV addOk;simp[hb0]
      rw[hf.1,hf.2];rfl)
    |(have hf:feeIn ppm n=false:=by
       rcases hq:feeIn ppm n with _|_
       ·rfl
       ·have h:=in_div hq;have h2:amtOk n=true:=amtOk_true.2 ⟨h.1,h.2.1⟩;simp_all<;>omega
      rw[(fee_no hf).1,(fee_no hf).2];rfl)
   ·intro h3
    refine lmI Z<|lbB Z<|lkB Z<|nG ?_
    refine AW.cond rfl ?_ ?_
    ·intro h4
     refine sL<|laI Z<|laZ Z<|nG<|aR<|rT ?_
     refine end_ret ?_ trivial
     first
     |(rw[(fee_yes hin).1,(fee_yes hin).2,feeQ_hi (by simpa using h4)];rfl)
     |(rw[(fee_yes hin).1,(fee_yes hin).2,feeQ_lo (by simpa using h4)];rfl)
     |(have hb0:amtOk base=false:=by simpa using h1
       have hf:feeOk base ppm n=false∧feeV base ppm n=0:=by unfold feeOk feeV addV addOk;simp[hb0]
       rw[hf.1,hf.2];rfl)
     |(have hf:feeIn ppm n=false:=by
        rcases hq:feeIn ppm n with _|_
        ·rfl
        ·have h:=in_div hq;have h2:amtOk n=true:=amtOk_true.2 ⟨h.1,h.2.1⟩;simp_all<;>omega
       rw[(fee_no hf).1,(fee_no hf).2];rfl)
    ·intro h4
     refine aK<|gA ?_
     have hin:feeIn ppm n=true:=by
      unfold feeIn inB
      simp_all
     have hb:=in_div hin
     refine lmI Z<|lmI Z<|lst (zL Tryz.func144 (sdiv_e n ppm hin) Z) Z<|lT [0,3,8,9,32] [] ?_
     refine lmX (.tup [vI _ _,vI _ _,vB true]) Z<|lxI Z<|lxI Z<|lxX (vB true) Z<|laI Z<|laI Z<|laT Z<|nG<|aS<|sL<|lmT Z<|luZ Z<|nG<|aN Z<|aK<|gT<|aS<|sL<|lmT Z<|lmT Z<|lmI Z<|lbB Z<|lkB Z<|nG ?_
     refine AW.cond rfl ?_ ?_
     ·intro h5
      refine aL<|lmI Z<|lgI Z<|laI Z<|nA<|lmI Z<|lmI Z<|lst (zL Tryz.func52 (saddAmt_e _ _) Z) Z<|lT [8,9,47] [] ?_
      refine lxI Z<|lxB Z<|laI Z<|laB Z<|nG<|aR ?_
      refine end_ret ?_ trivial
      first
      |(rw[(fee_yes hin).1,(fee_yes hin).2,feeQ_hi (by simpa using h5)];rfl)
      |(rw[(fee_yes hin).1,(fee_yes hin).2,feeQ_lo (by simpa using h5)];rfl)
      |(have hb0:amtOk base=false:=by simpa using h1
        have hf:feeOk base ppm n=false∧feeV base ppm n=0:=by unfold feeOk feeV addV addOk;simp[hb0]
        rw[hf.1,hf.2];rfl)
      |(have hf:feeIn ppm n=false:=by
         rcases hq:feeIn ppm n with _|_
         ·rfl
         ·have h:=in_div hq;have h2:amtOk n=true:=amtOk_true.2 ⟨h.1,h.2.1⟩;simp_all<;>omega
        rw[(fee_no hf).1,(fee_no hf).2];rfl)
     ·intro h5
      refine aK<|gA<|lmI Z<|lmI Z<|lst (zL Tryz.func52 (saddAmt_e _ _) Z) Z<|lxI Z<|lxB Z<|laI Z<|laB Z<|nG<|aR ?_
      refine end_ret ?_ trivial
      first
      |(rw[(fee_yes hin).1,(fee_yes hin).2,feeQ_hi (by simpa using h5)];rfl)
      |(rw[(fee_yes hin).1,(fee_yes hin).2,feeQ_lo (by simpa using h5)];rfl)
      |(have hb0:amtOk base=false:=by simpa using h1
        have hf:feeOk base ppm n=false∧feeV base ppm n=0:=by unfold feeOk feeV addV addOk;simp[hb0]
        rw[hf.1,hf.2];rfl)
      |(have hf:feeIn ppm n=false:=by
         rcases hq:feeIn ppm n with _|_
         ·rfl
         ·have h:=in_div hq;have h2:amtOk n=true:=amtOk_true.2 ⟨h.1,h.2.1⟩;simp_all<;>omega
        rw[(fee_no hf).1,(fee_no hf).2];rfl)
theorem sfeeUp_e(base ppm n:Int):GC Tryz.prog 112 [int base,int ppm,int n] [] (.tup [int (feeV base ppm n),boo (feeOk base ppm n)]) []:=by
 refine GC.intro (rs:=[.tmp 6,.tmp 7]) Tryz.func112 rfl Tryz.ntmps112 (Nat.le_of_ble_eq_true rfl) ⟨rfl,rfl,trivial⟩ ?_
 intro L O w0
 refine sL<|laI Z<|laZ Z<|nA<|lmI Z<|lmI Z<|lmI Z<|lst (zL Tryz.func136 (sfee_e _ _ _) Z) Z<|lxI Z<|lxB Z<|laI Z<|laB Z<|nG<|aR ?_
 refine end_ret ?_ trivial
 rfl

def bookV(x:Book):AV:=.agg [.p (.v (.int .i64 x.tick)),.p (.v (.int .i64 x.next)),.p (.v (.int .i64 x.wallet)),.p (.lst 40 7 (rowsOf encChan x.chans)),.p (.lst 68 7 (rowsOf encHtlc x.htlcs)),.p (.lst 78 5 (rowsOf encCircle x.circles))]
structure BookWf(x:Book):Prop where
 chans:∀c∈x.chans,wfChan c
 htlcs:∀c∈x.htlcs,wfHtlc c
 circles:∀c∈x.circles,wfCircle c
 len:x.chans.length≤1048576
theorem SlR.form{α:Type}{sz:Nat}{rep:World→Nat→Nat→List Value→α→Prop}{w:World}{lo hi:Nat}{v:Value}{xs:List α}(h:SlR sz rep w lo hi v xs):∃a c,v=.slice a xs.length c:=by
 obtain⟨a,c,rfl,_⟩:=h
 exact⟨a,c,rfl⟩
theorem bookArg{L:Nat→Prop}{ρ:Nat→Value}{H:Nat→AO}{x:Book}{w:World}{c:Value}(h:RV L ρ H w (bookV x) c)(hw:BookWf x) :
 ∃a0 c0 a1 c1 a2 c2,c=.agg #[.int .i64 x.tick,.int .i64 x.next,.int .i64 x.wallet,.slice a0 x.chans.length c0,.slice a1 x.htlcs.length c1,.slice a2 x.circles.length c2]∧
  SlR 7 repChan w 0 w.heap.size (.slice a0 x.chans.length c0) x.chans∧SlR 7 repHtlc w 0 w.heap.size (.slice a1 x.htlcs.length c1) x.htlcs∧SlR 5 repCircle w 0 w.heap.size (.slice a2 x.circles.length c2) x.circles:=by
 unfold bookV at h
 rw[RV]at h
 obtain⟨cs,rfl,h⟩:=h
 simp only[RVL]at h
 obtain⟨v0,r0,rfl,h0,v1,r1,rfl,h1,v2,r2,rfl,h2,v3,r3,rfl,h3,v4,r4,rfl,h4,v5,r5,rfl,h5,rfl⟩:=h
 have s3:=h3.slr (rep:=repChan) (fun x=>rfl) (fun c hc=>⟨rfl,hw.chans c hc⟩)
 have s4:=h4.slr (rep:=repHtlc) (fun x=>rfl) (fun c hc=>⟨rfl,hw.htlcs c hc⟩)
 have s5:=h5.slr (rep:=repCircle) (fun x=>rfl) (fun c hc=>⟨rfl,hw.circles c hc⟩)
 obtain⟨a0,c0,rfl⟩:=s3.form
 obtain⟨a1,c1,rfl⟩:=s4.form
 obtain⟨a2,c2,rfl⟩:=s5.form
 exact⟨a0,c0,a1,c1,a2,c2,by rw[h0.v_eq,h1.v_eq,h2.v_eq],s3,s4,s5⟩
theorem GC.of_old{P:Program}{f:FuncId}{args:List AV}{x:AV}{r:Value}(ho:∀ {L:Nat→Prop} {ρ:Nat→Value} {w:World},RV L ρ (ofO []) w x r)
 (h:∀(L:Nat→Prop) (ρ:Nat→Value) (w:World) (cs:List Value),RVL L ρ (ofO []) w args cs→Calls P f cs.toArray w fun e w'=>e=.returned r∧Grow w w'):GC P f args [] x []:=by
 intro L w cs ρ fp hL hargs hob hdj hLf
 refine Calls.mono (h L ρ w cs hargs) ?_
 rintro e w' ⟨rfl,g⟩
 refine⟨x,[],⟨rfl,rfl⟩,r,ρ,fun _=>[],rfl,⟨g.below.os,g.below.tape,g.below.output,g.size,fun b hb _=>g.below.block b hb,fun b o hb hlt=>?_⟩,ho,fun i=>rfl,by simp,by simp⟩
 rcases hb with⟨i,hi⟩|hb
 ·have:=(hob i).only hi
  cases this.1
 ·exact g.nf b o hb hlt
theorem RVL.two{L:Nat→Prop}{ρ:Nat→Value}{H:Nat→AO}{w:World}{x y:AV}{cs:List Value}(h:RVL L ρ H w [x,y] cs):∃c d,cs=[c,d]∧RV L ρ H w x c∧RV L ρ H w y d:=by
 simp only[RVL]at h
 obtain⟨c,r,rfl,h1,d,r',rfl,h2,rfl⟩:=h
 exact⟨c,d,rfl,h1,h2⟩
theorem RVL.sole{L:Nat→Prop}{ρ:Nat→Value}{H:Nat→AO}{w:World}{x:AV}{cs:List Value}(h:RVL L ρ H w [x] cs):∃c,cs=[c]∧RV L ρ H w x c:=by
 simp only[RVL]at h
 obtain⟨c,r,rfl,h1,rfl⟩:=h
 exact⟨c,rfl,h1⟩
theorem impl_BookOk_e(x:Book)(hw:BookWf x):GC Tryz.prog 11 [bookV x] [] (boo (bookOk x)) []:=GC.of_old (RV.v_mk rfl) fun L ρ w cs h=>by
 obtain⟨c,rfl,hc⟩:=h.sole
 obtain⟨a0,c0,a1,c1,a2,c2,rfl,s0,s1,s2⟩:=bookArg hc hw
 exact impl_BookOk_c x _ _ _ _ _ _ w s0 s1 s2 hw.len
theorem spec_BookOk_e(x:Book)(hw:BookWf x):GC Tryz.prog 22 [bookV x] [] (boo (bookOk x)) []:=GC.of_old (RV.v_mk rfl) fun L ρ w cs h=>by
 obtain⟨c,rfl,hc⟩:=h.sole
 obtain⟨a0,c0,a1,c1,a2,c2,rfl,s0,s1,s2⟩:=bookArg hc hw
 exact spec_BookOk_c x _ _ _ _ _ _ w s0 s1 s2 hw.len
theorem impl_chanAt_e(x:Book)(ch:Int)(hw:BookWf x):GC Tryz.prog 69 [bookV x,int ch] [] (int (chanAt x.chans ch)) []:=GC.of_old (RV.v_mk rfl) fun L ρ w cs h=>by
 obtain⟨c,d,rfl,hc,hd⟩:=h.two
 obtain⟨a0,c0,a1,c1,a2,c2,rfl,s0,s1,s2⟩:=bookArg hc hw
 rw[hd.v_eq]
 exact impl_chanAt_c x _ _ _ _ _ _ ch w s0 hw.len
theorem transit_e(x:Book)(ch:Int)(hw:BookWf x)(sm:Small x):GC Tryz.prog 67 [bookV x,int ch] [] (.tup [int (outOf x ch),int (intoOf x ch)]) []:=GC.of_old (r:=.tuple #[.int .i64 (outOf x ch),.int .i64 (intoOf x ch)]) (by
 intro L ρ w
 rw[RV]
 refine⟨[.int .i64 (outOf x ch),.int .i64 (intoOf x ch)],rfl,?_⟩
 simp only[RVL]
 exact⟨_,_,rfl,RV.v_mk rfl,_,_,rfl,RV.v_mk rfl,rfl⟩) fun L ρ w cs h=>by
 obtain⟨c,d,rfl,hc,hd⟩:=h.two
 obtain⟨a0,c0,a1,c1,a2,c2,rfl,s0,s1,s2⟩:=bookArg hc hw
 rw[hd.v_eq]
 exact transit_c x _ _ _ _ _ _ ch w s1 s2 sm
theorem bookOk_next{x:Book}(h:bookOk x=true):1≤x.next∧x.next≤1125899906842624:=by
 unfold bookOk at h
 simp only[Bool.and_eq_true]at h
 exact inB_true.1 h.1.1.1.2
theorem bookOk_small{x:Book}(h:bookOk x=true):Small x:=by
 unfold bookOk at h
 simp only[Bool.and_eq_true]at h
 exact Small.of_parts h.1.2

def atI{α:Type}(p:α→Bool)(l:List α):Int:=match l.findIdx? p with|some i=>(i:Int)|none=>-1
theorem atI_at{α:Type}{p:α→Bool}{l:List α}{k:Nat}(hk:k<l.length)(h:∀j (h:j<l.length),j<k→p l[j]=false)(h2:p l[k]=true):atI p l=(k:Int):=by
 unfold atI
 rw[List.findIdx?_eq_some_iff_getElem.2 ⟨hk,h2,fun j hj=>by simp[h j (by omega) hj]⟩]
theorem atI_no{α:Type}{p:α→Bool}{l:List α}(h:∀j (h:j<l.length),p l[j]=false):atI p l=-1:=by
 unfold atI
 rw[List.findIdx?_eq_none_iff.2 (fun x hx=>by
  obtain⟨j,hj,rfl⟩:=List.getElem_of_mem hx
  exact h j hj)]
theorem atI_cases{α:Type}(p:α→Bool)(l:List α):atI p l=-1∨∃k,∃h:k<l.length,atI p l=(k:Int)∧p l[k]=true:=by
 unfold atI
 cases h:l.findIdx? p with
 |none=>exact .inl rfl
 |some i=>
  obtain⟨h1,h2,_⟩:=List.findIdx?_eq_some_iff_getElem.1 h
  exact .inr ⟨i,h1,rfl,by simpa using h2⟩
theorem all_succ{α:Type}{p:α→Bool}{l:List α}{k:Nat}(hk:k<l.length)(h:∀j (h:j<l.length),j<k→p l[j]=false)(h2:p l[k]=false):∀j (h:j<l.length),j<k+1→p l[j]=false:=fun j hj hlt=>by
 rcases Nat.lt_or_ge j k with q|q
 ·exact h j hj q
 ·have:j=k:=by omega
  subst this;exact h2
theorem any_no{α:Type}{p:α→Bool}{l:List α}(h:∀j (h:j<l.length),p l[j]=false):l.any p=false:=by
 rw[List.any_eq_false]
 intro x hx
 obtain⟨j,hj,rfl⟩:=List.getElem_of_mem hx
 simp[h j hj]
theorem any_yes{α:Type}{p:α→Bool}{l:List α}{k:Nat}(hk:k<l.length)(h:p l[k]=true):l.any p=true:=List.any_eq_true.2 ⟨_,List.getElem_mem hk,h⟩
def htlcAt(l:List Htlc)(key:Int):Int:=atI (fun h=>h.key==key) l
def circleAt(l:List Circle)(key:Int):Int:=atI (fun h=>h.key==key) l
theorem chanAt_atI(l:List Chan)(ch:Int):chanAt l ch=atI (fun c=>c.id==ch) l:=rfl
def hUses(ch:Int)(h:Htlc):Bool:=h.inn==ch||h.out==ch
def cUses(ch:Int)(c:Circle):Bool:=c.frm==ch||c.to==ch
def usedB(x:Book)(ch:Int):Bool:=x.htlcs.any (hUses ch)||x.circles.any (cUses ch)
def knownB(x:Book)(key:Int):Bool:=decide (0≤htlcAt x.htlcs key)||decide (0≤circleAt x.circles key)
def hFew(ch:Int)(h:Htlc):Int:=if h.out=ch∧h.kept=false then h.amtOut else 0
def hOne(ch:Int)(h:Htlc):Int:=if h.out=ch then 1 else 0
def hOneF(ch:Int)(h:Htlc):Int:=if h.out=ch∧h.kept=false then 1 else 0
def standing(n:Int)(g:Bool):Bool:=scoreOk n&&decide (20≤n)&&g
def roomV(l:List Htlc)(frm to:Chan)(ch amt:Int)(yes:Bool):Int:=allow to.size (tot (hFew ch) l) (tot (hOut ch) l) (tot (hOneF ch) l) (tot (hOne ch) l) amt (standing frm.score yes)
def clampV(n lo hi:Int):Int:=if n<lo then lo else if hi<n then hi else n
def SmallH(l:List Htlc):Prop:=l.length≤60∧∀h∈l,0≤h.amtOut∧h.amtOut≤1125899906842624
theorem SmallH.at{l:List Htlc}(s:SmallH l){k:Nat}(hk:k<l.length):0≤l[k].amtOut∧l[k].amtOut≤1125899906842624:=s.2 _ (List.getElem_mem hk)
theorem SmallH.few{l:List Htlc}(s:SmallH l)(ch:Int)(k:Nat):0≤tot (hFew ch) (l.take k)∧tot (hFew ch) (l.take k)≤60*1125899906842624:=tot_lim 60 (by decide) (fun h hh=>by have:=s.2 h hh;unfold hFew;split<;>omega) s.1 k
theorem SmallH.all{l:List Htlc}(s:SmallH l)(ch:Int)(k:Nat):0≤tot (hOut ch) (l.take k)∧tot (hOut ch) (l.take k)≤60*1125899906842624:=tot_lim 60 (by decide) (fun h hh=>by have:=s.2 h hh;unfold hOut;split<;>omega) s.1 k
theorem SmallH.one{l:List Htlc}(s:SmallH l)(ch:Int)(k:Nat):0≤tot (hOne ch) (l.take k)∧tot (hOne ch) (l.take k)≤60*1:=tot_lim 60 (by decide) (fun h hh=>by unfold hOne;split<;>omega) s.1 k
theorem SmallH.oneF{l:List Htlc}(s:SmallH l)(ch:Int)(k:Nat):0≤tot (hOneF ch) (l.take k)∧tot (hOneF ch) (l.take k)≤60*1:=tot_lim 60 (by decide) (fun h hh=>by unfold hOneF;split<;>omega) s.1 k
theorem tot_skip{α:Type}{f:α→Int}{l:List α}{k:Nat}(hk:k<l.length)(h:f l[k]=0):tot f (l.take (k+1))=tot f (l.take k):=by rw[tot_succ f l hk,h];omega
theorem tot_add{α:Type}{f:α→Int}{l:List α}{k:Nat}{n:Int}(hk:k<l.length)(h:f l[k]=n):tot f (l.take k)+n=tot f (l.take (k+1)):=by rw[tot_succ f l hk,h]
theorem chanAt_e(x:Book)(ch:Int)(hm:x.chans.length≤1000000000):GC Tryz.prog 69 [bookV x,int ch] [] (int (atI (fun c=>c.id==ch) x.chans)) []:=by
 refine gi 4 Tryz.func69 rfl Tryz.ntmps69 rfl ?_
 intro L O w0
 refine sL<|lst (zX 2002 Z) Z<|laI Z<|nG<|aS<|sL<|lf 3 ty.F27_3 Z<|loL ty.kd23 Z<|lnI ty.sl23 Z<|lmI Z<|nG<|aB ?_
 refine aW [1,4,8,9] [2002] (D:=Nat) (fun k=>[(10,int (k:Int))]) (fun k=>[]) (fun k=>k≤x.chans.length∧∀j (h:j<x.chans.length),j<k→(fun c=>c.id==ch) x.chans[j]=false) (fun k=>x.chans.length-k) (0) (⟨Nat.zero_le _,fun j _ h=>absurd h (by omega)⟩) ⟨rfl,trivial⟩ trivial ?_
 intro k hI
 obtain⟨hkl,hall⟩:=hI
 refine sL<|lbB Z<|nG<|aS ?_
 refine AW.cond rfl ?_ ?_
 ·intro h1
  refine aK<|gT<|aS<|aB<|sL<|lmI Z ?_
  have hk:k<x.chans.length:=by simpa[length_rowsOf]using h1
  refine li k ty.el23 Z (row_map hk)<|lrX (.agg [vI _ _,vI _ _,vI _ _,vI _ _,vI _ _,vI _ _,vI _ _]) ty.kd40 Z<|lst (zA 2006 ty.ze40 Z) Z<|laI Z<|lst (zB 2006 ty.co40 ty.inf40 Z) Z<|nA<|lf 0 ty.F40_0 Z<|loI ty.kd3 Z<|lmI Z<|lbB Z<|nG ?_
  refine AW.cond rfl ?_ ?_
  ·intro h2
   refine sL<|lmI Z<|laI Z<|nG<|aR<|rB<|rT<|rT<|rB<|rT ?_
   refine end_ret ?_ trivial
   refine congrArg (fun n=>some (int n)) ?_
   exact(atI_at hk hall (by simpa using h2)).symm
  ·intro h2
   refine aK<|gB<|gT<|aL<|lgI Z<|lmI Z<|nG ?_
   refine⟨k+1,⟨hk,all_succ (p:=(fun c=>c.id==ch)) hk hall (by simpa using h2)⟩,by omega,⟨(iq rfl),trivial⟩,trivial,rfl,rfl⟩
 ·intro h1
  refine aE<|eT<|eT<|eB<|gA<|laI Z<|nG<|aR ?_
  refine end_ret ?_ trivial
  refine congrArg (fun n=>some (int n)) ?_
  exact(atI_no fun j hj=>hall j hj (by have h:=h1;simp only[length_rowsOf,decide_eq_false_iff_not]at h;omega)).symm
theorem htlcAt_e(x:Book)(key:Int)(hm:x.htlcs.length≤1000000000):GC Tryz.prog 101 [bookV x,int key] [] (int (atI (fun c=>c.key==key) x.htlcs)) []:=by
 refine gi 4 Tryz.func101 rfl Tryz.ntmps101 rfl ?_
 intro L O w0
 refine sL<|lst (zX 2002 Z) Z<|laI Z<|nG<|aS<|sL<|lf 4 ty.F27_4 Z<|loL ty.kd24 Z<|lnI ty.sl24 Z<|lmI Z<|nG<|aB ?_
 refine aW [1,4,8,9] [2002] (D:=Nat) (fun k=>[(10,int (k:Int))]) (fun k=>[]) (fun k=>k≤x.htlcs.length∧∀j (h:j<x.htlcs.length),j<k→(fun c=>c.key==key) x.htlcs[j]=false) (fun k=>x.htlcs.length-k) (0) (⟨Nat.zero_le _,fun j _ h=>absurd h (by omega)⟩) ⟨rfl,trivial⟩ trivial ?_
 intro k hI
 obtain⟨hkl,hall⟩:=hI
 refine sL<|lbB Z<|nG<|aS ?_
 refine AW.cond rfl ?_ ?_
 ·intro h1
  refine aK<|gT<|aS<|aB<|sL<|lmI Z ?_
  have hk:k<x.htlcs.length:=by simpa[length_rowsOf]using h1
  refine li k ty.el24 Z (row_map hk)<|lrX (.agg [vI _ _,vI _ _,vI _ _,vI _ _,vI _ _,vB _,vI _ _]) ty.kd68 Z<|lst (zA 2006 ty.ze68 Z) Z<|laI Z<|lst (zB 2006 ty.co68 ty.inf68 Z) Z<|nA<|lf 0 ty.F68_0 Z<|loI ty.kd3 Z<|lmI Z<|lbB Z<|nG ?_
  refine AW.cond rfl ?_ ?_
  ·intro h2
   refine sL<|lmI Z<|laI Z<|nG<|aR<|rB<|rT<|rT<|rB<|rT ?_
   refine end_ret ?_ trivial
   refine congrArg (fun n=>some (int n)) ?_
   exact(atI_at hk hall (by simpa using h2)).symm
  ·intro h2
   refine aK<|gB<|gT<|aL<|lgI Z<|lmI Z<|nG ?_
   refine⟨k+1,⟨hk,all_succ (p:=(fun c=>c.key==key)) hk hall (by simpa using h2)⟩,by omega,⟨(iq rfl),trivial⟩,trivial,rfl,rfl⟩
 ·intro h1
  refine aE<|eT<|eT<|eB<|gA<|laI Z<|nG<|aR ?_
  refine end_ret ?_ trivial
  refine congrArg (fun n=>some (int n)) ?_
  exact(atI_no fun j hj=>hall j hj (by have h:=h1;simp only[length_rowsOf,decide_eq_false_iff_not]at h;omega)).symm
theorem circleAt_e(x:Book)(key:Int)(hm:x.circles.length≤1000000000):GC Tryz.prog 105 [bookV x,int key] [] (int (atI (fun c=>c.key==key) x.circles)) []:=by
 refine gi 4 Tryz.func105 rfl Tryz.ntmps105 rfl ?_
 intro L O w0
 refine sL<|lst (zX 2002 Z) Z<|laI Z<|nG<|aS<|sL<|lf 5 ty.F27_5 Z<|loL ty.kd25 Z<|lnI ty.sl25 Z<|lmI Z<|nG<|aB ?_
 refine aW [1,4,8,9] [2002] (D:=Nat) (fun k=>[(10,int (k:Int))]) (fun k=>[]) (fun k=>k≤x.circles.length∧∀j (h:j<x.circles.length),j<k→(fun c=>c.key==key) x.circles[j]=false) (fun k=>x.circles.length-k) (0) (⟨Nat.zero_le _,fun j _ h=>absurd h (by omega)⟩) ⟨rfl,trivial⟩ trivial ?_
 intro k hI
 obtain⟨hkl,hall⟩:=hI
 refine sL<|lbB Z<|nG<|aS ?_
 refine AW.cond rfl ?_ ?_
 ·intro h1
  refine aK<|gT<|aS<|aB<|sL<|lmI Z ?_
  have hk:k<x.circles.length:=by simpa[length_rowsOf]using h1
  refine li k ty.el25 Z (row_map hk)<|lrX (.agg [vI _ _,vI _ _,vI _ _,vI _ _,vI _ _]) ty.kd78 Z<|lst (zA 2006 ty.ze78 Z) Z<|laI Z<|lst (zB 2006 ty.co78 ty.inf78 Z) Z<|nA<|lf 0 ty.F78_0 Z<|loI ty.kd3 Z<|lmI Z<|lbB Z<|nG ?_
  refine AW.cond rfl ?_ ?_
  ·intro h2
   refine sL<|lmI Z<|laI Z<|nG<|aR<|rB<|rT<|rT<|rB<|rT ?_
   refine end_ret ?_ trivial
   refine congrArg (fun n=>some (int n)) ?_
   exact(atI_at hk hall (by simpa using h2)).symm
  ·intro h2
   refine aK<|gB<|gT<|aL<|lgI Z<|lmI Z<|nG ?_
   refine⟨k+1,⟨hk,all_succ (p:=(fun c=>c.key==key)) hk hall (by simpa using h2)⟩,by omega,⟨(iq rfl),trivial⟩,trivial,rfl,rfl⟩
 ·intro h1
  refine aE<|eT<|eT<|eB<|gA<|laI Z<|nG<|aR ?_
  refine end_ret ?_ trivial
  refine congrArg (fun n=>some (int n)) ?_
  exact(atI_no fun j hj=>hall j hj (by have h:=h1;simp only[length_rowsOf,decide_eq_false_iff_not]at h;omega)).symm
theorem sAt_e(x:Book)(ch:Int)(hm:x.chans.length≤1000000000):GC Tryz.prog 55 [bookV x,int ch] [] (int (atI (fun c=>c.id==ch) x.chans)) []:=by
 refine gi 4 Tryz.func55 rfl Tryz.ntmps55 rfl ?_
 intro L O w0
 refine sL<|lst (zX 2002 Z) Z<|laI Z<|nG<|aS<|sL<|lf 3 ty.F27_3 Z<|loL ty.kd23 Z<|lnI ty.sl23 Z<|lmI Z<|nG<|aB ?_
 refine aW [1,2,4,8] [2002] (D:=Nat) (fun k=>[(9,int (k:Int))]) (fun k=>[]) (fun k=>k≤x.chans.length∧∀j (h:j<x.chans.length),j<k→(fun c=>c.id==ch) x.chans[j]=false) (fun k=>x.chans.length-k) (0) (⟨Nat.zero_le _,fun j _ h=>absurd h (by omega)⟩) ⟨rfl,trivial⟩ trivial ?_
 intro k hI
 obtain⟨hkl,hall⟩:=hI
 refine sL<|lbB Z<|nG<|aS ?_
 refine AW.cond rfl ?_ ?_
 ·intro h1
  refine aK<|gT<|aS<|aB<|sL<|lmI Z<|laI Z<|nA<|lf 3 ty.F27_3 Z<|loL ty.kd23 Z<|lmI Z ?_
  have hk:k<x.chans.length:=by simpa[length_rowsOf]using h1
  refine li k ty.el23 Z (row_map hk)<|lq (rd (x:=.rp _) (zfr ty.F40_0 Z) Z)<|lrI ty.kd3 Z<|lmI Z<|lbB Z<|nG ?_
  refine AW.cond rfl ?_ ?_
  ·intro h2
   refine sL<|lmI Z<|laI Z<|nG<|aR<|rB<|rT<|rT<|rB<|rT ?_
   refine end_ret ?_ trivial
   refine congrArg (fun n=>some (int n)) ?_
   exact(atI_at hk hall (by simpa using h2)).symm
  ·intro h2
   refine aK<|gB<|gT<|aL<|lgI Z<|lmI Z<|nG ?_
   refine⟨k+1,⟨hk,all_succ (p:=(fun c=>c.id==ch)) hk hall (by simpa using h2)⟩,by omega,⟨(iq rfl),trivial⟩,trivial,rfl,rfl⟩
 ·intro h1
  refine aE<|eT<|eT<|eB<|gA<|laI Z<|nG<|aR ?_
  refine end_ret ?_ trivial
  refine congrArg (fun n=>some (int n)) ?_
  exact(atI_no fun j hj=>hall j hj (by have h:=h1;simp only[length_rowsOf,decide_eq_false_iff_not]at h;omega)).symm
theorem used_e(x:Book)(ch:Int)(hmh:x.htlcs.length≤1000000000)(hmc:x.circles.length≤1000000000):GC Tryz.prog 96 [bookV x,int ch] [] (boo (usedB x ch)) []:=by
 refine gi 4 Tryz.func96 rfl Tryz.ntmps96 rfl ?_
 intro L O w0
 refine sL<|lst (zX 2002 Z) Z<|laZ Z<|nG<|aS<|sL<|lf 4 ty.F27_4 Z<|loL ty.kd24 Z<|lnI ty.sl24 Z<|lmI Z<|nG<|aB ?_
 refine aW [1,2,4,10,11] [2002] (D:=Nat) (fun k=>[(12,int (k:Int))]) (fun k=>[]) (fun k=>k≤x.htlcs.length∧∀j (h:j<x.htlcs.length),j<k→hUses ch x.htlcs[j]=false) (fun k=>x.htlcs.length-k) (0) (⟨Nat.zero_le _,fun j _ h=>absurd h (by omega)⟩) ⟨rfl,trivial⟩ trivial ?_
 intro k hI
 obtain⟨hkl,hall⟩:=hI
 refine sL<|lbB Z<|nG<|aS ?_
 refine AW.cond rfl ?_ ?_
 ·intro h1
  refine aK<|gT<|aS<|aB<|sL ?_
  have hk:k<x.htlcs.length:=by simpa[length_rowsOf]using h1
  refine li k ty.el24 Z (row_map hk)<|lrX (.agg [vI _ _,vI _ _,vI _ _,vI _ _,vI _ _,vB _,vI _ _]) ty.kd68 Z<|lst (zA 2006 ty.ze68 Z) Z<|lst (zB 2006 ty.co68 ty.inf68 Z) Z<|nA<|lf 1 ty.F68_1 Z<|loI ty.kd3 Z<|lmI Z<|lbB Z<|lmB Z ?_
  refine AL.bool (t:=20) rfl ?_ ?_
  ·intro h2
   refine lno Z<|lno Z<|lno Z<|lno Z<|lkT Z<|nG<|aY Z<|sL<|laT Z<|nG<|aR<|rB<|rT<|rT<|rB<|rT ?_
   refine eBo trivial ?_
   unfold usedB
   rw[any_yes (p:=hUses ch) hk (by unfold hUses;simp_all)];rfl
  ·intro h2
   refine lf 2 ty.F68_2 Z<|loI ty.kd3 Z<|lmI Z<|lbB Z<|lkB Z<|nG ?_
   refine AW.cond rfl ?_ ?_
   ·intro h3
    refine sL<|laT Z<|nG<|aR<|rB<|rT<|rT<|rB<|rT ?_
    refine eBo trivial ?_
    unfold usedB
    rw[any_yes (p:=hUses ch) hk (by unfold hUses;simp_all)];rfl
   ·intro h3
    refine aK<|gB<|gT<|aL<|lgI Z<|lmI Z<|nG ?_
    refine⟨k+1,⟨hk,all_succ (p:=hUses ch) hk hall (by unfold hUses;simp_all)⟩,by omega,⟨(iq rfl),trivial⟩,trivial,rfl,rfl⟩
 ·intro h1
  refine aE<|eT<|eT<|eB<|gT<|aS<|sL<|lf 5 ty.F27_5 Z<|loL ty.kd25 Z<|lnI ty.sl25 Z<|lmI Z<|lT [1,4,28,29,30] [2002] ?_
  refine nG<|aB ?_
  have hno:x.htlcs.any (hUses ch)=false:=any_no fun j hj=>hall j hj (by have h:=h1;simp only[length_rowsOf,decide_eq_false_iff_not]at h;omega)
  clear hall hkl
  refine aW [1,4,28,29] [2002] (D:=Nat) (fun k=>[(30,int (k:Int))]) (fun k=>[]) (fun k=>k≤x.circles.length∧∀j (h:j<x.circles.length),j<k→cUses ch x.circles[j]=false) (fun k=>x.circles.length-k) (0) (⟨Nat.zero_le _,fun j _ h=>absurd h (by omega)⟩) ⟨rfl,trivial⟩ trivial ?_
  intro k hI
  obtain⟨hkl,hall⟩:=hI
  refine sL<|lbB Z<|nG<|aS ?_
  refine AW.cond rfl ?_ ?_
  ·intro h4
   refine aK<|gT<|aS<|aB<|sL ?_
   have hk:k<x.circles.length:=by simpa[length_rowsOf]using h4
   refine li k ty.el25 Z (row_map hk)<|lrX (.agg [vI _ _,vI _ _,vI _ _,vI _ _,vI _ _]) ty.kd78 Z<|lst (zA 2008 ty.ze78 Z) Z<|lst (zB 2008 ty.co78 ty.inf78 Z) Z<|nA<|lf 1 ty.F78_1 Z<|loI ty.kd3 Z<|lmI Z<|lbB Z<|lmB Z ?_
   refine AL.bool (t:=38) rfl ?_ ?_
   ·intro h5
    refine lno Z<|lno Z<|lno Z<|lno Z<|lkT Z<|nG<|aY Z<|sL<|laT Z<|nG<|aR<|rB<|rT<|rT<|rB<|rT ?_
    refine eBo trivial ?_
    unfold usedB
    rw[any_yes (p:=cUses ch) hk (by unfold cUses;simp_all),Bool.or_true]
   ·intro h5
    refine lf 2 ty.F78_2 Z<|loI ty.kd3 Z<|lmI Z<|lbB Z<|lkB Z<|nG ?_
    refine AW.cond rfl ?_ ?_
    ·intro h6
     refine sL<|laT Z<|nG<|aR<|rB<|rT<|rT<|rB<|rT ?_
     refine eBo trivial ?_
     unfold usedB
     rw[any_yes (p:=cUses ch) hk (by unfold cUses;simp_all),Bool.or_true]
    ·intro h6
     refine aK<|gB<|gT<|aL<|lgI Z<|lmI Z<|nG ?_
     refine⟨k+1,⟨hk,all_succ (p:=cUses ch) hk hall (by unfold cUses;simp_all)⟩,by omega,⟨(iq rfl),trivial⟩,trivial,rfl,rfl⟩
  ·intro h4
   refine aE<|eT<|eT<|eB<|gA<|laZ Z<|nG<|aR ?_
   refine eBo trivial ?_
   unfold usedB
   rw[hno,any_no (p:=cUses ch) fun j hj=>hall j hj (by have h:=h4;simp only[length_rowsOf,decide_eq_false_iff_not]at h;omega)];rfl
theorem sused_e(x:Book)(ch:Int)(hmh:x.htlcs.length≤1000000000)(hmc:x.circles.length≤1000000000):GC Tryz.prog 108 [bookV x,int ch] [] (boo (usedB x ch)) []:=by
 refine gi 4 Tryz.func108 rfl Tryz.ntmps108 rfl ?_
 intro L O w0
 refine sL<|lst (zX 2002 Z) Z<|laZ Z<|nG<|aS<|sL<|lf 4 ty.F27_4 Z<|loL ty.kd24 Z<|lnI ty.sl24 Z<|lmI Z<|nG<|aB ?_
 refine aW [1,2,4,10,11] [2002] (D:=Nat) (fun k=>[(12,int (k:Int))]) (fun k=>[]) (fun k=>k≤x.htlcs.length∧∀j (h:j<x.htlcs.length),j<k→hUses ch x.htlcs[j]=false) (fun k=>x.htlcs.length-k) (0) (⟨Nat.zero_le _,fun j _ h=>absurd h (by omega)⟩) ⟨rfl,trivial⟩ trivial ?_
 intro k hI
 obtain⟨hkl,hall⟩:=hI
 refine sL<|lbB Z<|nG<|aS ?_
 refine AW.cond rfl ?_ ?_
 ·intro h1
  refine aK<|gT<|aS<|aB<|sL ?_
  have hk:k<x.htlcs.length:=by simpa[length_rowsOf]using h1
  refine li k ty.el24 Z (row_map hk)<|lrX (.agg [vI _ _,vI _ _,vI _ _,vI _ _,vI _ _,vB _,vI _ _]) ty.kd68 Z<|lst (zA 2006 ty.ze68 Z) Z<|lst (zB 2006 ty.co68 ty.inf68 Z) Z<|nA<|lf 1 ty.F68_1 Z<|loI ty.kd3 Z<|lmI Z<|lbB Z<|lmB Z ?_
  refine AL.bool (t:=20) rfl ?_ ?_
  ·intro h2
   refine lno Z<|lno Z<|lno Z<|lno Z<|lkT Z<|nG<|aY Z<|sL<|laT Z<|nG<|aR<|rB<|rT<|rT<|rB<|rT ?_
   refine eBo trivial ?_
   unfold usedB
   rw[any_yes (p:=hUses ch) hk (by unfold hUses;simp_all)];rfl
  ·intro h2
   refine lf 2 ty.F68_2 Z<|loI ty.kd3 Z<|lmI Z<|lbB Z<|lkB Z<|nG ?_
   refine AW.cond rfl ?_ ?_
   ·intro h3
    refine sL<|laT Z<|nG<|aR<|rB<|rT<|rT<|rB<|rT ?_
    refine eBo trivial ?_
    unfold usedB
    rw[any_yes (p:=hUses ch) hk (by unfold hUses;simp_all)];rfl
   ·intro h3
    refine aK<|gB<|gT<|aL<|lgI Z<|lmI Z<|nG ?_
    refine⟨k+1,⟨hk,all_succ (p:=hUses ch) hk hall (by unfold hUses;simp_all)⟩,by omega,⟨(iq rfl),trivial⟩,trivial,rfl,rfl⟩
 ·intro h1
  refine aE<|eT<|eT<|eB<|gT<|aS<|sL<|lf 5 ty.F27_5 Z<|loL ty.kd25 Z<|lnI ty.sl25 Z<|lmI Z<|lT [1,4,28,29,30] [2002] ?_
  refine nG<|aB ?_
  have hno:x.htlcs.any (hUses ch)=false:=any_no fun j hj=>hall j hj (by have h:=h1;simp only[length_rowsOf,decide_eq_false_iff_not]at h;omega)
  clear hall hkl
  refine aW [1,4,28,29] [2002] (D:=Nat) (fun k=>[(30,int (k:Int))]) (fun k=>[]) (fun k=>k≤x.circles.length∧∀j (h:j<x.circles.length),j<k→cUses ch x.circles[j]=false) (fun k=>x.circles.length-k) (0) (⟨Nat.zero_le _,fun j _ h=>absurd h (by omega)⟩) ⟨rfl,trivial⟩ trivial ?_
  intro k hI
  obtain⟨hkl,hall⟩:=hI
  refine sL<|lbB Z<|nG<|aS ?_
  refine AW.cond rfl ?_ ?_
  ·intro h4
   refine aK<|gT<|aS<|aB<|sL ?_
   have hk:k<x.circles.length:=by simpa[length_rowsOf]using h4
   refine li k ty.el25 Z (row_map hk)<|lrX (.agg [vI _ _,vI _ _,vI _ _,vI _ _,vI _ _]) ty.kd78 Z<|lst (zA 2008 ty.ze78 Z) Z<|lst (zB 2008 ty.co78 ty.inf78 Z) Z<|nA<|lf 1 ty.F78_1 Z<|loI ty.kd3 Z<|lmI Z<|lbB Z<|lmB Z ?_
   refine AL.bool (t:=38) rfl ?_ ?_
   ·intro h5
    refine lno Z<|lno Z<|lno Z<|lno Z<|lkT Z<|nG<|aY Z<|sL<|laT Z<|nG<|aR<|rB<|rT<|rT<|rB<|rT ?_
    refine eBo trivial ?_
    unfold usedB
    rw[any_yes (p:=cUses ch) hk (by unfold cUses;simp_all),Bool.or_true]
   ·intro h5
    refine lf 2 ty.F78_2 Z<|loI ty.kd3 Z<|lmI Z<|lbB Z<|lkB Z<|nG ?_
    refine AW.cond rfl ?_ ?_
    ·intro h6
     refine sL<|laT Z<|nG<|aR<|rB<|rT<|rT<|rB<|rT ?_
     refine eBo trivial ?_
     unfold usedB
     rw[any_yes (p:=cUses ch) hk (by unfold cUses;simp_all),Bool.or_true]
    ·intro h6
     refine aK<|gB<|gT<|aL<|lgI Z<|lmI Z<|nG ?_
     refine⟨k+1,⟨hk,all_succ (p:=cUses ch) hk hall (by unfold cUses;simp_all)⟩,by omega,⟨(iq rfl),trivial⟩,trivial,rfl,rfl⟩
  ·intro h4
   refine aE<|eT<|eT<|eB<|gA<|laZ Z<|nG<|aR ?_
   refine eBo trivial ?_
   unfold usedB
   rw[hno,any_no (p:=cUses ch) fun j hj=>hall j hj (by have h:=h4;simp only[length_rowsOf,decide_eq_false_iff_not]at h;omega)];rfl
theorem known_e(x:Book)(key:Int)(hmh:x.htlcs.length≤1000000000)(hmc:x.circles.length≤1000000000):GC Tryz.prog 97 [bookV x,int key] [] (boo (knownB x key)) []:=by
 refine gi 4 Tryz.func97 rfl Tryz.ntmps97 rfl ?_
 intro L O w0
 refine sL<|lst (zX 2002 Z) Z<|laZ Z<|nA<|loX (.agg [vI _ _,vI _ _,vI _ _,vL _ _ _,vL _ _ _,vL _ _ _]) ty.kd27 Z<|lmI Z<|lst (zL Tryz.func101 (htlcAt_e x _ hmh) Z) Z<|lbB Z<|lmB Z ?_
 refine AL.bool (t:=9) rfl ?_ ?_
 ·intro h1
  refine lno Z<|lno Z<|lno Z<|lno Z<|lkT Z<|laT Z<|nG<|aR ?_
  refine eBo trivial ?_
  unfold knownB htlcAt circleAt
  first|(simp_all;done)|(simp_all;intros;omega)
 ·intro h1
  refine loX (.agg [vI _ _,vI _ _,vI _ _,vL _ _ _,vL _ _ _,vL _ _ _]) ty.kd27 Z<|lmI Z<|lst (zL Tryz.func105 (circleAt_e x _ hmc) Z) Z<|lbB Z<|lkB Z<|laB Z<|nG<|aR ?_
  refine eBo trivial ?_
  unfold knownB htlcAt circleAt
  first|(simp_all;done)|(simp_all;intros;omega)
theorem stwo_e(x:Book)(a b:Int)(hm:x.chans.length≤1000000000):GC Tryz.prog 111 [bookV x,int a,int b] [] (boo (two x.chans a b)) []:=by
 refine gi 6 Tryz.func111 rfl Tryz.ntmps111 rfl ?_
 intro L O w0
 refine sL<|lst (zX 2003 Z) Z<|laZ Z<|nA<|lmI Z<|lmI Z<|lbB Z<|lmB Z ?_
 refine AL.bool (t:=10) rfl ?_ ?_
 ·intro h1
  refine loX (.agg [vI _ _,vI _ _,vI _ _,vL _ _ _,vL _ _ _,vL _ _ _]) ty.kd27 Z<|lmI Z<|lst (zL Tryz.func55 (sAt_e x _ hm) Z) Z<|lbB Z<|lkB Z<|lmB Z ?_
  refine AL.bool (t:=16) rfl ?_ ?_
  ·intro h2
   refine loX (.agg [vI _ _,vI _ _,vI _ _,vL _ _ _,vL _ _ _,vL _ _ _]) ty.kd27 Z<|lmI Z<|lst (zL Tryz.func55 (sAt_e x _ hm) Z) Z<|lT [6,16,19] [2003] ?_
   refine lbB Z<|lkB Z<|laB Z<|nG<|aR ?_
   refine eBo trivial ?_
   unfold two
   rw[chanAt_atI,chanAt_atI]
   first|(simp_all;done)|(simp_all;intros;omega)
  ·intro h2
   refine lno Z<|lno Z<|lno Z<|lno Z<|lkZ Z<|laZ Z<|nG<|aR ?_
   refine eBo trivial ?_
   unfold two
   rw[chanAt_atI,chanAt_atI]
   first|(simp_all;done)|(simp_all;intros;omega)
 ·intro h1
  refine lno Z<|lno Z<|lno Z<|lno Z<|lkZ Z<|lmZ Z<|lno Z<|lno Z<|lno Z<|lno Z<|lkZ Z<|laZ Z<|nG<|aR ?_
  refine eBo trivial ?_
  unfold two
  rw[chanAt_atI,chanAt_atI]
  first|(simp_all;done)|(simp_all;intros;omega)
theorem standing_e(n:Int)(g:Bool):GC Tryz.prog 134 [int n,boo g] [] (boo (standing n g)) []:=GC.of_vals (r:=.bool (standing n g)) (RV.v_mk rfl) rfl fun w=>(impl_Standing_c n g w).mono fun e w' h=>⟨h.1,h.2▸Grow.refl _⟩
theorem allow_e(a b c d e f:Int)(g:Bool):GC Tryz.prog 133 [int a,int b,int c,int d,int e,int f,boo g] [] (int (allow a b c d e f g)) []:=GC.of_vals (r:=.int .i64 (allow a b c d e f g)) (RV.v_mk rfl) rfl fun w=>impl_Allow_c a b c d e f g w
theorem sallow_e(a b c d e f:Int)(g:Bool):GC Tryz.prog 137 [int a,int b,int c,int d,int e,int f,boo g] [] (int (allow a b c d e f g)) []:=GC.of_vals (r:=.int .i64 (allow a b c d e f g)) (RV.v_mk rfl) rfl fun w=>spec_Allow_c a b c d e f g w
theorem scUp_e(n:Int):GC Tryz.prog 102 [int n] [] (int (scoreUp n)) []:=GC.of_vals (r:=.int .i64 (scoreUp n)) (RV.v_mk rfl) rfl fun w=>(impl_ScoreUp_c n w).mono fun e w' h=>⟨h.1,h.2▸Grow.refl _⟩
theorem scDown_e(n:Int):GC Tryz.prog 103 [int n] [] (int (scoreDown n)) []:=GC.of_vals (r:=.int .i64 (scoreDown n)) (RV.v_mk rfl) rfl fun w=>(impl_ScoreDown_c n w).mono fun e w' h=>⟨h.1,h.2▸Grow.refl _⟩
theorem scFade_e(n:Int):GC Tryz.prog 104 [int n] [] (int (fade n)) []:=GC.of_vals (r:=.int .i64 (fade n)) (RV.v_mk rfl) rfl fun w=>(impl_ScoreFade_c n w).mono fun e w' h=>⟨h.1,h.2▸Grow.refl _⟩
theorem sscoreOk_e(n:Int):GC Tryz.prog 78 [int n] [] (boo (scoreOk n)) []:=GC.of_vals (r:=.bool (scoreOk n)) (RV.v_mk rfl) rfl fun w=>(spec_ScoreOk_c n w).mono fun e w' h=>⟨h.1,h.2▸Grow.refl _⟩
theorem scoreOk_iff{n:Int}:scoreOk n=true↔-100≤n∧n≤100:=inB_true
theorem sclamp_e(n lo hi:Int):GC Tryz.prog 128 [int n,int lo,int hi] [] (int (clampV n lo hi)) []:=by
 refine gi 6 Tryz.func128 rfl Tryz.ntmps128 rfl ?_
 intro L O w0
 refine sL<|laI Z<|nG<|aS<|sL<|lmI Z<|lmI Z<|lbB Z<|nG ?_
 refine AW.cond rfl ?_ ?_
 ·intro h1
  refine sL<|lmI Z<|laI Z<|nG<|aR<|rT ?_
  refine end_ret ?_ trivial
  refine congrArg (fun n=>some (int n)) ?_
  unfold clampV
  simp only[decide_eq_true_eq,decide_eq_false_iff_not]at *
  (repeat' split)<;>omega
 ·intro h1
  refine aK<|gT<|aS<|sL<|lmI Z<|lmI Z<|lbB Z<|nG ?_
  refine AW.cond rfl ?_ ?_
  ·intro h2
   refine sL<|lmI Z<|laI Z<|nG<|aR<|rT ?_
   refine end_ret ?_ trivial
   refine congrArg (fun n=>some (int n)) ?_
   unfold clampV
   simp only[decide_eq_true_eq,decide_eq_false_iff_not]at *
   (repeat' split)<;>omega
  ·intro h2
   refine aK<|gA<|lmI Z<|laI Z<|nG<|aR ?_
   refine end_ret ?_ trivial
   refine congrArg (fun n=>some (int n)) ?_
   unfold clampV
   simp only[decide_eq_true_eq,decide_eq_false_iff_not]at *
   (repeat' split)<;>omega
theorem sstanding_e(n:Int)(g:Bool):GC Tryz.prog 138 [int n,boo g] [] (boo (standing n g)) []:=by
 refine gi 4 Tryz.func138 rfl Tryz.ntmps138 rfl ?_
 intro L O w0
 refine sL<|laZ Z<|nA<|lmI Z<|lst (zL Tryz.func78 (sscoreOk_e _) Z) Z<|lmB Z ?_
 refine AL.bool (t:=7) rfl ?_ ?_
 ·intro h1
  refine lmI Z<|lbB Z<|lkB Z<|lmB Z ?_
  refine AL.bool (t:=11) rfl ?_ ?_
  ·intro h2
   refine lmB Z<|lkB Z<|laB Z<|nG<|aR ?_
   refine eBo trivial ?_
   unfold standing
   first|(simp_all;done)|(simp_all;intros;omega)
  ·intro h2
   refine lno Z<|lkZ Z<|laZ Z<|nG<|aR ?_
   refine eBo trivial ?_
   unfold standing
   first|(simp_all;done)|(simp_all;intros;omega)
 ·intro h1
  refine lno Z<|lno Z<|lkZ Z<|lmZ Z<|lno Z<|lkZ Z<|laZ Z<|nG<|aR ?_
  refine eBo trivial ?_
  unfold standing
  first|(simp_all;done)|(simp_all;intros;omega)
theorem sscUp_e(n:Int):GC Tryz.prog 115 [int n] [] (int (scoreUp n)) []:=by
 refine gi 2 Tryz.func115 rfl Tryz.ntmps115 rfl ?_
 intro L O w0
 refine sL<|laI Z<|nG<|aS<|sL<|lmI Z<|lst (zL Tryz.func78 (sscoreOk_e _) Z) Z<|luB Z<|nG ?_
 refine AW.cond rfl ?_ ?_
 ·intro h1
  refine sL<|laI Z<|nG<|aR<|rT ?_
  refine end_ret ?_ trivial
  refine congrArg (fun n=>some (int n)) ?_
  unfold scoreUp
  have hs:¬(-100≤n∧n≤100):=fun q=>by rw[scoreOk_iff.2 q]at h1;cases h1
  rw[if_neg hs]
 ·intro h1
  refine aK<|gA<|lmI Z ?_
  refine lhI rfl ⟨rfl,fits_i64 (by have hs:=scoreOk_iff.1 (by simpa using h1:scoreOk n=true);unfold i64;omega)⟩<|lst (zL Tryz.func128 (sclamp_e _ _ _) rfl) Z<|laI Z<|nG<|aR ?_
  refine end_ret ?_ trivial
  refine congrArg (fun n=>some (int n)) ?_
  unfold scoreUp
  try unfold clampV
  have hs:=scoreOk_iff.1 (by simpa using h1:scoreOk n=true)
  rw[if_pos hs]
  try simp only[decide_eq_true_eq,decide_eq_false_iff_not]at *
  (repeat' split)<;>omega
theorem sscDown_e(n:Int):GC Tryz.prog 116 [int n] [] (int (scoreDown n)) []:=by
 refine gi 2 Tryz.func116 rfl Tryz.ntmps116 rfl ?_
 intro L O w0
 refine sL<|laI Z<|nG<|aS<|sL<|lmI Z<|lst (zL Tryz.func78 (sscoreOk_e _) Z) Z<|luB Z<|nG ?_
 refine AW.cond rfl ?_ ?_
 ·intro h1
  refine sL<|laI Z<|nG<|aR<|rT ?_
  refine end_ret ?_ trivial
  refine congrArg (fun n=>some (int n)) ?_
  unfold scoreDown
  have hs:¬(-100≤n∧n≤100):=fun q=>by rw[scoreOk_iff.2 q]at h1;cases h1
  rw[if_neg hs]
 ·intro h1
  refine aK<|gA<|lmI Z ?_
  refine lhI rfl ⟨rfl,fits_i64 (by have hs:=scoreOk_iff.1 (by simpa using h1:scoreOk n=true);unfold i64;omega)⟩<|lst (zL Tryz.func128 (sclamp_e _ _ _) rfl) Z<|laI Z<|nG<|aR ?_
  refine end_ret ?_ trivial
  refine congrArg (fun n=>some (int n)) ?_
  unfold scoreDown
  try unfold clampV
  have hs:=scoreOk_iff.1 (by simpa using h1:scoreOk n=true)
  rw[if_pos hs]
  try simp only[decide_eq_true_eq,decide_eq_false_iff_not]at *
  (repeat' split)<;>omega
theorem sscFade_e(n:Int):GC Tryz.prog 117 [int n] [] (int (fade n)) []:=by
 refine gi 2 Tryz.func117 rfl Tryz.ntmps117 rfl ?_
 intro L O w0
 refine sL<|laI Z<|nG<|aS<|sL<|lmI Z<|lst (zL Tryz.func78 (sscoreOk_e _) Z) Z<|luB Z<|lmB Z ?_
 refine AL.bool (t:=6) rfl ?_ ?_
 ·intro h1
  refine lno Z<|lno Z<|lkT Z<|nG<|aY Z<|sL<|laI Z<|nG<|aR<|rT ?_
  refine end_ret ?_ trivial
  refine congrArg (fun n=>some (int n)) ?_
  unfold fade
  have hs:¬(-100≤n∧n≤100):=fun q=>by rw[scoreOk_iff.2 q]at h1;cases h1
  rw[if_neg hs]
 ·intro h1
  refine lmI Z<|lbB Z<|lkB Z<|nG ?_
  refine AW.cond rfl ?_ ?_
  ·intro h2
   refine sL<|laI Z<|nG<|aR<|rT ?_
   refine end_ret ?_ trivial
   refine congrArg (fun n=>some (int n)) ?_
   unfold fade
   try unfold clampV
   have hs:=scoreOk_iff.1 (by simpa using h1:scoreOk n=true)
   rw[if_pos hs]
   try simp only[decide_eq_true_eq,decide_eq_false_iff_not]at *
   (repeat' split)<;>omega
  ·intro h2
   refine aK<|gT<|aS<|sL<|lmI Z<|lbB Z<|nG ?_
   refine AW.cond rfl ?_ ?_
   ·intro h3
    refine sL<|lmI Z ?_
    refine lhI rfl ⟨rfl,fits_i64 (by have hs:=scoreOk_iff.1 (by simpa using h1:scoreOk n=true);unfold i64;omega)⟩<|laI Z<|nG<|aR<|rT ?_
    refine end_ret ?_ trivial
    refine congrArg (fun n=>some (int n)) ?_
    unfold fade
    try unfold clampV
    have hs:=scoreOk_iff.1 (by simpa using h1:scoreOk n=true)
    rw[if_pos hs]
    try simp only[decide_eq_true_eq,decide_eq_false_iff_not]at *
    (repeat' split)<;>omega
   ·intro h3
    refine aK<|gA<|lmI Z ?_
    refine lhI rfl ⟨rfl,fits_i64 (by have hs:=scoreOk_iff.1 (by simpa using h1:scoreOk n=true);unfold i64;omega)⟩<|laI Z<|nG<|aR ?_
    refine end_ret ?_ trivial
    refine congrArg (fun n=>some (int n)) ?_
    unfold fade
    try unfold clampV
    have hs:=scoreOk_iff.1 (by simpa using h1:scoreOk n=true)
    rw[if_pos hs]
    try simp only[decide_eq_true_eq,decide_eq_false_iff_not]at *
    (repeat' split)<;>omega
theorem sroom_e(x:Book)(frm to:Chan)(amt:Int)(yes:Bool)(sm:SmallH x.htlcs):GC Tryz.prog 113 [bookV x,.agg [int frm.id,int frm.size,int frm.loc,int frm.remote,int frm.base,int frm.ppm,int frm.score],.agg [int to.id,int to.size,int to.loc,int to.remote,int to.base,int to.ppm,int to.score],int amt,boo yes] [] (int (roomV x.htlcs frm to to.id amt yes)) []:=by
 refine gi 10 Tryz.func113 rfl Tryz.ntmps113 rfl ?_
 intro L O w0
 refine sL<|lst (zX 2005 Z) Z<|lst (zX 2006 Z) Z<|lst (zX 2007 Z) Z<|laI Z<|nA<|laI Z<|nA<|laI Z<|nA<|laI Z<|nA<|laI Z<|nG<|aS<|aS ?_
 refine aL<|lf 4 ty.F27_4 Z<|loL ty.kd24 Z<|lnI ty.sl24 Z<|lmI Z<|nG<|aB ?_
 refine aW [3,4,6,7,10,18,19] [2005,2006,2007] (D:=Nat) (fun k=>[(11,int (tot (hFew to.id) (x.htlcs.take k))),(12,int (tot (hOut to.id) (x.htlcs.take k))),(13,int (tot (hOneF to.id) (x.htlcs.take k))),(14,int (tot (hOne to.id) (x.htlcs.take k))),(20,int (k:Int))]) (fun k=>[]) (fun k=>k≤x.htlcs.length) (fun k=>x.htlcs.length-k) (0) (Nat.zero_le _) ⟨rfl,rfl,rfl,rfl,rfl,trivial⟩ trivial ?_
 intro k hI
 have b0:=sm.1
 have b1:=sm.few to.id k
 have b2:=sm.all to.id k
 have b3:=sm.oneF to.id k
 have b4:=sm.one to.id k
 refine sL<|lbB Z<|nG<|aS ?_
 refine AW.cond rfl ?_ ?_
 ·intro h1
  refine aK<|gT<|aS<|aB<|sL ?_
  have hk:k<x.htlcs.length:=by simpa[length_rowsOf]using h1
  have b5:=sm.at hk
  refine li k ty.el24 Z (row_map hk)<|lrX (.agg [vI _ _,vI _ _,vI _ _,vI _ _,vI _ _,vB _,vI _ _]) ty.kd68 Z<|lst (zA 2016 ty.ze68 Z) Z<|lT [3,4,6,7,10,11,12,13,14,16,18,19,20,23] [2005,2006,2007,2016] ?_
  refine lst (zB 2016 ty.co68 ty.inf68 Z) Z<|nG<|aS<|sL<|lf 2 ty.F68_2 Z<|loI ty.kd3 Z<|lf 0 ty.F40_0 Z<|loI ty.kd3 Z<|lbB Z<|nG ?_
  refine AW.cond rfl ?_ ?_
  ·intro h2
   refine aE<|eT<|eB<|gT<|aL<|lgI Z<|lmI Z<|nG ?_
   refine⟨k+1,hk,by omega,⟨(congrArg int (tot_skip hk (by have h:=h2;simp only[Bool.not_eq_true',decide_eq_false_iff_not,decide_eq_true_eq]at h;unfold hFew;simp[h])).symm),(congrArg int (tot_skip hk (by have h:=h2;simp only[Bool.not_eq_true',decide_eq_false_iff_not,decide_eq_true_eq]at h;unfold hOut;simp[h])).symm),(congrArg int (tot_skip hk (by have h:=h2;simp only[Bool.not_eq_true',decide_eq_false_iff_not,decide_eq_true_eq]at h;unfold hOneF;simp[h])).symm),(congrArg int (tot_skip hk (by have h:=h2;simp only[Bool.not_eq_true',decide_eq_false_iff_not,decide_eq_true_eq]at h;unfold hOne;simp[h])).symm),(iq rfl),trivial⟩,trivial,rfl,rfl⟩
  ·intro h2
   refine aK<|gA<|lmI Z<|lf 4 ty.F68_4 Z<|loI ty.kd3 Z<|lgI Z<|laI Z<|nA<|lmI Z<|lgI Z<|laI Z<|nA<|lf 5 ty.F68_5 Z<|loB ty.kd4 Z<|luB Z<|nG ?_
   refine AW.cond rfl ?_ ?_
   ·intro h3
    refine sL<|lmI Z<|lf 4 ty.F68_4 Z<|loI ty.kd3 Z<|lgI Z<|laI Z<|nG<|aL<|lmI Z<|lgI Z<|laI Z<|lN<|gB<|gT<|aL<|lgI Z<|lmI Z<|nG ?_
    have he:x.htlcs[k].out=to.id:=by simpa using h2
    have hkp:x.htlcs[k].kept=false:=by simpa using h3
    refine⟨k+1,hk,by omega,⟨(Eq.trans (b:=int _) rfl (congrArg int (tot_add hk (by unfold hFew;simp[he,hkp])))),(Eq.trans (b:=int _) rfl (congrArg int (tot_add hk (by unfold hOut;simp[he,hkp])))),(Eq.trans (b:=int _) rfl (congrArg int (tot_add hk (by unfold hOneF;simp[he,hkp])))),(Eq.trans (b:=int _) rfl (congrArg int (tot_add hk (by unfold hOne;simp[he,hkp])))),(iq rfl),trivial⟩,trivial,rfl,rfl⟩
   ·intro h3
    refine aK<|gB<|gT<|aL<|lgI Z<|lT [3,4,6,7,10,11,12,13,14,18,19,20,44] [2005,2006,2007,2016] ?_
    refine lmI Z<|nG ?_
    have he:x.htlcs[k].out=to.id:=by simpa using h2
    have hkp:x.htlcs[k].kept=true:=by simpa using h3
    refine⟨k+1,hk,by omega,⟨(congrArg int (tot_skip hk (by unfold hFew;simp[he,hkp])).symm),(Eq.trans (b:=int _) rfl (congrArg int (tot_add hk (by unfold hOut;simp[he,hkp])))),(congrArg int (tot_skip hk (by unfold hOneF;simp[he,hkp])).symm),(Eq.trans (b:=int _) rfl (congrArg int (tot_add hk (by unfold hOne;simp[he,hkp])))),(iq rfl),trivial⟩,trivial,rfl,rfl⟩
 ·intro h1
  refine aE<|eT<|eT<|eB<|gT<|aS<|aG 12 []<|tq 0 (rf 1 ty.F40_1 Z)<|tq 1 (roI ty.kd3 Z)<|tq 2 (rmI Z)<|tq 3 (rmI Z)<|tq 4 (rmI Z)<|tq 5 (rmI Z)<|tq 6 (rmI Z)<|tq 7 (rf 6 ty.F40_6 Z)<|tq 8 (roI ty.kd3 Z)<|yq 9 (rmB Z)<|yst 10 Z (zL Tryz.func138 (sstanding_e _ _) Z)<|yst 11 Z (zL Tryz.func137 (sallow_e _ _ _ _ _ _ _) Z)<|yq 12 (raI Z)<|gD<|gT<|aR ?_
  refine end_ret ?_ trivial
  refine congrArg (fun n=>some (int n)) ?_
  have hke:k=x.htlcs.length:=by have h:=h1;simp only[length_rowsOf,decide_eq_false_iff_not]at h;omega
  subst hke
  unfold roomV
  rw[List.take_length]

def insL:List Line→Line→List Line
 |[],x=>[x]
 |y::l,x=>if lessA y.acc x.acc then y::insL l x else x::y::l
def addL(l:List Line)(k c n:Int):List Line:=if n=0 then l else insL l ⟨⟨k,c⟩,n⟩
theorem mem_insL{y x:Line}:∀ {l:List Line},y∈insL l x→y∈l∨y=x
 |[],h=>by simp[insL]at h;exact .inr h
 |z::l,h=>by
  unfold insL at h
  split at h
  ·rcases List.mem_cons.1 h with h|h
   ·exact .inl (by simp[h])
   ·rcases mem_insL h with h|h
    ·exact .inl (by simp[h])
    ·exact .inr h
  ·rcases List.mem_cons.1 h with h|h
   ·exact .inr h
   ·exact .inl h
theorem insL_length(x:Line):∀(l:List Line),(insL l x).length=l.length+1
 |[]=>rfl
 |z::l=>by unfold insL;split<;>simp[insL_length x l]
theorem mem_addL{y:Line}{l:List Line}{k c n:Int}(h:y∈addL l k c n):y∈l∨(y.acc.kind=k∧y.acc.ch=c∧y.amt=n):=by
 unfold addL at h
 split at h
 ·exact .inl h
 ·rcases mem_insL h with h|rfl
  ·exact .inl h
  ·exact .inr ⟨rfl,rfl,rfl⟩
structure LG(l:List Line)(m:Nat):Prop where
 len:l.length≤m
 rng:∀y∈l,rangeA y.amt=true
def Fresh(l:List Line)(k c:Int):Prop:=∀y∈l,¬(y.acc.kind=k∧y.acc.ch=c)
theorem LG.nil:LG [] 0:=⟨Nat.le_refl _,by simp⟩
theorem LG.add{l:List Line}{m:Nat}{k c n:Int}(h:LG l m)(hn:rangeA n=true):LG (addL l k c n) (m+1):=by
 refine⟨?_,fun y hy=>?_⟩
 ·unfold addL
  split
  ·have:=h.len;omega
  ·rw[insL_length];have:=h.len;omega
 ·rcases mem_addL hy with q|q
  ·exact h.rng y q
  ·rw[q.2.2];exact hn
theorem Fresh.nil(k c:Int):Fresh [] k c:=by simp[Fresh]
theorem Fresh.add{l:List Line}{k c k' c' n:Int}(h:Fresh l k c)(hd:k'≠k∨c'≠c):Fresh (addL l k' c' n) k c:=fun y hy q=>by
 rcases mem_addL hy with r|r
 ·exact h y r q
 ·omega
theorem lessA_or{a b:Acc}(h:¬(a.kind=b.kind∧a.ch=b.ch))(h2:lessA a b=false):lessA b a=true:=by
 unfold lessA at *
 simp only[Bool.or_eq_false_iff,Bool.and_eq_false_iff,decide_eq_false_iff_not,beq_eq_false_iff_ne,Bool.or_eq_true,Bool.and_eq_true,decide_eq_true_eq,beq_iff_eq]at *
 omega
theorem merge_one{x:Line}:∀ {l:List Line},Fresh l x.acc.kind x.acc.ch→mergeL l [x]=some (insL l x)
 |[],_=>by rw[mergeL_nil];rfl
 |y::l,h=>by
  have hy:=h y (by simp)
  unfold insL
  by_cases q:lessA y.acc x.acc=true
  ·rw[mergeL_lt q,merge_one (fun z hz=>h z (by simp[hz])),if_pos q];rfl
  ·have q':lessA y.acc x.acc=false:=by simpa using q
   rw[mergeL_gt q' (lessA_or hy q'),mergeL_nil2,if_neg q];rfl
abbrev wBox(g:Value)(t n w c:Int):AO:=.box 84 (some g) [int t,int n,int w,.own 1,.own 2,.own 3,.own 4,int c]
def failC(is:Bool)(c k:Int):Int:=if is&&(c==0)then k else c
theorem failC_old{is:Bool}{c k:Int}(h:c≠0):failC is c k=c:=by unfold failC;simp[h]
abbrev cAr(u:Value)(l:List Chan):AO:=.arr ⟨40,some u⟩ 7 (rowsOf encChan l)
abbrev hAr(l:List Htlc):AO:=.arr 68 7 (rowsOf encHtlc l)
abbrev iAr(l:List Circle):AO:=.arr 78 5 (rowsOf encCircle l)
abbrev lAr(l:List Line):AO:=.arr 120 3 (rowsOf encLine l)
theorem rows_some{α:Type}{enc:α→List Value}{l:List α}{i:Nat}{c:α}(h:l[i]? = some c):(rowsOf enc l)[i]? = some ((enc c).map PV.v):=by unfold rowsOf;rw[List.getElem?_map,h];rfl
theorem rows_set{α:Type}{enc:α→List Value}{l:List α}{i:Nat}{c:α}:(rowsOf enc l).set i ((enc c).map PV.v)=rowsOf enc (l.set i c):=by unfold rowsOf;rw[List.map_set]
theorem rows_take{α:Type}{enc:α→List Value}{l:List α}{k:Nat}:(rowsOf enc l).take k=rowsOf enc (l.take k):=by unfold rowsOf;rw[List.map_take]
theorem rows_drop{α:Type}{enc:α→List Value}{l:List α}{k:Nat}:(rowsOf enc l).drop k=rowsOf enc (l.drop k):=by unfold rowsOf;rw[List.map_drop]
theorem fail_e(g:Value)(t n w c:Int)(p1:Pin)(s1:Nat)(r1:List (List PV))(p2:Pin)(s2:Nat)(r2:List (List PV))(p3:Pin)(s3:Nat)(r3:List (List PV))(p4:Pin)(s4:Nat)(r4:List (List PV))(is:Bool)(k:Int):GC Tryz.prog 95 [.ptr 0 0 0,boo is,int k] [(0,wBox g t n w c),(1,.arr p1 s1 r1),(2,.arr p2 s2 r2),(3,.arr p3 s3 r3),(4,.arr p4 s4 r4)] (.tup []) [(0,wBox g t n w (failC is c k)),(1,.arr p1 s1 r1),(2,.arr p2 s2 r2),(3,.arr p3 s3 r3),(4,.arr p4 s4 r4)]:=by
 refine GC.intro (rs:=[]) Tryz.func95 rfl Tryz.ntmps95 (Nat.le_of_ble_eq_true rfl) trivial ?_
 intro L O w0
 refine sL<|lmB Z<|lmB Z ?_
 refine AL.bool (t:=7) rfl ?_ ?_
 ·intro h1
  refine lmP Z<|lc Z<|lf 7 ty.F84_2 Z<|loI ty.kd3 Z<|lbB Z<|lkB Z<|nG ?_
  refine AW.cond rfl ?_ ?_
  ·intro h2
   refine aL<|lmP Z<|lmI Z<|lc Z<|lf 7 ty.F84_2 Z<|lst (zB 0 ty.co3 ty.inf3 Z) Z<|lN ?_
   refine end_go rfl ⟨?_,rfl,rfl,rfl,rfl,trivial⟩
   exact Eq.trans (b:=wBox g t n w _) rfl (congrArg (wBox g t n w) (by unfold failC;simp_all))
  ·intro h2
   refine aK ?_
   refine end_go rfl ⟨?_,rfl,rfl,rfl,rfl,trivial⟩
   exact Eq.trans (b:=wBox g t n w _) rfl (congrArg (wBox g t n w) (by unfold failC;simp_all))
 ·intro h1
  refine lno Z<|lno Z<|lno Z<|lno Z<|lno Z<|lkZ Z<|nG<|aN Z<|aK ?_
  refine end_go rfl ⟨?_,rfl,rfl,rfl,rfl,trivial⟩
  exact Eq.trans (b:=wBox g t n w _) rfl (congrArg (wBox g t n w) (by unfold failC;simp_all))
theorem merged_one_e(l:List Line)(x:Line)(m:Nat)(hl:LG l m)(hm:m≤1000)(hf:Fresh l x.acc.kind x.acc.ch)(hx:rangeA x.amt=true):GC Tryz.prog 89 [.p (.lst 120 3 (rowsOf encLine l)),.p (.lst 120 3 (rowsOf encLine [x]))] [] (.tup [.own 50,boo true]) [(50,lAr (insL l x))]:=
 (merged_e l [x] (by have:=hl.len;simp;omega) hl.rng (by simpa using hx)).gc fun y o h=>by unfold mgR at h;rw[merge_one hf]at h;exact h
theorem addL_zero{l:List Line}{k c n:Int}(h:n=0):addL l k c n=l:=if_pos h
theorem addL_pos{l:List Line}{k c n:Int}(h:¬n=0):addL l k c n=insL l ⟨⟨k,c⟩,n⟩:=if_neg h
theorem line_e(g:Value)(t n w c:Int)(p1:Pin)(s1:Nat)(r1:List (List PV))(p2:Pin)(s2:Nat)(r2:List (List PV))(p3:Pin)(s3:Nat)(r3:List (List PV))(l:List Line)(m:Nat)(hl:LG l m)(hm:m≤1000)(k cc nn:Int)(hf:Fresh l k cc)(hn:rangeA nn=true):GC Tryz.prog 40 [.ptr 0 0 0,int k,int cc,int nn] [(0,wBox g t n w c),(1,.arr p1 s1 r1),(2,.arr p2 s2 r2),(3,.arr p3 s3 r3),(4,lAr l)] (.tup []) [(0,wBox g t n w c),(1,.arr p1 s1 r1),(2,.arr p2 s2 r2),(3,.arr p3 s3 r3),(4,lAr (addL l k cc nn))]:=by
 refine GC.intro (rs:=[]) Tryz.func40 rfl Tryz.ntmps40 (Nat.le_of_ble_eq_true rfl) trivial ?_
 intro L O w0
 refine sL<|lmI Z<|lbB Z<|nG ?_
 refine AW.cond rfl ?_ ?_
 ·intro h1
  refine aL<|lmP Z<|lmP Z<|lc Z<|lf 6 ty.F84_1 Z<|loO ty.kd32 Z<|lmI Z<|lmI Z<|lq (rd (x:=.agg [vI _ _,vI _ _]) (rd_build Z ty.sa110 Z Z Z) Z)<|lmI Z<|lq (rd (x:=.agg [vI _ _,vI _ _,vI _ _]) (rd_build Z ty.sa120 Z Z Z) Z) ?_
  refine lst (zS 2021 (rowsOf encLine [⟨⟨k,cc⟩,nn⟩]) ty.el32 ty.ze120 rfl) rfl ?_
  refine AL.freeze 4 rfl ?_
  refine AL.freeze 2021 rfl ?_
  refine lst (zC [(50,4)] [4] [] Tryz.func89 (merged_one_e l ⟨⟨k,cc⟩,nn⟩ m hl hm hf hn) (trivial) rfl rfl) Z<|lT [11,22] [0,1,2,3,4] ?_
  refine lmX (.tup [.own _,vB true]) Z<|lxO Z<|lxX (vB true) Z<|lc Z<|lf 6 ty.F84_1 Z<|lst (zB 0 ty.co32 ty.inf32 Z) Z<|lN ?_
  refine end_go ?_ ⟨rfl,rfl,rfl,rfl,(congrArg lAr (addL_pos (by simpa using h1)).symm),trivial⟩
  rfl
 ·intro h1
  refine aK ?_
  refine end_go ?_ ⟨rfl,rfl,rfl,rfl,(congrArg lAr (addL_zero (by simpa using h1)).symm),trivial⟩
  rfl
abbrev wIn(g u:Value)(x:Book)(l:List Line)(c:Int):List (Nat×AO):=[(0,wBox g x.tick x.next x.wallet c),(1,cAr u x.chans),(2,hAr x.htlcs),(3,iAr x.circles),(4,lAr l)]
structure WR where
 b:Book
 l:List Line
 c:Int
abbrev wOut(g:Value)(r:WR):List (Nat×AO):=[(0,wBox g r.b.tick r.b.next r.b.wallet r.c),(1,.arr 40 7 (rowsOf encChan r.b.chans)),(2,hAr r.b.htlcs),(3,iAr r.b.circles),(4,lAr r.l)]
abbrev evV(e:Event):AV:=.agg [int e.kind,int e.key,int e.ch,int e.to,int e.amt,int e.fee,boo e.yes]
abbrev chV(c:Chan):AV:=.agg [int c.id,int c.size,int c.loc,int c.remote,int c.base,int c.ppm,int c.score]
def zeroChan:Chan:=⟨0,0,0,0,0,0,0⟩
def chanOr(l:List Chan)(ch:Int):Chan:=(l.find? fun c=>c.id==ch).getD zeroChan
theorem chan_find(l:List Chan)(ch:Int):(chanAt l ch=-1∧chanOr l ch=zeroChan)∨∃(i:Nat) (c:Chan),chanAt l ch=(i:Int)∧l[i]? = some c∧chanOr l ch=c∧c.id=ch:=by
 unfold chanAt chanOr
 cases h:l.findIdx? (fun c=>c.id==ch)with
 |none=>
  refine .inl ⟨rfl,?_⟩
  have:l.find? (fun c=>c.id==ch)=none:=by
   rw[List.find?_eq_none]
   intro x hx
   have:=List.findIdx?_eq_none_iff.1 h x hx
   simpa using this
  rw[this];rfl
 |some i=>
  obtain⟨h1,h2,h3⟩:=List.findIdx?_eq_some_iff_getElem.1 h
  refine .inr ⟨i,l[i],rfl,List.getElem?_eq_getElem h1,?_,by simpa using h2⟩
  have:l.find? (fun c=>c.id==ch)=some l[i]:=by
   rw[List.find?_eq_some_iff_getElem]
   exact⟨h2,i,h1,rfl,fun j hj=>by simpa using h3 j hj⟩
  rw[this];rfl
theorem failC_keep{b:Bool}{c k:Int}(h:c≠0):failC b c k≠0:=by rw[failC_old h];exact h
theorem failC_set{c k:Int}(h:k≠0):failC true c k≠0:=by
 unfold failC
 by_cases q:c=0
 ·simp[q,h]
 ·simp[q]
theorem ch_some(g u:Value)(x:Book)(l:List Line)(c id:Int)(hm:x.chans.length≤1000000000)(i:Nat)(cc:Chan)(hi:chanAt x.chans id=(i:Int))(hc:x.chans[i]? = some cc):GC Tryz.prog 43 [.ptr 0 0 0,int id] (wIn g u x l c) (.ptr 1 i 0) (wIn g u x l c):=by
 refine gi 4 Tryz.func43 rfl Tryz.ntmps43 rfl ?_
 intro L O w0
 refine sL<|laV Z<|nA<|lmP Z<|lc Z<|lf 0 ty.F84_0 Z<|loX (.agg [vI _ _,vI _ _,vI _ _,.own _,.own _,.own _]) ty.kd27 Z<|lmI Z<|lst (zL Tryz.func69 (chanAt_e x _ hm) rfl) Z<|laI Z<|nG<|aS<|sL<|lmI Z<|lbB Z<|lsB 13 false rfl (by rw[←chanAt_atI,hi];simp)<|nG<|aN Z<|aK<|gA<|lmP rfl ?_
 refine lc Z<|lf 0 ty.F84_0 Z<|lf 3 ty.F27_3 Z<|loO ty.kd23 Z<|lmI Z<|lq (rd (x:=.ptr 1 _ 0) (rd_iaddr_own (i:=i) rfl ty.el23 rfl rfl rfl ?hn1 (by rw[length_rowsOf];exact(List.getElem?_eq_some_iff.1 hc).1)) rfl) ?_
 case hn1=>rw[←chanAt_atI];exact hi
 refine laP Z<|nG<|aR ?_
 refine end_ret ?_ ⟨rfl,rfl,rfl,rfl,rfl,trivial⟩
 rfl
theorem ch_none(g u:Value)(x:Book)(l:List Line)(c id:Int)(hm:x.chans.length≤1000000000)(hi:chanAt x.chans id=-1):GC Tryz.prog 43 [.ptr 0 0 0,int id] (wIn g u x l c) (.ptr 2017 0 0) (wIn g u x l (failC true c 6)++[(2017,.box 40 none ((encChan zeroChan).map fun c=>.p (.v c)))]):=by
 refine gi 4 Tryz.func43 rfl Tryz.ntmps43 rfl ?_
 intro L O w0
 refine sL<|laV Z<|nA<|lmP Z<|lc Z<|lf 0 ty.F84_0 Z<|loX (.agg [vI _ _,vI _ _,vI _ _,.own _,.own _,.own _]) ty.kd27 Z<|lmI Z<|lst (zL Tryz.func69 (chanAt_e x _ hm) rfl) Z<|laI Z<|nG<|aS<|sL<|lmI Z<|lbB Z<|lsB 13 true rfl (by rw[←chanAt_atI,hi];simp)<|nG<|aY Z<|sL<|lmP rfl ?_
 refine lst (z5b Tryz.func95 (fail_e _ _ _ _ _ _ _ _ _ _ _ _ _ _ _ _ _ _ _ ) (⟨stays.box rfl,stays.arr rfl,trivial⟩) rfl rfl) Z<|nA<|lq (rd (x:=.agg [vI _ _,vI _ _,vI _ _,vI _ _,vI _ _,vI _ _,vI _ _]) (rd_build rfl ty.sa40 rfl rfl rfl) rfl)<|lst (zX 2017 rfl) Z<|lT [0,4,5,17] [0,1,2,3,4,2017] ?_
 refine laP Z<|nG<|aR<|rT ?_
 refine end_ret ?_ ⟨rfl,rfl,rfl,rfl,rfl,rfl,trivial⟩
 rfl
theorem copyBook_e(x:Book)(hx:x.chans.length≤1000000∧x.htlcs.length≤1000000∧x.circles.length≤1000000):GC Tryz.prog 39 [bookV x] [] (.agg [int x.tick,int x.next,int x.wallet,.own 2005,.own 2009,.own 2013]) [(2005,.arr 40 7 (rowsOf encChan x.chans)),(2009,hAr x.htlcs),(2013,iAr x.circles)]:=by
 refine GC.intro (rs:=[.cell 2 27 (some 6)]) Tryz.func39 rfl Tryz.ntmps39 (Nat.le_of_ble_eq_true rfl) ⟨rfl,rfl,ty.kd27,trivial⟩ ?_
 intro L O w0
 refine sL<|lst (zX 2001 rfl) Z<|lst (zA 2002 ty.ze27 rfl) Z<|nA<|lf 3 ty.F27_3 Z<|loL ty.kd23 Z<|lst (St.app0 2005 rfl rfl (by decide) ty.el23 ty.ze40 rfl (by decide) rfl (Src.p rfl) (by simp[rowsOf,maxLen]at *;omega) (Nat.le_trans (Nat.mul_le_mul_left _ ty.by40) (by simp[rowsOf]at *;omega))) Z<|lf 3 ty.F27_3 Z<|lst (zB 2001 ty.co23 ty.inf23 rfl) Z<|nA<|lf 4 ty.F27_4 Z<|loL ty.kd24 Z<|lst (St.app0 2009 rfl rfl (by decide) ty.el24 ty.ze68 rfl (by decide) rfl (Src.p rfl) (by simp[rowsOf,maxLen]at *;omega) (Nat.le_trans (Nat.mul_le_mul_left _ ty.by68) (by simp[rowsOf]at *;omega))) Z<|lf 4 ty.F27_4 Z<|lst (zB 2001 ty.co24 ty.inf24 rfl) Z<|nA<|lf 5 ty.F27_5 Z<|loL ty.kd25 Z<|lst (St.app0 2013 rfl rfl (by decide) ty.el25 ty.ze78 rfl (by decide) rfl (Src.p rfl) (by simp[rowsOf,maxLen]at *;omega) (Nat.le_trans (Nat.mul_le_mul_left _ ty.by78) (by simp[rowsOf]at *;omega))) Z<|lT [1,2,13] [2001,2002,2005,2009,2013] ?_
 refine lf 5 ty.F27_5 Z<|lst (zB 2001 ty.co25 ty.inf25 Z) Z<|nA<|loX (.agg [vI _ _,vI _ _,vI _ _,.own _,.own _,.own _]) ty.kd27 Z<|lst (zB 2002 ty.co27 ty.inf27 Z) Z<|nG<|aR ?_
 refine end_ret ?_ ⟨rfl,rfl,rfl,trivial⟩
 rfl
end Go.Proofs.YtogkbcmfoalpiaaGreat

