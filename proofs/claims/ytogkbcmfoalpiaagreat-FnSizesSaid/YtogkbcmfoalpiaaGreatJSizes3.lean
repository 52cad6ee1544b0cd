/- Texts of the proof of FnSizes, joined: EA2, EB, EA3, EA4, EA8, ED2, E25, ED3, EA5. -/
import Derived.Test.YtogkbcmfoalpiaaGreatJSizes2
import Derived.Test.YtogkbcmfoalpiaaGreatKDiv2
import Derived.Test.YtogkbcmfoalpiaaGreatJSizes1
import Derived.Test.YtogkbcmfoalpiaaGreatKBook9
import Derived.Test.YtogkbcmfoalpiaaGreatKAp
import Derived.Test.YtogkbcmfoalpiaaGreatKAllowI
import Derived.Test.YtogkbcmfoalpiaaGreatKAllowS
import Derived.Test.YtogkbcmfoalpiaaGreatKScore1
namespace Go.Proofs.YtogkbcmfoalpiaaGreat
open Go.RowKit
set_option maxHeartbeats 16000000
set_option maxRecDepth 100000
set_option linter.unusedSimpArgs false
set_option linter.unusedVariables false
abbrev u64 (n : Int) : AV := .p (.v (.int .u64 n))
theorem lz_e : GC Tryz.prog 149 [u64 1000000] [] (int 44) [] := GC.of_vals (r := .int .i64 44) (RV.v_mk rfl) rfl fun w => by
 refine (Tryz.bits_LeadingZeros64 1000000 w (by omega) (by omega)).mono ?_
 rintro e w' ⟨rfl,rfl⟩
 exact ⟨by congr 2,Grow.refl _⟩
theorem mul64_e (a b : Int) (a0 : 0 ≤ a) (a1 : a ≤ 1125899906842624) (b0 : 0 ≤ b) (b1 : b ≤ 1125899906842624) : GC Tryz.prog 147 [u64 a,u64 b] [] (.tup [u64 (a * b / 18446744073709551616),u64 (a * b % 18446744073709551616)]) [] :=
 GC.of_vals (r := .tuple #[.int .u64 (a * b / 18446744073709551616),.int .u64 (a * b % 18446744073709551616)]) (RV.tupv (cs := [.int .u64 (a * b / 18446744073709551616),.int .u64 (a * b % 18446744073709551616)]) rfl rfl) rfl fun w => by
   obtain ⟨A,rfl⟩ := Int.eq_ofNat_of_zero_le a0
   obtain ⟨C,rfl⟩ := Int.eq_ofNat_of_zero_le b0
   refine (Tryz.bits_Mul64 A C (by omega) (by omega) w).mono ?_
   rintro e w' ⟨rfl,rfl⟩
   refine ⟨?_,Grow.refl _⟩
   simp
theorem amtOk_e (n : Int) : GC Tryz.prog 62 [int n] [] (boo (amtOk n)) [] := GC.of_vals (r := .bool (amtOk n)) (RV.v_mk rfl) rfl fun w => (impl_AmtOk_c n w).mono fun e w' h => ⟨h.1,h.2 ▸ Grow.refl _⟩
theorem samtOk_e (n : Int) : GC Tryz.prog 76 [int n] [] (boo (amtOk n)) [] := GC.of_vals (r := .bool (amtOk n)) (RV.v_mk rfl) rfl fun w => (spec_AmtOk_c n w).mono fun e w' h => ⟨h.1,h.2 ▸ Grow.refl _⟩
def addOk (a b : Int) : Bool := amtOk a && amtOk b && amtOk (a + b)
def addV (a b : Int) : Int := if addOk a b then a + b else 0
theorem addV_no {a b : Int} (h : addOk a b = false) : addV a b = 0 := by unfold addV;rw [h];rfl
theorem addV_yes {a b : Int} (h : addOk a b = true) : addV a b = a + b := by unfold addV;rw [h];rfl
def feeQ (ppm n : Int) : Int := if 0 < n * ppm % 1000000 then n * ppm / 1000000 + 1 else n * ppm / 1000000
def feeIn (ppm n : Int) : Bool := amtOk n && inB ppm 0 1000000
def feeOk (base ppm n : Int) : Bool := feeIn ppm n && addOk base (feeQ ppm n)
def feeV (base ppm n : Int) : Int := if feeIn ppm n then addV base (feeQ ppm n) else 0
theorem fee_no {base ppm n : Int} (h : feeIn ppm n = false) : feeOk base ppm n = false ∧ feeV base ppm n = 0 := by unfold feeOk feeV;rw [h];exact ⟨rfl,rfl⟩
theorem fee_yes {base ppm n : Int} (h : feeIn ppm n = true) : feeOk base ppm n = addOk base (feeQ ppm n) ∧ feeV base ppm n = addV base (feeQ ppm n) := by unfold feeOk feeV;rw [h];exact ⟨rfl,rfl⟩
theorem mil_le {n ppm : Int} (n0 : 0 ≤ n) (p0 : 0 ≤ ppm) (p1 : ppm ≤ 1000000) : 0 ≤ n * ppm ∧ n * ppm ≤ n * 1000000 := ⟨Int.mul_nonneg n0 p0,Int.mul_le_mul_of_nonneg_left p1 n0⟩
theorem mil_big {n ppm : Int} (n0 : 0 ≤ n) (n1 : n ≤ 1125899906842624) (p0 : 0 ≤ ppm) (p1 : ppm ≤ 1125899906842624) : 0 ≤ n * ppm ∧ n * ppm ≤ 1125899906842624 * 1125899906842624 := ⟨Int.mul_nonneg n0 p0,Int.mul_le_mul n1 p1 p0 (by omega)⟩
def divM (a b : Int) : AV := if inB a 0 1125899906842624 && inB b 0 1125899906842624 && decide (a * b / 1000000 ≤ 1125899906842624) then .tup [int (a * b / 1000000),int (a * b % 1000000),boo true] else .tup [int 0,int 0,boo false]
theorem divM_no {a b : Int} (h : (amtOk a && amtOk b && decide (a * b / 1000000 ≤ 1125899906842624)) = false) : divM a b = .tup [int 0,int 0,boo false] := by unfold divM;unfold amtOk at h;rw [h];rfl
theorem divM_yes {a b : Int} (h : (amtOk a && amtOk b && decide (a * b / 1000000 ≤ 1125899906842624)) = true) : divM a b = .tup [int (a * b / 1000000),int (a * b % 1000000),boo true] := by unfold divM;unfold amtOk at h;rw [h];rfl
def dq1 (hi lo : Int) : Int := (hi * 17592186044416 + lo / 1048576) / 4096000000
def dun (hi lo : Int) : Int := (hi * 17592186044416 + lo / 1048576) * 4294967296 + lo * 17592186044416 % 18446744073709551616 / 4294967296 - dq1 hi lo * 17592186044416000000
def dq0 (hi lo : Int) : Int := dun hi lo / 4096000000
theorem dq1_bd {hi lo : Int} (h0 : 1 ≤ hi) (h1 : hi < 1000000) (l0 : 0 ≤ lo) (l1 : lo < 18446744073709551616) : 0 ≤ dq1 hi lo ∧ dq1 hi lo < 4294967296 ∧ dq1 hi lo * 4096000000 ≤ hi * 17592186044416 + lo / 1048576 ∧ hi * 17592186044416 + lo / 1048576 < dq1 hi lo * 4096000000 + 4096000000 := by unfold dq1;omega
theorem dun_eq {hi lo : Int} (l0 : 0 ≤ lo) (l1 : lo < 18446744073709551616) : dun hi lo = hi * 75557863725914323419136 + lo * 4096 - dq1 hi lo * 17592186044416000000 := by unfold dun;omega
theorem dun_bd {hi lo : Int} (h0 : 1 ≤ hi) (h1 : hi < 1000000) (l0 : 0 ≤ lo) (l1 : lo < 18446744073709551616) : 0 ≤ dun hi lo ∧ dun hi lo < 17592186044416000000 := by
  have := dq1_bd h0 h1 l0 l1
  rw [dun_eq l0 l1];omega
theorem dq0_bd {hi lo : Int} (h0 : 1 ≤ hi) (h1 : hi < 1000000) (l0 : 0 ≤ lo) (l1 : lo < 18446744073709551616) : 0 ≤ dq0 hi lo ∧ dq0 hi lo < 4294967296 ∧ dq0 hi lo * 4096000000 ≤ dun hi lo ∧ dun hi lo < dq0 hi lo * 4096000000 + 4096000000 := by
  have := dun_bd h0 h1 l0 l1
  unfold dq0;omega
theorem quo_mil {hi lo : Int} (h0 : 1 ≤ hi) (h1 : hi < 1000000) (l0 : 0 ≤ lo) (l1 : lo < 18446744073709551616) : dq1 hi lo * 4294967296 + dq0 hi lo = (hi * 18446744073709551616 + lo) / 1000000 := by
  have a1 := dq1_bd h0 h1 l0 l1
  have a2 := dq0_bd h0 h1 l0 l1
  have a3 := dun_eq (hi := hi) l0 l1
  generalize dq1 hi lo = p at *
  generalize dq0 hi lo = q at *
  generalize dun hi lo = u at *
  omega
theorem wrap64_eq (n : Int) : IntKind.u64.wrap n = n % 18446744073709551616 := by simp [IntKind.wrap,IntKind.signed,IntKind.bits]
theorem hw (a b c : Int) : IntKind.u64.wrap (IntKind.u64.wrap (IntKind.u64.wrap a + b) - IntKind.u64.wrap c) = (a + b - c) % 18446744073709551616 := by
  rw [wrap64_eq,wrap64_eq,wrap64_eq,wrap64_eq];omega
theorem low_zero (lo : Int) : lo * 17592186044416 % 18446744073709551616 % 4294967296 = 0 := by omega
theorem rem_mil {hi lo p q u : Int} (a5 : p * 4294967296 + q = (hi * 18446744073709551616 + lo) / 1000000) (a6 : u = hi * 75557863725914323419136 + lo * 4096 - p * 17592186044416000000) : (u * 4294967296 + lo * 17592186044416 % 18446744073709551616 % 4294967296 - q * 17592186044416000000) % 18446744073709551616 = (hi * 18446744073709551616 + lo) % 1000000 * 17592186044416 := by
  rw [low_zero]
  have h1 := Int.emod_add_mul_ediv (hi * 18446744073709551616 + lo) 1000000
  have h2 := Int.emod_nonneg (hi * 18446744073709551616 + lo) (show (1000000 : Int) ≠ 0 by decide)
  have h3 := Int.emod_lt_of_pos (hi * 18446744073709551616 + lo) (show (0 : Int) < 1000000 by decide)
  rw [← a5] at h1
  generalize (hi * 18446744073709551616 + lo) % 1000000 = r at *
  have e : u * 4294967296 + 0 - q * 17592186044416000000 = r * 17592186044416 := by omega
  rw [e]
  omega
theorem div64_e (hi lo : Int) (h0 : 1 ≤ hi) (h1 : hi < 1000000) (l0 : 0 ≤ lo) (l1 : lo < 18446744073709551616) : GC Tryz.prog 148 [u64 hi,u64 lo,u64 1000000] [] (.tup [u64 ((hi * 18446744073709551616 + lo) / 1000000),u64 ((hi * 18446744073709551616 + lo) % 1000000)]) [] := by
 refine GC.intro (rs := [.tmp 6,.tmp 7]) Tryz.func148 rfl Tryz.ntmps148 (Nat.le_of_ble_eq_true rfl) ⟨rfl,rfl,trivial⟩ ?_
 intro L O w0
 refine sL<|laI Z<|laI Z<|nG<|aS<|sL<|lmI Z<|lbB Z<|lsB 20 false rfl (rfl)<|nG<|aN Z<|aK<|gT<|aS<|sL<|lmI Z<|lmI Z<|lbB Z<|lsB 24 false rfl (by simp;omega)<|nG<|aN Z<|aK<|gT<|aS ?_
 refine sL<|lmI Z<|lbB Z<|lsB 27 false rfl (by simp;omega)<|nG<|aN Z<|aK<|gA<|lmI Z<|lst (zL Tryz.func149 (lz_e) rfl) Z<|lq (rd (x := vI _ _) (rd_conv rfl ty.ik3 ty.ik143 rfl) rfl) ?_
 refine AL.slot 36 (u64 44) rfl ?_
 refine laI Z<|nA<|lmI Z<|lmI Z<|lq (rd (x := vI _ _) (rd_val rfl rfl rfl (run_shl (r := 17592186044416000000) rfl (by decide) (by decide) (by decide)) rfl) rfl)<|laI Z<|nA<|lmI Z<|lq (rd (x := vI _ _) (rd_val rfl rfl rfl (run_shr (r := 4096000000) rfl (by decide) (by decide) (by decide)) rfl) rfl)<|laI Z<|nA<|lmI Z<|lq (rd (x := vI _ _) (rd_val rfl rfl rfl (run_and (r := 0) (by decide)) rfl) rfl)<|laI Z<|nA<|lmI Z<|lmI Z<|lq (rd (x := vI _ _) (rd_val rfl rfl rfl (run_shl (r := hi * 17592186044416) rfl (by decide) (by decide) (wrap_u64 (by show 0 ≤ hi * 17592186044416;omega) (by show hi * 17592186044416 < _;omega))) rfl) rfl) ?_
 refine lmI Z<|lmI Z<|lq (rd (x := vI _ _) (rd_val rfl rfl rfl (run_subw (r := 20) (by decide)) rfl) rfl)<|lq (rd (x := vI _ _) (rd_val rfl rfl rfl (run_shr (r := lo / 1048576) rfl (by decide) (by decide) rfl) rfl) rfl)<|lT [1,2,6,7,8,9,10,46,50] [] ?_
 refine lq (rd (x := vI _ _) (rd_val rfl rfl rfl (run_or (r := hi * 17592186044416 + lo / 1048576) (bits_or_add 44 (by omega) (by omega) (by omega) (by omega) (by omega) (by omega))) rfl) rfl)<|laI Z<|nA<|lmI Z<|lmI Z<|lq (rd (x := vI _ _) (rd_val rfl rfl rfl (run_shl (r := lo * 17592186044416 % 18446744073709551616) rfl (by decide) (by decide) (by show IntKind.u64.wrap (lo * 17592186044416) = _;simp [IntKind.wrap,IntKind.signed,IntKind.bits])) rfl) rfl)<|laI Z<|nA<|lmI Z<|lq (rd (x := vI _ _) (rd_val rfl rfl rfl (run_shr (r := lo * 17592186044416 % 18446744073709551616 / 4294967296) rfl (by decide) (by decide) rfl) rfl) rfl)<|laI Z<|nA<|lmI Z<|lq (rd (x := vI _ _) (rd_val rfl rfl rfl (run_and (r := lo * 17592186044416 % 18446744073709551616 % 4294967296) (bits_and_mask (by omega) (by omega))) rfl) rfl)<|laI Z<|nA<|lmI Z<|lmI rfl ?_
 have a1 := dq1_bd h0 h1 l0 l1
 refine lhI rfl ⟨rfl,by decide,wrap_u64 (by show 0 ≤ (hi * 17592186044416 + lo / 1048576).tdiv 4096000000;rw [Int.tdiv_eq_ediv_of_nonneg (by omega)];exact a1.1) (by show (hi * 17592186044416 + lo / 1048576).tdiv 4096000000 < _;rw [Int.tdiv_eq_ediv_of_nonneg (by omega)];have := a1.2.1;unfold dq1 at this;omega)⟩ ?_
 refine AL.slot 61 (u64 (dq1 hi lo)) (Eq.trans (b := u64 _) rfl (congrArg u64 (by unfold dq1;exact Int.tdiv_eq_ediv_of_nonneg (by omega)))) ?_
 refine laI Z<|nA<|lmI Z<|lmI Z<|lmI Z ?_
 refine lhI rfl ⟨rfl,wrap_u64 (by omega) (by omega)⟩ ?_
 refine lhI rfl ⟨rfl,wrap_u64 (by omega) (by omega)⟩<|laI Z<|nG<|aS<|aB ?_
 refine aW [2,6,7,8,9,10,11,13,14,15,16] [] (D := Unit) (fun d => []) (fun d => []) (fun d => True) (fun d => 0) (()) (trivial) trivial trivial ?_
 intro d hI
 refine aS<|sL<|lmI Z<|lbB Z<|lsB 68 false rfl (by simp;omega)<|lmZ Z<|lmI Z<|lmI rfl ?_
 refine lhI rfl ⟨rfl,wrap_u64 (by omega) (by omega)⟩<|lmI rfl ?_
 refine lhI rfl ⟨rfl,wrap_u64 (by omega) (by omega)⟩<|lT [2,6,7,8,9,10,11,13,14,15,16,69,72,74] [] ?_
 refine lmI rfl ?_
 refine lhI rfl ⟨rfl,wrap_u64 (by omega) (by omega)⟩<|lbB Z<|lsB 77 false rfl (by simp;omega)<|lkZ Z<|nG<|aN Z<|aE<|eT<|eT<|eB<|gA<|lmI Z<|lq (rd (x := vI _ _) (rd_val rfl rfl rfl (run_mulw rfl) rfl) rfl)<|lmI Z<|lq (rd (x := vI _ _) (rd_val rfl rfl rfl (run_addw rfl) rfl) rfl)<|lmI Z<|lmI Z<|lq (rd (x := vI _ _) (rd_val rfl rfl rfl (run_mulw rfl) rfl) rfl) ?_
 have a2 := dun_bd h0 h1 l0 l1
 have a4 := dq0_bd h0 h1 l0 l1
 refine lq (rd (x := vI _ _) (rd_val rfl rfl rfl (run_subw (r := dun hi lo) (by rw [hw];rw [show (hi * 17592186044416 + lo / 1048576) * 4294967296 + lo * 17592186044416 % 18446744073709551616 / 4294967296 - dq1 hi lo * 17592186044416000000 = dun hi lo from rfl];omega)) rfl) rfl)<|laI Z<|nA<|lmI Z<|lmI rfl ?_
 refine lhI rfl ⟨rfl,by decide,wrap_u64 (by rw [Int.tdiv_eq_ediv_of_nonneg (by omega)];exact a4.1) (by rw [Int.tdiv_eq_ediv_of_nonneg (by omega)];have := a4.2.1;unfold dq0 at this;omega)⟩ ?_
 refine AL.slot 96 (u64 (dq0 hi lo)) (Eq.trans (b := u64 _) rfl (congrArg u64 (by unfold dq0;exact Int.tdiv_eq_ediv_of_nonneg (by omega)))) ?_
 refine laI Z<|nA<|lmI Z<|lmI Z<|lmI Z ?_
 refine lhI rfl ⟨rfl,wrap_u64 (by omega) (by omega)⟩ ?_
 refine lhI rfl ⟨rfl,wrap_u64 (by omega) (by omega)⟩<|laI Z<|nG<|aS<|aB ?_
 refine aW [2,6,7,8,9,10,14,15,16,17,18] [] (D := Unit) (fun d => []) (fun d => []) (fun d => True) (fun d => 0) (()) (trivial) trivial trivial ?_
 intro d hI
 refine aS<|sL<|lmI Z<|lbB Z<|lsB 103 false rfl (by simp;omega)<|lmZ Z<|lmI Z<|lmI rfl ?_
 refine lhI rfl ⟨rfl,wrap_u64 (by omega) (by omega)⟩<|lmI Z<|lT [2,6,7,8,9,10,14,15,16,17,18,104,107,108] [] ?_
 refine lhI rfl ⟨rfl,wrap_u64 (by omega) (by omega)⟩<|lmI rfl ?_
 refine lhI rfl ⟨rfl,wrap_u64 (by omega) (by omega)⟩<|lbB Z<|lsB 112 false rfl (by simp;omega)<|lkZ Z<|nG<|aN Z<|aE<|eT<|eT<|eB<|gA<|lmI rfl ?_
 refine lhI rfl ⟨rfl,wrap_u64 (by omega) (by omega)⟩<|lmI rfl ?_
 have a5 := quo_mil h0 h1 l0 l1
 refine lhI rfl ⟨rfl,wrap_u64 (by omega) (by omega)⟩ ?_
 refine AL.slot 124 (u64 ((hi * 18446744073709551616 + lo) / 1000000)) (Eq.trans (b := u64 _) rfl (congrArg u64 a5)) ?_
 refine lmI Z<|lq (rd (x := vI _ _) (rd_val Z Z Z (run_mulw Z) Z) Z)<|lmI Z<|lq (rd (x := vI _ _) (rd_val Z Z Z (run_addw Z) Z) Z)<|lmI Z<|lmI Z<|lq (rd (x := vI _ _) (rd_val Z Z Z (run_mulw Z) Z) Z) ?_
 have a6 := dun_eq (hi := hi) l0 l1
 refine lq (rd (x := vI _ _) (rd_val rfl rfl rfl (run_subw (r := (hi * 18446744073709551616 + lo) % 1000000 * 17592186044416) (by rw [hw];exact rem_mil a5 a6)) rfl) rfl)<|lmI Z<|lq (rd (x := vI _ _) (rd_val rfl rfl rfl (run_shr (r := (hi * 18446744073709551616 + lo) % 1000000) rfl (by decide) (by decide) (by show (hi * 18446744073709551616 + lo) % 1000000 * 17592186044416 / 17592186044416 = _;omega)) rfl) rfl)<|laI Z<|laI Z<|nG<|aR ?_
 refine end_ret ?_ trivial
 rfl
theorem div64_all (hi lo : Int) (h0 : 0 ≤ hi) (h1 : hi < 1000000) (l0 : 0 ≤ lo) (l1 : lo < 18446744073709551616) : GC Tryz.prog 148 [u64 hi,u64 lo,u64 1000000] [] (.tup [u64 ((hi * 18446744073709551616 + lo) / 1000000),u64 ((hi * 18446744073709551616 + lo) % 1000000)]) [] := by
 by_cases h : hi = 0
 ·subst h
  refine GC.of_vals (r := .tuple #[.int .u64 ((0 * 18446744073709551616 + lo) / 1000000),.int .u64 ((0 * 18446744073709551616 + lo) % 1000000)]) (RV.tupv (cs := [.int .u64 ((0 * 18446744073709551616 + lo) / 1000000),.int .u64 ((0 * 18446744073709551616 + lo) % 1000000)]) rfl rfl) rfl fun w => ?_
  refine (Div64_low_c lo 1000000 w l0 (by omega) (by omega) (by omega)).mono ?_
  rintro e w' ⟨rfl,n,rfl⟩
  exact ⟨by rw [Int.zero_mul,Int.zero_add],(Grow.refl _).drewN _⟩
 ·exact div64_e hi lo (by omega) h1 l0 l1
theorem hi_lt {a b : Int} (a0 : 0 ≤ a) (a1 : a ≤ 1125899906842624) (b0 : 0 ≤ b) (b1 : b ≤ 1125899906842624) : 0 ≤ a * b / 18446744073709551616 ∧ a * b / 18446744073709551616 ≤ 68719476736 ∧ 0 ≤ a * b % 18446744073709551616 ∧ a * b % 18446744073709551616 < 18446744073709551616 ∧ a * b / 18446744073709551616 * 18446744073709551616 + a * b % 18446744073709551616 = a * b := by
  have := mil_big a0 a1 b0 b1
  generalize a * b = p at *
  omega
theorem divided_e (a b : Int) : GC Tryz.prog 143 [int a,int b,int 1000000] [] (divM a b) [] := by
 refine GC.intro (rs := [.tmp 6,.tmp 7,.tmp 8]) Tryz.func143 rfl Tryz.ntmps143 (Nat.le_of_ble_eq_true rfl) ⟨rfl,rfl,rfl,trivial⟩ ?_
 intro L O w0
 refine sL<|laI Z<|laI Z<|laZ Z<|nG<|aS<|sL<|lmI Z<|lst (zL Tryz.func62 (amtOk_e _) Z) Z<|luB Z<|lmB Z ?_
 refine AL.bool (t := 16) rfl ?_ ?_
 ·intro h1
  refine lno Z<|lno Z<|lno Z<|lkT Z<|lmT Z<|lno Z<|lno Z<|lno Z<|lkT Z<|nG<|aY Z<|sL<|laI Z<|laI Z<|laZ Z<|nG<|aR<|rT ?_
  refine end_ret ?_ trivial
  first
  | (refine congrArg some (divM_yes ?_).symm;simp [amtOk,inB,ha,hb,hq];done)
  | (refine congrArg some (divM_no ?_).symm;simp_all;done)
  | (refine congrArg some (divM_no ?_).symm;simp only [decide_eq_true_eq] at *;rw [Bool.and_eq_false_iff];right;simp only [decide_eq_false_iff_not];omega)
 ·intro h1
  refine lmI Z<|lst (zL Tryz.func62 (amtOk_e _) Z) Z<|lT [0,1,2,6,7,8,16,18] [] ?_
  refine luB Z<|lkB Z<|lmB Z ?_
  refine AL.bool (t := 21) rfl ?_ ?_
  ·intro h2
   refine lno Z<|lno Z<|lno Z<|lkT Z<|nG<|aY Z<|sL<|laI Z<|laI Z<|laZ Z<|nG<|aR<|rT ?_
   refine end_ret ?_ trivial
   first
   | (refine congrArg some (divM_yes ?_).symm;simp [amtOk,inB,ha,hb,hq];done)
   | (refine congrArg some (divM_no ?_).symm;simp_all;done)
   | (refine congrArg some (divM_no ?_).symm;simp only [decide_eq_true_eq] at *;rw [Bool.and_eq_false_iff];right;simp only [decide_eq_false_iff_not];omega)
  ·intro h2
   refine lmI Z<|lst (zL Tryz.func63 (in_e _ _ _) rfl) Z<|lsB 23 true rfl (by decide)<|luZ Z<|lkZ Z<|nG<|aN Z<|aK<|gA ?_
   have ha := amtOk_true.1 (by simpa using h1 : amtOk a = true)
   have hb := amtOk_true.1 (by simpa using h2 : amtOk b = true)
   obtain ⟨g0,g1,g2,g3,g4⟩ := hi_lt ha.1 ha.2 hb.1 hb.2
   refine lmI Z<|lq (rd (x := vI _ _) (rd_conv Z ty.ik3 ty.ik150 Z) Z) ?_
   refine AL.slot 28 (u64 (a)) (Eq.trans (b := u64 _) rfl (congrArg u64 (wrap_u64 (by omega) (by omega)))) ?_
   refine lmI Z<|lq (rd (x := vI _ _) (rd_conv Z ty.ik3 ty.ik150 Z) Z) ?_
   refine AL.slot 30 (u64 (b)) (Eq.trans (b := u64 _) rfl (congrArg u64 (wrap_u64 (by omega) (by omega)))) ?_
   refine lst (zL Tryz.func147 (mul64_e a b ha.1 ha.2 hb.1 hb.2) Z) Z<|lT [2,6,7,8,31] [] ?_
   refine lmX (.tup [vI _ _,vI _ _]) Z<|lxI Z<|lxI Z<|laI Z<|laI Z<|nG<|aS<|sL<|lmI Z<|lmI Z<|lq (rd (x := vI _ _) (rd_conv Z ty.ik3 ty.ik150 Z) Z) ?_
   refine AL.slot 36 (u64 (1000000)) (Eq.trans (b := u64 _) rfl (congrArg u64 (wrap_u64 (by omega) (by omega)))) ?_
   refine lbB Z<|nG ?_
   refine AW.cond rfl ?_ ?_
   ·intro h3
    refine sL<|laI Z<|laI Z<|laZ Z<|nG<|aR<|rT ?_
    refine end_ret ?_ trivial
    first
    | (refine congrArg some (divM_yes ?_).symm;simp [amtOk,inB,ha,hb,hq];done)
    | (refine congrArg some (divM_no ?_).symm;simp_all;done)
    | (refine congrArg some (divM_no ?_).symm;simp only [decide_eq_true_eq] at *;rw [Bool.and_eq_false_iff];right;simp only [decide_eq_false_iff_not];omega)
   ·intro h3
    refine aK<|gA<|lmI Z<|lmI Z<|lmI Z<|lq (rd (x := vI _ _) (rd_conv Z ty.ik3 ty.ik150 Z) Z) ?_
    refine AL.slot 42 (u64 (1000000)) (Eq.trans (b := u64 _) rfl (congrArg u64 (wrap_u64 (by omega) (by omega)))) ?_
    refine lst (zL Tryz.func148 (div64_all (a * b / 18446744073709551616) (a * b % 18446744073709551616) g0 (by have h := h3;simp only [decide_eq_false_iff_not] at h;omega) g2 g3) rfl) Z<|lT [6,7,8,43] [] ?_
    refine lmX (.tup [vI _ _,vI _ _]) Z<|lxI Z<|lxI Z ?_
    refine AL.slot 44 (u64 (a * b / 1000000)) (Eq.trans (b := u64 _) rfl (congrArg (fun z => u64 (z / 1000000)) g4)) ?_
    refine laI rfl ?_
    refine AL.slot 45 (u64 (a * b % 1000000)) (Eq.trans (b := u64 _) rfl (congrArg (fun z => u64 (z % 1000000)) g4)) ?_
    refine laI Z<|nG<|aS<|sL<|lmI Z<|lbB Z<|nG ?_
    refine AW.cond rfl ?_ ?_
    ·intro h4
     refine sL<|laI Z<|laI Z<|laZ Z<|nG<|aR<|rT ?_
     refine end_ret ?_ trivial
     first
     | (refine congrArg some (divM_yes ?_).symm;simp [amtOk,inB,ha,hb,hq];done)
     | (refine congrArg some (divM_no ?_).symm;simp_all;done)
     | (refine congrArg some (divM_no ?_).symm;simp only [decide_eq_true_eq] at *;rw [Bool.and_eq_false_iff];right;simp only [decide_eq_false_iff_not];omega)
    ·intro h4
     refine aK<|gA<|lmI Z ?_
     have hq : a * b / 1000000 ≤ 1125899906842624 := by have h := h4;simp only [decide_eq_false_iff_not] at h;omega
     have hp := mil_big ha.1 ha.2 hb.1 hb.2
     have hq0 : 0 ≤ a * b / 1000000 := by omega
     refine lq (rd (x := vI _ _) (rd_conv rfl ty.ik150 ty.ik3 rfl) rfl)<|lsN 49 (a * b / 1000000) rfl (by rw [IntKind.wrap_i64];omega)<|lmI Z<|lq (rd (x := vI _ _) (rd_conv rfl ty.ik150 ty.ik3 rfl) rfl)<|lsN 51 (a * b % 1000000) rfl (by rw [IntKind.wrap_i64];omega)<|laI Z<|laI Z<|laT Z<|nG<|aR ?_
     refine end_ret ?_ trivial
     first
     | (refine congrArg some (divM_yes ?_).symm;simp [amtOk,inB,ha,hb,hq];done)
     | (refine congrArg some (divM_no ?_).symm;simp_all;done)
     | (refine congrArg some (divM_no ?_).symm;simp only [decide_eq_true_eq] at *;rw [Bool.and_eq_false_iff];right;simp only [decide_eq_false_iff_not];omega)
theorem divided_yes {a b : Int} (h : (amtOk a && amtOk b && decide (a * b / 1000000 ≤ 1125899906842624)) = true) : GC Tryz.prog 143 [int a,int b,int 1000000] [] (.tup [int (a * b / 1000000),int (a * b % 1000000),boo true]) [] := divM_yes h ▸ divided_e a b
theorem divided_no {a b : Int} (h : (amtOk a && amtOk b && decide (a * b / 1000000 ≤ 1125899906842624)) = false) : GC Tryz.prog 143 [int a,int b,int 1000000] [] (.tup [int 0,int 0,boo false]) [] := divM_no h ▸ divided_e a b
theorem in_div {ppm n : Int} (h : feeIn ppm n = true) : 0 ≤ n ∧ n ≤ 1125899906842624 ∧ 0 ≤ ppm ∧ ppm ≤ 1000000 ∧ n * ppm / 1000000 ≤ n ∧ 0 ≤ n * ppm / 1000000 := by
  unfold feeIn at h
  rw [Bool.and_eq_true,amtOk_true,inB_true] at h
  have := mil_le h.1.1 h.2.1 h.2.2
  generalize n * ppm = p at *
  omega
theorem feeIn_div {ppm n : Int} (h : feeIn ppm n = true) : (amtOk n && amtOk ppm && decide (n * ppm / 1000000 ≤ 1125899906842624)) = true := by
  have h2 := in_div h
  rw [Bool.and_eq_true,Bool.and_eq_true,amtOk_true,amtOk_true,decide_eq_true_eq]
  omega
theorem feeIn_of {ppm n : Int} (h : (amtOk n && amtOk ppm && decide (n * ppm / 1000000 ≤ 1125899906842624)) = true) (h2 : ¬ 1000000 < ppm) : feeIn ppm n = true := by
  rw [Bool.and_eq_true,Bool.and_eq_true,amtOk_true,amtOk_true,decide_eq_true_eq] at h
  unfold feeIn
  rw [Bool.and_eq_true,amtOk_true,inB_true]
  omega
theorem feeQ_hi {ppm n : Int} (h : 0 < n * ppm % 1000000) : feeQ ppm n = n * ppm / 1000000 + 1 := if_pos h
theorem feeQ_lo {ppm n : Int} (h : ¬ 0 < n * ppm % 1000000) : feeQ ppm n = n * ppm / 1000000 := if_neg h
theorem sdiv_e (a b : Int) (h : feeIn b a = true) : GC Tryz.prog 144 [int a,int b,int 1000000] [] (.tup [int (a * b / 1000000),int (a * b % 1000000),boo true]) [] :=
 GC.of_vals (r := .tuple #[.int .i64 (a * b / 1000000),.int .i64 (a * b % 1000000),.bool true]) (RV.tupv (cs := [.int .i64 (a * b / 1000000),.int .i64 (a * b % 1000000),.bool true]) rfl rfl) rfl fun w => by
   have h2 := in_div h
   refine (spec_l01Div_c a b 1000000 w (by omega) (by omega) (by omega) (by omega) (by omega) (by omega)).mono ?_
   rintro e w' ⟨rfl,rfl⟩
   exact ⟨by unfold divRes;rw [if_pos (by omega)],Grow.refl _⟩
theorem amt_e (n : Int) : GC Tryz.prog 132 [int n] [] (.tup [int (if amtOk n then n else 0),boo (amtOk n)]) [] := by
 refine GC.intro (rs := [.tmp 2,.tmp 3]) Tryz.func132 rfl Tryz.ntmps132 (Nat.le_of_ble_eq_true rfl) ⟨rfl,rfl,trivial⟩ ?_
 intro L O w0
 refine sL<|laI Z<|laZ Z<|nG<|aS<|sL<|lmI Z<|lst (zL Tryz.func62 (amtOk_e _) Z) Z<|luB Z<|nG ?_
 refine AW.cond rfl ?_ ?_
 ·intro h1
  refine sL<|laI Z<|laZ Z<|nG<|aR<|rT ?_
  refine end_ret ?_ trivial
  first | (simp_all;done) | (simp_all;rfl)
 ·intro h1
  refine aK<|gA<|lmI Z<|laI Z<|laT Z<|nG<|aR ?_
  refine end_ret ?_ trivial
  first | (simp_all;done) | (simp_all;rfl)
theorem addAmt_e (a b : Int) : GC Tryz.prog 99 [int a,int b] [] (.tup [int (addV a b),boo (addOk a b)]) [] := by
 refine GC.intro (rs := [.tmp 4,.tmp 5]) Tryz.func99 rfl Tryz.ntmps99 (Nat.le_of_ble_eq_true rfl) ⟨rfl,rfl,trivial⟩ ?_
 intro L O w0
 refine sL<|laI Z<|laZ Z<|nG<|aS<|sL<|lmI Z<|lst (zL Tryz.func62 (amtOk_e _) Z) Z<|luB Z<|lmB Z ?_
 refine AL.bool (t := 9) rfl ?_ ?_
 ·intro h1
  refine lno Z<|lno Z<|lno Z<|lkT Z<|nG<|aY Z<|sL<|laI Z<|laZ Z<|nG<|aR<|rT ?_
  refine end_ret ?_ trivial
  unfold addV addOk
  simp_all
  try rfl
 ·intro h1
  refine lmI Z<|lst (zL Tryz.func62 (amtOk_e _) Z) Z<|luB Z<|lkB Z<|nG ?_
  refine AW.cond rfl ?_ ?_
  ·intro h2
   refine sL<|laI Z<|laZ Z<|nG<|aR<|rT ?_
   refine end_ret ?_ trivial
   unfold addV addOk
   simp_all
   try rfl
  ·intro h2
   refine aK<|gA<|lmI Z<|lmI Z ?_
   have ha := amtOk_true.1 (by simpa using h1 : amtOk a = true)
   have hb := amtOk_true.1 (by simpa using h2 : amtOk b = true)
   refine lgI Z<|lst (zL Tryz.func132 (amt_e _) Z) Z<|lT [4,5,17] [] ?_
   refine lxI Z<|lxB Z<|laI Z<|laB Z<|nG<|aR ?_
   refine end_ret ?_ trivial
   unfold addV addOk
   simp_all
   try rfl
theorem saddAmt_e (a b : Int) : GC Tryz.prog 52 [int a,int b] [] (.tup [int (addV a b),boo (addOk a b)]) [] := by
 refine GC.intro (rs := [.tmp 4,.tmp 5]) Tryz.func52 rfl Tryz.ntmps52 (Nat.le_of_ble_eq_true rfl) ⟨rfl,rfl,trivial⟩ ?_
 intro L O w0
 refine sL<|laI Z<|laZ Z<|nG<|aS<|sL<|lmI Z<|lst (zL Tryz.func76 (samtOk_e _) Z) Z<|luB Z<|lmB Z ?_
 refine AL.bool (t := 9) rfl ?_ ?_
 ·intro h1
  refine lno Z<|lno Z<|lno Z<|lkT Z<|lmT Z<|lno Z<|lno Z<|lno Z<|lno Z<|lno Z<|lkT Z<|nG<|aY Z<|sL<|laI Z<|laZ Z<|nG<|aR<|rT ?_
  refine end_ret ?_ trivial
  unfold addV addOk
  simp_all
  try rfl
 ·intro h1
  refine lmI Z<|lst (zL Tryz.func76 (samtOk_e _) Z) Z<|luB Z<|lkB Z<|lmB Z ?_
  refine AL.bool (t := 14) rfl ?_ ?_
  ·intro h2
   refine lno Z<|lno Z<|lno Z<|lno Z<|lno Z<|lkT Z<|nG<|aY Z<|sL<|laI Z<|laZ Z<|nG<|aR<|rT ?_
   refine end_ret ?_ trivial
   unfold addV addOk
   simp_all
   try rfl
  ·intro h2
   refine lmI Z<|lmI Z ?_
   have ha := amtOk_true.1 (by simpa using h1 : amtOk a = true)
   have hb := amtOk_true.1 (by simpa using h2 : amtOk b = true)
   refine lgI Z<|lst (zL Tryz.func76 (samtOk_e _) Z) Z<|lT [0,1,4,5,14,18] [] ?_
   refine luB Z<|lkB Z<|nG ?_
   refine AW.cond rfl ?_ ?_
   ·intro h3
    refine sL<|laI Z<|laZ Z<|nG<|aR<|rT ?_
    refine end_ret ?_ trivial
    unfold addV addOk
    simp_all
    try rfl
   ·intro h3
    refine aK<|gA<|lmI Z<|lmI Z<|lgI Z<|laI Z<|laT Z<|nG<|aR ?_
    refine end_ret ?_ trivial
    unfold addV addOk
    simp_all
    try rfl
theorem fee_e (base ppm n : Int) : GC Tryz.prog 131 [int base,int ppm,int n,boo true] [] (.tup [int (feeV base ppm n),boo (feeOk base ppm n)]) [] := by
 refine GC.intro (rs := [.tmp 8,.tmp 9]) Tryz.func131 rfl Tryz.ntmps131 (Nat.le_of_ble_eq_true rfl) ⟨rfl,rfl,trivial⟩ ?_
 intro L O w0
 refine sL<|laI Z<|laZ Z<|nA<|lmI Z<|lmI Z ?_
 rcases hd : (amtOk n && amtOk ppm && decide (n * ppm / 1000000 ≤ 1125899906842624)) with _ | _
 ·skip
  refine lst (zL Tryz.func143 (divided_no hd) Z) Z<|lmX (.tup [vI _ _,vI _ _,vB false]) Z<|lxI Z<|lxI Z<|lxX (vB false) Z<|laI Z<|laI Z<|laZ Z<|nG<|aS<|sL<|lmZ Z<|luT Z<|lmT Z<|lno Z<|lno Z<|lkT Z<|nG<|aY Z<|sL<|laI Z<|laZ Z<|nG<|aR<|rT ?_
  refine end_ret ?_ trivial
  have hf : feeIn ppm n = false := by
    rcases hq : feeIn ppm n with _ | _
    ·rfl
    ·rw [feeIn_div hq] at hd;cases hd
  rw [(fee_no hf).1,(fee_no hf).2];try rfl
 ·skip
  refine lst (zL Tryz.func143 (divided_yes hd) Z) Z<|lT [0,1,3,8,9,16] [] ?_
  refine lmX (.tup [vI _ _,vI _ _,vB true]) Z<|lxI Z<|lxI Z<|lxX (vB true) Z<|laI Z<|laI Z<|laT Z<|nG<|aS<|sL<|lmT Z<|luZ Z<|lmZ Z<|lmI Z<|lbB Z<|lkB Z<|nG ?_
  refine AW.cond rfl ?_ ?_
  ·intro h1
   refine sL<|laI Z<|laZ Z<|nG<|aR<|rT ?_
   refine end_ret ?_ trivial
   have hf : feeIn ppm n = false := by
     rcases hq : feeIn ppm n with _ | _
     ·rfl
     ·have := in_div hq;simp only [decide_eq_true_eq] at *;omega
   rw [(fee_no hf).1,(fee_no hf).2];rfl
  ·intro h1
   refine aK<|gT<|aS<|sL ?_
   have hin := feeIn_of hd (by simpa using h1)
   have hb := in_div hin
   refine lmT Z<|lmT Z<|lmI Z<|lbB Z<|lkB Z<|nG ?_
   refine AW.cond rfl ?_ ?_
   ·intro h2
    refine aL<|lmI Z<|lgI Z<|laI Z<|nA<|lmI Z<|lmI Z<|lst (zL Tryz.func99 (addAmt_e _ _) Z) Z<|lT [8,9,35] [] ?_
    refine lxI Z<|lxB Z<|laI Z<|laB Z<|nG<|aR ?_
    refine end_ret ?_ trivial
    rw [(fee_yes hin).1,(fee_yes hin).2,feeQ_hi (by simpa using h2)];rfl
   ·intro h2
    refine aK<|gA<|lmI Z<|lmI Z<|lst (zL Tryz.func99 (addAmt_e _ _) Z) Z<|lxI Z<|lxB Z<|laI Z<|laB Z<|nG<|aR ?_
    refine end_ret ?_ trivial
    rw [(fee_yes hin).1,(fee_yes hin).2,feeQ_lo (by simpa using h2)];rfl
theorem feeUp_e (base ppm n : Int) : GC Tryz.prog 98 [int base,int ppm,int n] [] (.tup [int (feeV base ppm n),boo (feeOk base ppm n)]) [] := by
 refine GC.intro (rs := [.tmp 6,.tmp 7]) Tryz.func98 rfl Tryz.ntmps98 (Nat.le_of_ble_eq_true rfl) ⟨rfl,rfl,trivial⟩ ?_
 intro L O w0
 refine sL<|laI Z<|laZ Z<|nA<|lmI Z<|lmI Z<|lmI Z<|lst (zL Tryz.func131 (fee_e _ _ _) Z) Z<|lxI Z<|lxB Z<|laI Z<|laB Z<|nG<|aR ?_
 refine end_ret ?_ trivial
 rfl
theorem sfee_e (base ppm n : Int) : GC Tryz.prog 136 [int base,int ppm,int n,boo true] [] (.tup [int (feeV base ppm n),boo (feeOk base ppm n)]) [] := by
 refine GC.intro (rs := [.tmp 8,.tmp 9]) Tryz.func136 rfl Tryz.ntmps136 (Nat.le_of_ble_eq_true rfl) ⟨rfl,rfl,trivial⟩ ?_
 intro L O w0
 refine sL<|laI Z<|laZ Z<|nG<|aS<|sL<|lmI Z<|lst (zL Tryz.func76 (samtOk_e _) Z) Z<|luB Z<|lmB Z ?_
 refine AL.bool (t := 16) rfl ?_ ?_
 ·intro h1
  refine lno Z<|lno Z<|lno Z<|lkT Z<|lmT Z<|lno Z<|lno Z<|lkT Z<|lmT Z<|lno Z<|lno Z<|lkT Z<|nG<|aY Z<|sL<|laI Z<|laZ Z<|nG<|aR<|rT ?_
  refine end_ret ?_ trivial
  first
  | (rw [(fee_yes hin).1,(fee_yes hin).2,feeQ_hi (by simpa using h1)];rfl)
  | (rw [(fee_yes hin).1,(fee_yes hin).2,feeQ_lo (by simpa using h1)];rfl)
  | (have hb0 : amtOk base = false := by simpa using h1
     have hf : feeOk base ppm n = false ∧ feeV base ppm n = 0 := by unfold feeOk feeV addV addOk;simp [hb0]
     rw [hf.1,hf.2];rfl)
  | (have hf : feeIn ppm n = false := by
       rcases hq : feeIn ppm n with _ | _
       ·rfl
       ·have h := in_div hq;have h2 : amtOk n = true := amtOk_true.2 ⟨h.1,h.2.1⟩;simp_all <;> omega
     rw [(fee_no hf).1,(fee_no hf).2];rfl)
 ·intro h1
  refine lmI Z<|lst (zL Tryz.func76 (samtOk_e _) Z) Z<|lT [0,1,2,3,8,9,16,18] [] ?_
  refine luB Z<|lkB Z<|lmB Z ?_
  refine AL.bool (t := 21) rfl ?_ ?_
  ·intro h2
   refine lno Z<|lno Z<|lkT Z<|lmT Z<|lno Z<|lno Z<|lkT Z<|nG<|aY Z<|sL<|laI Z<|laZ Z<|nG<|aR<|rT ?_
   refine end_ret ?_ trivial
   first
   | (rw [(fee_yes hin).1,(fee_yes hin).2,feeQ_hi (by simpa using h2)];rfl)
   | (rw [(fee_yes hin).1,(fee_yes hin).2,feeQ_lo (by simpa using h2)];rfl)
   | (have hb0 : amtOk base = false := by simpa using h1
      have hf : feeOk base ppm n = false ∧ feeV base ppm n = 0 := by unfold feeOk feeV addV addOk;simp [hb0]
      rw [hf.1,hf.2];rfl)
   | (have hf : feeIn ppm n = false := by
        rcases hq : feeIn ppm n with _ | _
        ·rfl
        ·have h := in_div hq;have h2 : amtOk n = true := amtOk_true.2 ⟨h.1,h.2.1⟩;simp_all <;> omega
      rw [(fee_no hf).1,(fee_no hf).2];rfl)
  ·intro h2
   refine lmI Z<|lbB Z<|lkB Z<|lmB Z ?_
   refine AL.bool (t := 25) rfl ?_ ?_
   ·intro h3
    refine lno Z<|lno Z<|lkT Z<|nG<|aY Z<|sL<|laI Z<|laZ Z<|nG<|aR<|rT ?_
    refine end_ret ?_ trivial
    first
    | (rw [(fee_yes hin).1,(fee_yes hin).2,feeQ_hi (by simpa using h3)];rfl)
    | (rw [(fee_yes hin).1,(fee_yes hin).2,feeQ_lo (by simpa using h3)];rfl)
    | (have hb0 : amtOk base = false := by simpa using h1
       have hf : feeOk base ppm n = false ∧ feeV base ppm n = 0 := by unfold feeOk feeV addV addOk;simp [hb0]
       rw [hf.1,hf.2];rfl)
    | (have hf : feeIn ppm n = false := by
         rcases hq : feeIn ppm n with _ | _
         ·rfl
         ·have h := in_div hq;have h2 : amtOk n = true := amtOk_true.2 ⟨h.1,h.2.1⟩;simp_all <;> omega
       rw [(fee_no hf).1,(fee_no hf).2];rfl)
   ·intro h3
    refine lmI Z<|lbB Z<|lkB Z<|nG ?_
    refine AW.cond rfl ?_ ?_
    ·intro h4
     refine sL<|laI Z<|laZ Z<|nG<|aR<|rT ?_
     refine end_ret ?_ trivial
     first
     | (rw [(fee_yes hin).1,(fee_yes hin).2,feeQ_hi (by simpa using h4)];rfl)
     | (rw [(fee_yes hin).1,(fee_yes hin).2,feeQ_lo (by simpa using h4)];rfl)
     | (have hb0 : amtOk base = false := by simpa using h1
        have hf : feeOk base ppm n = false ∧ feeV base ppm n = 0 := by unfold feeOk feeV addV addOk;simp [hb0]
        rw [hf.1,hf.2];rfl)
     | (have hf : feeIn ppm n = false := by
          rcases hq : feeIn ppm n with _ | _
          ·rfl
          ·have h := in_div hq;have h2 : amtOk n = true := amtOk_true.2 ⟨h.1,h.2.1⟩;simp_all <;> omega
        rw [(fee_no hf).1,(fee_no hf).2];rfl)
    ·intro h4
     refine aK<|gA ?_
     have hin : feeIn ppm n = true := by
       unfold feeIn inB
       simp_all
     have hb := in_div hin
     refine lmI Z<|lmI Z<|lst (zL Tryz.func144 (sdiv_e n ppm hin) Z) Z<|lT [0,3,8,9,32] [] ?_
     refine lmX (.tup [vI _ _,vI _ _,vB true]) Z<|lxI Z<|lxI Z<|lxX (vB true) Z<|laI Z<|laI Z<|laT Z<|nG<|aS<|sL<|lmT Z<|luZ Z<|nG<|aN Z<|aK<|gT<|aS<|sL<|lmT Z<|lmT Z<|lmI Z<|lbB Z<|lkB Z<|nG ?_
     refine AW.cond rfl ?_ ?_
     ·intro h5
      refine aL<|lmI Z<|lgI Z<|laI Z<|nA<|lmI Z<|lmI Z<|lst (zL Tryz.func52 (saddAmt_e _ _) Z) Z<|lT [8,9,47] [] ?_
      refine lxI Z<|lxB Z<|laI Z<|laB Z<|nG<|aR ?_
      refine end_ret ?_ trivial
      first
      | (rw [(fee_yes hin).1,(fee_yes hin).2,feeQ_hi (by simpa using h5)];rfl)
      | (rw [(fee_yes hin).1,(fee_yes hin).2,feeQ_lo (by simpa using h5)];rfl)
      | (have hb0 : amtOk base = false := by simpa using h1
         have hf : feeOk base ppm n = false ∧ feeV base ppm n = 0 := by unfold feeOk feeV addV addOk;simp [hb0]
         rw [hf.1,hf.2];rfl)
      | (have hf : feeIn ppm n = false := by
           rcases hq : feeIn ppm n with _ | _
           ·rfl
           ·have h := in_div hq;have h2 : amtOk n = true := amtOk_true.2 ⟨h.1,h.2.1⟩;simp_all <;> omega
         rw [(fee_no hf).1,(fee_no hf).2];rfl)
     ·intro h5
      refine aK<|gA<|lmI Z<|lmI Z<|lst (zL Tryz.func52 (saddAmt_e _ _) Z) Z<|lxI Z<|lxB Z<|laI Z<|laB Z<|nG<|aR ?_
      refine end_ret ?_ trivial
      first
      | (rw [(fee_yes hin).1,(fee_yes hin).2,feeQ_hi (by simpa using h5)];rfl)
      | (rw [(fee_yes hin).1,(fee_yes hin).2,feeQ_lo (by simpa using h5)];rfl)
      | (have hb0 : amtOk base = false := by simpa using h1
         have hf : feeOk base ppm n = false ∧ feeV base ppm n = 0 := by unfold feeOk feeV addV addOk;simp [hb0]
         rw [hf.1,hf.2];rfl)
      | (have hf : feeIn ppm n = false := by
           rcases hq : feeIn ppm n with _ | _
           ·rfl
           ·have h := in_div hq;have h2 : amtOk n = true := amtOk_true.2 ⟨h.1,h.2.1⟩;simp_all <;> omega
         rw [(fee_no hf).1,(fee_no hf).2];rfl)
theorem sfeeUp_e (base ppm n : Int) : GC Tryz.prog 112 [int base,int ppm,int n] [] (.tup [int (feeV base ppm n),boo (feeOk base ppm n)]) [] := by
 refine GC.intro (rs := [.tmp 6,.tmp 7]) Tryz.func112 rfl Tryz.ntmps112 (Nat.le_of_ble_eq_true rfl) ⟨rfl,rfl,trivial⟩ ?_
 intro L O w0
 refine sL<|laI Z<|laZ Z<|nA<|lmI Z<|lmI Z<|lmI Z<|lst (zL Tryz.func136 (sfee_e _ _ _) Z) Z<|lxI Z<|lxB Z<|laI Z<|laB Z<|nG<|aR ?_
 refine end_ret ?_ trivial
 rfl

def bookV (x : Book) : AV := .agg [.p (.v (.int .i64 x.tick)),.p (.v (.int .i64 x.next)),.p (.v (.int .i64 x.wallet)),.p (.lst 40 7 (rowsOf encChan x.chans)),.p (.lst 68 7 (rowsOf encHtlc x.htlcs)),.p (.lst 78 5 (rowsOf encCircle x.circles))]
structure BookWf (x : Book) : Prop where
  chans : ∀ c ∈ x.chans,wfChan c
  htlcs : ∀ c ∈ x.htlcs,wfHtlc c
  circles : ∀ c ∈ x.circles,wfCircle c
  len : x.chans.length ≤ 1048576
theorem SlR.form {α : Type} {sz : Nat} {rep : World → Nat → Nat → List Value → α → Prop} {w : World} {lo hi : Nat} {v : Value} {xs : List α} (h : SlR sz rep w lo hi v xs) : ∃ a c,v = .slice a xs.length c := by
  obtain ⟨a,c,rfl,_⟩ := h
  exact ⟨a,c,rfl⟩
theorem bookArg {L : Nat → Prop} {ρ : Nat → Value} {H : Nat → AO} {x : Book} {w : World} {c : Value} (h : RV L ρ H w (bookV x) c) (hw : BookWf x) :
    ∃ a0 c0 a1 c1 a2 c2,c = .agg #[.int .i64 x.tick,.int .i64 x.next,.int .i64 x.wallet,.slice a0 x.chans.length c0,.slice a1 x.htlcs.length c1,.slice a2 x.circles.length c2] ∧
      SlR 7 repChan w 0 w.heap.size (.slice a0 x.chans.length c0) x.chans ∧ SlR 7 repHtlc w 0 w.heap.size (.slice a1 x.htlcs.length c1) x.htlcs ∧ SlR 5 repCircle w 0 w.heap.size (.slice a2 x.circles.length c2) x.circles := by
  unfold bookV at h
  rw [RV] at h
  obtain ⟨cs,rfl,h⟩ := h
  simp only [RVL] at h
  obtain ⟨v0,r0,rfl,h0,v1,r1,rfl,h1,v2,r2,rfl,h2,v3,r3,rfl,h3,v4,r4,rfl,h4,v5,r5,rfl,h5,rfl⟩ := h
  have s3 := h3.slr (rep := repChan) (fun x => rfl) (fun c hc => ⟨rfl,hw.chans c hc⟩)
  have s4 := h4.slr (rep := repHtlc) (fun x => rfl) (fun c hc => ⟨rfl,hw.htlcs c hc⟩)
  have s5 := h5.slr (rep := repCircle) (fun x => rfl) (fun c hc => ⟨rfl,hw.circles c hc⟩)
  obtain ⟨a0,c0,rfl⟩ := s3.form
  obtain ⟨a1,c1,rfl⟩ := s4.form
  obtain ⟨a2,c2,rfl⟩ := s5.form
  exact ⟨a0,c0,a1,c1,a2,c2,by rw [h0.v_eq,h1.v_eq,h2.v_eq],s3,s4,s5⟩
theorem GC.of_old {P : Program} {f : FuncId} {args : List AV} {x : AV} {r : Value} (ho : ∀ {L : Nat → Prop} {ρ : Nat → Value} {w : World},RV L ρ (ofO []) w x r)
    (h : ∀ (L : Nat → Prop) (ρ : Nat → Value) (w : World) (cs : List Value),RVL L ρ (ofO []) w args cs → Calls P f cs.toArray w fun e w' => e = .returned r ∧ Grow w w') : GC P f args [] x [] := by
  intro L w cs ρ fp hL hargs hob hdj hLf
  refine Calls.mono (h L ρ w cs hargs) ?_
  rintro e w' ⟨rfl,g⟩
  refine ⟨x,[],⟨rfl,rfl⟩,r,ρ,fun _ => [],rfl,⟨g.below.os,g.below.tape,g.below.output,g.size,fun b hb _ => g.below.block b hb,fun b o hb hlt => ?_⟩,ho,fun i => rfl,by simp,by simp⟩
  rcases hb with ⟨i,hi⟩ | hb
  · have := (hob i).only hi
    cases this.1
  · exact g.nf b o hb hlt
theorem RVL.two {L : Nat → Prop} {ρ : Nat → Value} {H : Nat → AO} {w : World} {x y : AV} {cs : List Value} (h : RVL L ρ H w [x,y] cs) : ∃ c d,cs = [c,d] ∧ RV L ρ H w x c ∧ RV L ρ H w y d := by
  simp only [RVL] at h
  obtain ⟨c,r,rfl,h1,d,r',rfl,h2,rfl⟩ := h
  exact ⟨c,d,rfl,h1,h2⟩
theorem RVL.sole {L : Nat → Prop} {ρ : Nat → Value} {H : Nat → AO} {w : World} {x : AV} {cs : List Value} (h : RVL L ρ H w [x] cs) : ∃ c,cs = [c] ∧ RV L ρ H w x c := by
  simp only [RVL] at h
  obtain ⟨c,r,rfl,h1,rfl⟩ := h
  exact ⟨c,rfl,h1⟩
theorem impl_BookOk_e (x : Book) (hw : BookWf x) : GC Tryz.prog 11 [bookV x] [] (boo (bookOk x)) [] := GC.of_old (RV.v_mk rfl) fun L ρ w cs h => by
  obtain ⟨c,rfl,hc⟩ := h.sole
  obtain ⟨a0,c0,a1,c1,a2,c2,rfl,s0,s1,s2⟩ := bookArg hc hw
  exact impl_BookOk_c x _ _ _ _ _ _ w s0 s1 s2 hw.len
theorem spec_BookOk_e (x : Book) (hw : BookWf x) : GC Tryz.prog 22 [bookV x] [] (boo (bookOk x)) [] := GC.of_old (RV.v_mk rfl) fun L ρ w cs h => by
  obtain ⟨c,rfl,hc⟩ := h.sole
  obtain ⟨a0,c0,a1,c1,a2,c2,rfl,s0,s1,s2⟩ := bookArg hc hw
  exact spec_BookOk_c x _ _ _ _ _ _ w s0 s1 s2 hw.len
theorem impl_chanAt_e (x : Book) (ch : Int) (hw : BookWf x) : GC Tryz.prog 69 [bookV x,int ch] [] (int (chanAt x.chans ch)) [] := GC.of_old (RV.v_mk rfl) fun L ρ w cs h => by
  obtain ⟨c,d,rfl,hc,hd⟩ := h.two
  obtain ⟨a0,c0,a1,c1,a2,c2,rfl,s0,s1,s2⟩ := bookArg hc hw
  rw [hd.v_eq]
  exact impl_chanAt_c x _ _ _ _ _ _ ch w s0 hw.len

def atI {α : Type} (p : α → Bool) (l : List α) : Int := match l.findIdx? p with | some i => (i : Int) | none => -1
theorem atI_at {α : Type} {p : α → Bool} {l : List α} {k : Nat} (hk : k < l.length) (h : ∀ j (h : j < l.length),j < k → p l[j] = false) (h2 : p l[k] = true) : atI p l = (k : Int) := by
  unfold atI
  rw [List.findIdx?_eq_some_iff_getElem.2 ⟨hk,h2,fun j hj => by simp [h j (by omega) hj]⟩]
theorem atI_no {α : Type} {p : α → Bool} {l : List α} (h : ∀ j (h : j < l.length),p l[j] = false) : atI p l = -1 := by
  unfold atI
  rw [List.findIdx?_eq_none_iff.2 (fun x hx => by
    obtain ⟨j,hj,rfl⟩ := List.getElem_of_mem hx
    exact h j hj)]
theorem atI_cases {α : Type} (p : α → Bool) (l : List α) : atI p l = -1 ∨ ∃ k,∃ h : k < l.length,atI p l = (k : Int) ∧ p l[k] = true := by
  unfold atI
  cases h : l.findIdx? p with
  | none => exact .inl rfl
  | some i =>
    obtain ⟨h1,h2,_⟩ := List.findIdx?_eq_some_iff_getElem.1 h
    exact .inr ⟨i,h1,rfl,by simpa using h2⟩
theorem all_succ {α : Type} {p : α → Bool} {l : List α} {k : Nat} (hk : k < l.length) (h : ∀ j (h : j < l.length),j < k → p l[j] = false) (h2 : p l[k] = false) : ∀ j (h : j < l.length),j < k + 1 → p l[j] = false := fun j hj hlt => by
  rcases Nat.lt_or_ge j k with q | q
  · exact h j hj q
  · have : j = k := by omega
    subst this;exact h2
theorem any_no {α : Type} {p : α → Bool} {l : List α} (h : ∀ j (h : j < l.length),p l[j] = false) : l.any p = false := by
  rw [List.any_eq_false]
  intro x hx
  obtain ⟨j,hj,rfl⟩ := List.getElem_of_mem hx
  simp [h j hj]
theorem any_yes {α : Type} {p : α → Bool} {l : List α} {k : Nat} (hk : k < l.length) (h : p l[k] = true) : l.any p = true := List.any_eq_true.2 ⟨_,List.getElem_mem hk,h⟩
def htlcAt (l : List Htlc) (key : Int) : Int := atI (fun h => h.key == key) l
def circleAt (l : List Circle) (key : Int) : Int := atI (fun h => h.key == key) l
theorem chanAt_atI (l : List Chan) (ch : Int) : chanAt l ch = atI (fun c => c.id == ch) l := rfl
def hUses (ch : Int) (h : Htlc) : Bool := h.inn == ch || h.out == ch
def cUses (ch : Int) (c : Circle) : Bool := c.frm == ch || c.to == ch
def usedB (x : Book) (ch : Int) : Bool := x.htlcs.any (hUses ch) || x.circles.any (cUses ch)
def knownB (x : Book) (key : Int) : Bool := decide (0 ≤ htlcAt x.htlcs key) || decide (0 ≤ circleAt x.circles key)
def hFew (ch : Int) (h : Htlc) : Int := if h.out = ch ∧ h.kept = false then h.amtOut else 0
def hOne (ch : Int) (h : Htlc) : Int := if h.out = ch then 1 else 0
def hOneF (ch : Int) (h : Htlc) : Int := if h.out = ch ∧ h.kept = false then 1 else 0
def standing (n : Int) (g : Bool) : Bool := scoreOk n && decide (20 ≤ n) && g
def roomV (l : List Htlc) (frm to : Chan) (ch amt : Int) (yes : Bool) : Int := allow to.size (tot (hFew ch) l) (tot (hOut ch) l) (tot (hOneF ch) l) (tot (hOne ch) l) amt (standing frm.score yes)
def clampV (n lo hi : Int) : Int := if n < lo then lo else if hi < n then hi else n
def SmallH (l : List Htlc) : Prop := l.length ≤ 60 ∧ ∀ h ∈ l,0 ≤ h.amtOut ∧ h.amtOut ≤ 1125899906842624
theorem SmallH.at {l : List Htlc} (s : SmallH l) {k : Nat} (hk : k < l.length) : 0 ≤ l[k].amtOut ∧ l[k].amtOut ≤ 1125899906842624 := s.2 _ (List.getElem_mem hk)
theorem SmallH.few {l : List Htlc} (s : SmallH l) (ch : Int) (k : Nat) : 0 ≤ tot (hFew ch) (l.take k) ∧ tot (hFew ch) (l.take k) ≤ 60 * 1125899906842624 := tot_lim 60 (by decide) (fun h hh => by have := s.2 h hh;unfold hFew;split <;> omega) s.1 k
theorem SmallH.all {l : List Htlc} (s : SmallH l) (ch : Int) (k : Nat) : 0 ≤ tot (hOut ch) (l.take k) ∧ tot (hOut ch) (l.take k) ≤ 60 * 1125899906842624 := tot_lim 60 (by decide) (fun h hh => by have := s.2 h hh;unfold hOut;split <;> omega) s.1 k
theorem SmallH.one {l : List Htlc} (s : SmallH l) (ch : Int) (k : Nat) : 0 ≤ tot (hOne ch) (l.take k) ∧ tot (hOne ch) (l.take k) ≤ 60 * 1 := tot_lim 60 (by decide) (fun h hh => by unfold hOne;split <;> omega) s.1 k
theorem SmallH.oneF {l : List Htlc} (s : SmallH l) (ch : Int) (k : Nat) : 0 ≤ tot (hOneF ch) (l.take k) ∧ tot (hOneF ch) (l.take k) ≤ 60 * 1 := tot_lim 60 (by decide) (fun h hh => by unfold hOneF;split <;> omega) s.1 k
theorem tot_skip {α : Type} {f : α → Int} {l : List α} {k : Nat} (hk : k < l.length) (h : f l[k] = 0) : tot f (l.take (k + 1)) = tot f (l.take k) := by rw [tot_succ f l hk,h];omega
theorem tot_add {α : Type} {f : α → Int} {l : List α} {k : Nat} {n : Int} (hk : k < l.length) (h : f l[k] = n) : tot f (l.take k) + n = tot f (l.take (k + 1)) := by rw [tot_succ f l hk,h]
theorem chanAt_e (x : Book) (ch : Int) (hm : x.chans.length ≤ 1000000000) : GC Tryz.prog 69 [bookV x,int ch] [] (int (atI (fun c => c.id == ch) x.chans)) [] := by
 refine gi 4 Tryz.func69 rfl Tryz.ntmps69 rfl ?_
 intro L O w0
 refine sL<|lst (zX 2002 Z) Z<|laI Z<|nG<|aS<|sL<|lf 3 ty.F27_3 Z<|loL ty.kd23 Z<|lnI ty.sl23 Z<|lmI Z<|nG<|aB ?_
 refine aW [1,4,8,9] [2002] (D := Nat) (fun k => [(10,int (k : Int))]) (fun k => []) (fun k => k ≤ x.chans.length ∧ ∀ j (h : j < x.chans.length),j < k → (fun c => c.id == ch) x.chans[j] = false) (fun k => x.chans.length - k) (0) (⟨Nat.zero_le _,fun j _ h => absurd h (by omega)⟩) ⟨rfl,trivial⟩ trivial ?_
 intro k hI
 obtain ⟨hkl,hall⟩ := hI
 refine sL<|lbB Z<|nG<|aS ?_
 refine AW.cond rfl ?_ ?_
 ·intro h1
  refine aK<|gT<|aS<|aB<|sL<|lmI Z ?_
  have hk : k < x.chans.length := by simpa [length_rowsOf] using h1
  refine li k ty.el23 Z (row_map hk)<|lrX (.agg [vI _ _,vI _ _,vI _ _,vI _ _,vI _ _,vI _ _,vI _ _]) ty.kd40 Z<|lst (zA 2006 ty.ze40 Z) Z<|laI Z<|lst (zB 2006 ty.co40 ty.inf40 Z) Z<|nA<|lf 0 ty.F40_0 Z<|loI ty.kd3 Z<|lmI Z<|lbB Z<|nG ?_
  refine AW.cond rfl ?_ ?_
  ·intro h2
   refine sL<|lmI Z<|laI Z<|nG<|aR<|rB<|rT<|rT<|rB<|rT ?_
   refine end_ret ?_ trivial
   refine congrArg (fun n => some (int n)) ?_
   exact (atI_at hk hall (by simpa using h2)).symm
  ·intro h2
   refine aK<|gB<|gT<|aL<|lgI Z<|lmI Z<|nG ?_
   refine ⟨k + 1,⟨hk,all_succ (p := (fun c => c.id == ch)) hk hall (by simpa using h2)⟩,by omega,⟨(iq rfl),trivial⟩,trivial,rfl,rfl⟩
 ·intro h1
  refine aE<|eT<|eT<|eB<|gA<|laI Z<|nG<|aR ?_
  refine end_ret ?_ trivial
  refine congrArg (fun n => some (int n)) ?_
  exact (atI_no fun j hj => hall j hj (by have h := h1;simp only [length_rowsOf,decide_eq_false_iff_not] at h;omega)).symm
theorem htlcAt_e (x : Book) (key : Int) (hm : x.htlcs.length ≤ 1000000000) : GC Tryz.prog 101 [bookV x,int key] [] (int (atI (fun c => c.key == key) x.htlcs)) [] := by
 refine gi 4 Tryz.func101 rfl Tryz.ntmps101 rfl ?_
 intro L O w0
 refine sL<|lst (zX 2002 Z) Z<|laI Z<|nG<|aS<|sL<|lf 4 ty.F27_4 Z<|loL ty.kd24 Z<|lnI ty.sl24 Z<|lmI Z<|nG<|aB ?_
 refine aW [1,4,8,9] [2002] (D := Nat) (fun k => [(10,int (k : Int))]) (fun k => []) (fun k => k ≤ x.htlcs.length ∧ ∀ j (h : j < x.htlcs.length),j < k → (fun c => c.key == key) x.htlcs[j] = false) (fun k => x.htlcs.length - k) (0) (⟨Nat.zero_le _,fun j _ h => absurd h (by omega)⟩) ⟨rfl,trivial⟩ trivial ?_
 intro k hI
 obtain ⟨hkl,hall⟩ := hI
 refine sL<|lbB Z<|nG<|aS ?_
 refine AW.cond rfl ?_ ?_
 ·intro h1
  refine aK<|gT<|aS<|aB<|sL<|lmI Z ?_
  have hk : k < x.htlcs.length := by simpa [length_rowsOf] using h1
  refine li k ty.el24 Z (row_map hk)<|lrX (.agg [vI _ _,vI _ _,vI _ _,vI _ _,vI _ _,vB _,vI _ _]) ty.kd68 Z<|lst (zA 2006 ty.ze68 Z) Z<|laI Z<|lst (zB 2006 ty.co68 ty.inf68 Z) Z<|nA<|lf 0 ty.F68_0 Z<|loI ty.kd3 Z<|lmI Z<|lbB Z<|nG ?_
  refine AW.cond rfl ?_ ?_
  ·intro h2
   refine sL<|lmI Z<|laI Z<|nG<|aR<|rB<|rT<|rT<|rB<|rT ?_
   refine end_ret ?_ trivial
   refine congrArg (fun n => some (int n)) ?_
   exact (atI_at hk hall (by simpa using h2)).symm
  ·intro h2
   refine aK<|gB<|gT<|aL<|lgI Z<|lmI Z<|nG ?_
   refine ⟨k + 1,⟨hk,all_succ (p := (fun c => c.key == key)) hk hall (by simpa using h2)⟩,by omega,⟨(iq rfl),trivial⟩,trivial,rfl,rfl⟩
 ·intro h1
  refine aE<|eT<|eT<|eB<|gA<|laI Z<|nG<|aR ?_
  refine end_ret ?_ trivial
  refine congrArg (fun n => some (int n)) ?_
  exact (atI_no fun j hj => hall j hj (by have h := h1;simp only [length_rowsOf,decide_eq_false_iff_not] at h;omega)).symm
theorem circleAt_e (x : Book) (key : Int) (hm : x.circles.length ≤ 1000000000) : GC Tryz.prog 105 [bookV x,int key] [] (int (atI (fun c => c.key == key) x.circles)) [] := by
 refine gi 4 Tryz.func105 rfl Tryz.ntmps105 rfl ?_
 intro L O w0
 refine sL<|lst (zX 2002 Z) Z<|laI Z<|nG<|aS<|sL<|lf 5 ty.F27_5 Z<|loL ty.kd25 Z<|lnI ty.sl25 Z<|lmI Z<|nG<|aB ?_
 refine aW [1,4,8,9] [2002] (D := Nat) (fun k => [(10,int (k : Int))]) (fun k => []) (fun k => k ≤ x.circles.length ∧ ∀ j (h : j < x.circles.length),j < k → (fun c => c.key == key) x.circles[j] = false) (fun k => x.circles.length - k) (0) (⟨Nat.zero_le _,fun j _ h => absurd h (by omega)⟩) ⟨rfl,trivial⟩ trivial ?_
 intro k hI
 obtain ⟨hkl,hall⟩ := hI
 refine sL<|lbB Z<|nG<|aS ?_
 refine AW.cond rfl ?_ ?_
 ·intro h1
  refine aK<|gT<|aS<|aB<|sL<|lmI Z ?_
  have hk : k < x.circles.length := by simpa [length_rowsOf] using h1
  refine li k ty.el25 Z (row_map hk)<|lrX (.agg [vI _ _,vI _ _,vI _ _,vI _ _,vI _ _]) ty.kd78 Z<|lst (zA 2006 ty.ze78 Z) Z<|laI Z<|lst (zB 2006 ty.co78 ty.inf78 Z) Z<|nA<|lf 0 ty.F78_0 Z<|loI ty.kd3 Z<|lmI Z<|lbB Z<|nG ?_
  refine AW.cond rfl ?_ ?_
  ·intro h2
   refine sL<|lmI Z<|laI Z<|nG<|aR<|rB<|rT<|rT<|rB<|rT ?_
   refine end_ret ?_ trivial
   refine congrArg (fun n => some (int n)) ?_
   exact (atI_at hk hall (by simpa using h2)).symm
  ·intro h2
   refine aK<|gB<|gT<|aL<|lgI Z<|lmI Z<|nG ?_
   refine ⟨k + 1,⟨hk,all_succ (p := (fun c => c.key == key)) hk hall (by simpa using h2)⟩,by omega,⟨(iq rfl),trivial⟩,trivial,rfl,rfl⟩
 ·intro h1
  refine aE<|eT<|eT<|eB<|gA<|laI Z<|nG<|aR ?_
  refine end_ret ?_ trivial
  refine congrArg (fun n => some (int n)) ?_
  exact (atI_no fun j hj => hall j hj (by have h := h1;simp only [length_rowsOf,decide_eq_false_iff_not] at h;omega)).symm
theorem sAt_e (x : Book) (ch : Int) (hm : x.chans.length ≤ 1000000000) : GC Tryz.prog 55 [bookV x,int ch] [] (int (atI (fun c => c.id == ch) x.chans)) [] := by
 refine gi 4 Tryz.func55 rfl Tryz.ntmps55 rfl ?_
 intro L O w0
 refine sL<|lst (zX 2002 Z) Z<|laI Z<|nG<|aS<|sL<|lf 3 ty.F27_3 Z<|loL ty.kd23 Z<|lnI ty.sl23 Z<|lmI Z<|nG<|aB ?_
 refine aW [1,2,4,8] [2002] (D := Nat) (fun k => [(9,int (k : Int))]) (fun k => []) (fun k => k ≤ x.chans.length ∧ ∀ j (h : j < x.chans.length),j < k → (fun c => c.id == ch) x.chans[j] = false) (fun k => x.chans.length - k) (0) (⟨Nat.zero_le _,fun j _ h => absurd h (by omega)⟩) ⟨rfl,trivial⟩ trivial ?_
 intro k hI
 obtain ⟨hkl,hall⟩ := hI
 refine sL<|lbB Z<|nG<|aS ?_
 refine AW.cond rfl ?_ ?_
 ·intro h1
  refine aK<|gT<|aS<|aB<|sL<|lmI Z<|laI Z<|nA<|lf 3 ty.F27_3 Z<|loL ty.kd23 Z<|lmI Z ?_
  have hk : k < x.chans.length := by simpa [length_rowsOf] using h1
  refine li k ty.el23 Z (row_map hk)<|lq (rd (x := .rp _) (zfr ty.F40_0 Z) Z)<|lrI ty.kd3 Z<|lmI Z<|lbB Z<|nG ?_
  refine AW.cond rfl ?_ ?_
  ·intro h2
   refine sL<|lmI Z<|laI Z<|nG<|aR<|rB<|rT<|rT<|rB<|rT ?_
   refine end_ret ?_ trivial
   refine congrArg (fun n => some (int n)) ?_
   exact (atI_at hk hall (by simpa using h2)).symm
  ·intro h2
   refine aK<|gB<|gT<|aL<|lgI Z<|lmI Z<|nG ?_
   refine ⟨k + 1,⟨hk,all_succ (p := (fun c => c.id == ch)) hk hall (by simpa using h2)⟩,by omega,⟨(iq rfl),trivial⟩,trivial,rfl,rfl⟩
 ·intro h1
  refine aE<|eT<|eT<|eB<|gA<|laI Z<|nG<|aR ?_
  refine end_ret ?_ trivial
  refine congrArg (fun n => some (int n)) ?_
  exact (atI_no fun j hj => hall j hj (by have h := h1;simp only [length_rowsOf,decide_eq_false_iff_not] at h;omega)).symm
theorem used_e (x : Book) (ch : Int) (hmh : x.htlcs.length ≤ 1000000000) (hmc : x.circles.length ≤ 1000000000) : GC Tryz.prog 96 [bookV x,int ch] [] (boo (usedB x ch)) [] := by
 refine gi 4 Tryz.func96 rfl Tryz.ntmps96 rfl ?_
 intro L O w0
 refine sL<|lst (zX 2002 Z) Z<|laZ Z<|nG<|aS<|sL<|lf 4 ty.F27_4 Z<|loL ty.kd24 Z<|lnI ty.sl24 Z<|lmI Z<|nG<|aB ?_
 refine aW [1,2,4,10,11] [2002] (D := Nat) (fun k => [(12,int (k : Int))]) (fun k => []) (fun k => k ≤ x.htlcs.length ∧ ∀ j (h : j < x.htlcs.length),j < k → hUses ch x.htlcs[j] = false) (fun k => x.htlcs.length - k) (0) (⟨Nat.zero_le _,fun j _ h => absurd h (by omega)⟩) ⟨rfl,trivial⟩ trivial ?_
 intro k hI
 obtain ⟨hkl,hall⟩ := hI
 refine sL<|lbB Z<|nG<|aS ?_
 refine AW.cond rfl ?_ ?_
 ·intro h1
  refine aK<|gT<|aS<|aB<|sL ?_
  have hk : k < x.htlcs.length := by simpa [length_rowsOf] using h1
  refine li k ty.el24 Z (row_map hk)<|lrX (.agg [vI _ _,vI _ _,vI _ _,vI _ _,vI _ _,vB _,vI _ _]) ty.kd68 Z<|lst (zA 2006 ty.ze68 Z) Z<|lst (zB 2006 ty.co68 ty.inf68 Z) Z<|nA<|lf 1 ty.F68_1 Z<|loI ty.kd3 Z<|lmI Z<|lbB Z<|lmB Z ?_
  refine AL.bool (t := 20) rfl ?_ ?_
  ·intro h2
   refine lno Z<|lno Z<|lno Z<|lno Z<|lkT Z<|nG<|aY Z<|sL<|laT Z<|nG<|aR<|rB<|rT<|rT<|rB<|rT ?_
   refine eBo trivial ?_
   unfold usedB
   rw [any_yes (p := hUses ch) hk (by unfold hUses;simp_all)];rfl
  ·intro h2
   refine lf 2 ty.F68_2 Z<|loI ty.kd3 Z<|lmI Z<|lbB Z<|lkB Z<|nG ?_
   refine AW.cond rfl ?_ ?_
   ·intro h3
    refine sL<|laT Z<|nG<|aR<|rB<|rT<|rT<|rB<|rT ?_
    refine eBo trivial ?_
    unfold usedB
    rw [any_yes (p := hUses ch) hk (by unfold hUses;simp_all)];rfl
   ·intro h3
    refine aK<|gB<|gT<|aL<|lgI Z<|lmI Z<|nG ?_
    refine ⟨k + 1,⟨hk,all_succ (p := hUses ch) hk hall (by unfold hUses;simp_all)⟩,by omega,⟨(iq rfl),trivial⟩,trivial,rfl,rfl⟩
 ·intro h1
  refine aE<|eT<|eT<|eB<|gT<|aS<|sL<|lf 5 ty.F27_5 Z<|loL ty.kd25 Z<|lnI ty.sl25 Z<|lmI Z<|lT [1,4,28,29,30] [2002] ?_
  refine nG<|aB ?_
  have hno : x.htlcs.any (hUses ch) = false := any_no fun j hj => hall j hj (by have h := h1;simp only [length_rowsOf,decide_eq_false_iff_not] at h;omega)
  clear hall hkl
  refine aW [1,4,28,29] [2002] (D := Nat) (fun k => [(30,int (k : Int))]) (fun k => []) (fun k => k ≤ x.circles.length ∧ ∀ j (h : j < x.circles.length),j < k → cUses ch x.circles[j] = false) (fun k => x.circles.length - k) (0) (⟨Nat.zero_le _,fun j _ h => absurd h (by omega)⟩) ⟨rfl,trivial⟩ trivial ?_
  intro k hI
  obtain ⟨hkl,hall⟩ := hI
  refine sL<|lbB Z<|nG<|aS ?_
  refine AW.cond rfl ?_ ?_
  ·intro h4
   refine aK<|gT<|aS<|aB<|sL ?_
   have hk : k < x.circles.length := by simpa [length_rowsOf] using h4
   refine li k ty.el25 Z (row_map hk)<|lrX (.agg [vI _ _,vI _ _,vI _ _,vI _ _,vI _ _]) ty.kd78 Z<|lst (zA 2008 ty.ze78 Z) Z<|lst (zB 2008 ty.co78 ty.inf78 Z) Z<|nA<|lf 1 ty.F78_1 Z<|loI ty.kd3 Z<|lmI Z<|lbB Z<|lmB Z ?_
   refine AL.bool (t := 38) rfl ?_ ?_
   ·intro h5
    refine lno Z<|lno Z<|lno Z<|lno Z<|lkT Z<|nG<|aY Z<|sL<|laT Z<|nG<|aR<|rB<|rT<|rT<|rB<|rT ?_
    refine eBo trivial ?_
    unfold usedB
    rw [any_yes (p := cUses ch) hk (by unfold cUses;simp_all),Bool.or_true]
   ·intro h5
    refine lf 2 ty.F78_2 Z<|loI ty.kd3 Z<|lmI Z<|lbB Z<|lkB Z<|nG ?_
    refine AW.cond rfl ?_ ?_
    ·intro h6
     refine sL<|laT Z<|nG<|aR<|rB<|rT<|rT<|rB<|rT ?_
     refine eBo trivial ?_
     unfold usedB
     rw [any_yes (p := cUses ch) hk (by unfold cUses;simp_all),Bool.or_true]
    ·intro h6
     refine aK<|gB<|gT<|aL<|lgI Z<|lmI Z<|nG ?_
     refine ⟨k + 1,⟨hk,all_succ (p := cUses ch) hk hall (by unfold cUses;simp_all)⟩,by omega,⟨(iq rfl),trivial⟩,trivial,rfl,rfl⟩
  ·intro h4
   refine aE<|eT<|eT<|eB<|gA<|laZ Z<|nG<|aR ?_
   refine eBo trivial ?_
   unfold usedB
   rw [hno,any_no (p := cUses ch) fun j hj => hall j hj (by have h := h4;simp only [length_rowsOf,decide_eq_false_iff_not] at h;omega)];rfl
theorem sused_e (x : Book) (ch : Int) (hmh : x.htlcs.length ≤ 1000000000) (hmc : x.circles.length ≤ 1000000000) : GC Tryz.prog 108 [bookV x,int ch] [] (boo (usedB x ch)) [] := by
 refine gi 4 Tryz.func108 rfl Tryz.ntmps108 rfl ?_
 intro L O w0
 refine sL<|lst (zX 2002 Z) Z<|laZ Z<|nG<|aS<|sL<|lf 4 ty.F27_4 Z<|loL ty.kd24 Z<|lnI ty.sl24 Z<|lmI Z<|nG<|aB ?_
 refine aW [1,2,4,10,11] [2002] (D := Nat) (fun k => [(12,int (k : Int))]) (fun k => []) (fun k => k ≤ x.htlcs.length ∧ ∀ j (h : j < x.htlcs.length),j < k → hUses ch x.htlcs[j] = false) (fun k => x.htlcs.length - k) (0) (⟨Nat.zero_le _,fun j _ h => absurd h (by omega)⟩) ⟨rfl,trivial⟩ trivial ?_
 intro k hI
 obtain ⟨hkl,hall⟩ := hI
 refine sL<|lbB Z<|nG<|aS ?_
 refine AW.cond rfl ?_ ?_
 ·intro h1
  refine aK<|gT<|aS<|aB<|sL ?_
  have hk : k < x.htlcs.length := by simpa [length_rowsOf] using h1
  refine li k ty.el24 Z (row_map hk)<|lrX (.agg [vI _ _,vI _ _,vI _ _,vI _ _,vI _ _,vB _,vI _ _]) ty.kd68 Z<|lst (zA 2006 ty.ze68 Z) Z<|lst (zB 2006 ty.co68 ty.inf68 Z) Z<|nA<|lf 1 ty.F68_1 Z<|loI ty.kd3 Z<|lmI Z<|lbB Z<|lmB Z ?_
  refine AL.bool (t := 20) rfl ?_ ?_
  ·intro h2
   refine lno Z<|lno Z<|lno Z<|lno Z<|lkT Z<|nG<|aY Z<|sL<|laT Z<|nG<|aR<|rB<|rT<|rT<|rB<|rT ?_
   refine eBo trivial ?_
   unfold usedB
   rw [any_yes (p := hUses ch) hk (by unfold hUses;simp_all)];rfl
  ·intro h2
   refine lf 2 ty.F68_2 Z<|loI ty.kd3 Z<|lmI Z<|lbB Z<|lkB Z<|nG ?_
   refine AW.cond rfl ?_ ?_
   ·intro h3
    refine sL<|laT Z<|nG<|aR<|rB<|rT<|rT<|rB<|rT ?_
    refine eBo trivial ?_
    unfold usedB
    rw [any_yes (p := hUses ch) hk (by unfold hUses;simp_all)];rfl
   ·intro h3
    refine aK<|gB<|gT<|aL<|lgI Z<|lmI Z<|nG ?_
    refine ⟨k + 1,⟨hk,all_succ (p := hUses ch) hk hall (by unfold hUses;simp_all)⟩,by omega,⟨(iq rfl),trivial⟩,trivial,rfl,rfl⟩
 ·intro h1
  refine aE<|eT<|eT<|eB<|gT<|aS<|sL<|lf 5 ty.F27_5 Z<|loL ty.kd25 Z<|lnI ty.sl25 Z<|lmI Z<|lT [1,4,28,29,30] [2002] ?_
  refine nG<|aB ?_
  have hno : x.htlcs.any (hUses ch) = false := any_no fun j hj => hall j hj (by have h := h1;simp only [length_rowsOf,decide_eq_false_iff_not] at h;omega)
  clear hall hkl
  refine aW [1,4,28,29] [2002] (D := Nat) (fun k => [(30,int (k : Int))]) (fun k => []) (fun k => k ≤ x.circles.length ∧ ∀ j (h : j < x.circles.length),j < k → cUses ch x.circles[j] = false) (fun k => x.circles.length - k) (0) (⟨Nat.zero_le _,fun j _ h => absurd h (by omega)⟩) ⟨rfl,trivial⟩ trivial ?_
  intro k hI
  obtain ⟨hkl,hall⟩ := hI
  refine sL<|lbB Z<|nG<|aS ?_
  refine AW.cond rfl ?_ ?_
  ·intro h4
   refine aK<|gT<|aS<|aB<|sL ?_
   have hk : k < x.circles.length := by simpa [length_rowsOf] using h4
   refine li k ty.el25 Z (row_map hk)<|lrX (.agg [vI _ _,vI _ _,vI _ _,vI _ _,vI _ _]) ty.kd78 Z<|lst (zA 2008 ty.ze78 Z) Z<|lst (zB 2008 ty.co78 ty.inf78 Z) Z<|nA<|lf 1 ty.F78_1 Z<|loI ty.kd3 Z<|lmI Z<|lbB Z<|lmB Z ?_
   refine AL.bool (t := 38) rfl ?_ ?_
   ·intro h5
    refine lno Z<|lno Z<|lno Z<|lno Z<|lkT Z<|nG<|aY Z<|sL<|laT Z<|nG<|aR<|rB<|rT<|rT<|rB<|rT ?_
    refine eBo trivial ?_
    unfold usedB
    rw [any_yes (p := cUses ch) hk (by unfold cUses;simp_all),Bool.or_true]
   ·intro h5
    refine lf 2 ty.F78_2 Z<|loI ty.kd3 Z<|lmI Z<|lbB Z<|lkB Z<|nG ?_
    refine AW.cond rfl ?_ ?_
    ·intro h6
     refine sL<|laT Z<|nG<|aR<|rB<|rT<|rT<|rB<|rT ?_
     refine eBo trivial ?_
     unfold usedB
     rw [any_yes (p := cUses ch) hk (by unfold cUses;simp_all),Bool.or_true]
    ·intro h6
     refine aK<|gB<|gT<|aL<|lgI Z<|lmI Z<|nG ?_
     refine ⟨k + 1,⟨hk,all_succ (p := cUses ch) hk hall (by unfold cUses;simp_all)⟩,by omega,⟨(iq rfl),trivial⟩,trivial,rfl,rfl⟩
  ·intro h4
   refine aE<|eT<|eT<|eB<|gA<|laZ Z<|nG<|aR ?_
   refine eBo trivial ?_
   unfold usedB
   rw [hno,any_no (p := cUses ch) fun j hj => hall j hj (by have h := h4;simp only [length_rowsOf,decide_eq_false_iff_not] at h;omega)];rfl
theorem known_e (x : Book) (key : Int) (hmh : x.htlcs.length ≤ 1000000000) (hmc : x.circles.length ≤ 1000000000) : GC Tryz.prog 97 [bookV x,int key] [] (boo (knownB x key)) [] := by
 refine gi 4 Tryz.func97 rfl Tryz.ntmps97 rfl ?_
 intro L O w0
 refine sL<|lst (zX 2002 Z) Z<|laZ Z<|nA<|loX (.agg [vI _ _,vI _ _,vI _ _,vL _ _ _,vL _ _ _,vL _ _ _]) ty.kd27 Z<|lmI Z<|lst (zL Tryz.func101 (htlcAt_e x _ hmh) Z) Z<|lbB Z<|lmB Z ?_
 refine AL.bool (t := 9) rfl ?_ ?_
 ·intro h1
  refine lno Z<|lno Z<|lno Z<|lno Z<|lkT Z<|laT Z<|nG<|aR ?_
  refine eBo trivial ?_
  unfold knownB htlcAt circleAt
  first | (simp_all;done) | (simp_all;intros;omega)
 ·intro h1
  refine loX (.agg [vI _ _,vI _ _,vI _ _,vL _ _ _,vL _ _ _,vL _ _ _]) ty.kd27 Z<|lmI Z<|lst (zL Tryz.func105 (circleAt_e x _ hmc) Z) Z<|lbB Z<|lkB Z<|laB Z<|nG<|aR ?_
  refine eBo trivial ?_
  unfold knownB htlcAt circleAt
  first | (simp_all;done) | (simp_all;intros;omega)
theorem stwo_e (x : Book) (a b : Int) (hm : x.chans.length ≤ 1000000000) : GC Tryz.prog 111 [bookV x,int a,int b] [] (boo (two x.chans a b)) [] := by
 refine gi 6 Tryz.func111 rfl Tryz.ntmps111 rfl ?_
 intro L O w0
 refine sL<|lst (zX 2003 Z) Z<|laZ Z<|nA<|lmI Z<|lmI Z<|lbB Z<|lmB Z ?_
 refine AL.bool (t := 10) rfl ?_ ?_
 ·intro h1
  refine loX (.agg [vI _ _,vI _ _,vI _ _,vL _ _ _,vL _ _ _,vL _ _ _]) ty.kd27 Z<|lmI Z<|lst (zL Tryz.func55 (sAt_e x _ hm) Z) Z<|lbB Z<|lkB Z<|lmB Z ?_
  refine AL.bool (t := 16) rfl ?_ ?_
  ·intro h2
   refine loX (.agg [vI _ _,vI _ _,vI _ _,vL _ _ _,vL _ _ _,vL _ _ _]) ty.kd27 Z<|lmI Z<|lst (zL Tryz.func55 (sAt_e x _ hm) Z) Z<|lT [6,16,19] [2003] ?_
   refine lbB Z<|lkB Z<|laB Z<|nG<|aR ?_
   refine eBo trivial ?_
   unfold two
   rw [chanAt_atI,chanAt_atI]
   first | (simp_all;done) | (simp_all;intros;omega)
  ·intro h2
   refine lno Z<|lno Z<|lno Z<|lno Z<|lkZ Z<|laZ Z<|nG<|aR ?_
   refine eBo trivial ?_
   unfold two
   rw [chanAt_atI,chanAt_atI]
   first | (simp_all;done) | (simp_all;intros;omega)
 ·intro h1
  refine lno Z<|lno Z<|lno Z<|lno Z<|lkZ Z<|lmZ Z<|lno Z<|lno Z<|lno Z<|lno Z<|lkZ Z<|laZ Z<|nG<|aR ?_
  refine eBo trivial ?_
  unfold two
  rw [chanAt_atI,chanAt_atI]
  first | (simp_all;done) | (simp_all;intros;omega)
theorem standing_e (n : Int) (g : Bool) : GC Tryz.prog 134 [int n,boo g] [] (boo (standing n g)) [] := GC.of_vals (r := .bool (standing n g)) (RV.v_mk rfl) rfl fun w => (impl_Standing_c n g w).mono fun e w' h => ⟨h.1,h.2 ▸ Grow.refl _⟩
theorem allow_e (a b c d e f : Int) (g : Bool) : GC Tryz.prog 133 [int a,int b,int c,int d,int e,int f,boo g] [] (int (allow a b c d e f g)) [] := GC.of_vals (r := .int .i64 (allow a b c d e f g)) (RV.v_mk rfl) rfl fun w => impl_Allow_c a b c d e f g w
theorem sallow_e (a b c d e f : Int) (g : Bool) : GC Tryz.prog 137 [int a,int b,int c,int d,int e,int f,boo g] [] (int (allow a b c d e f g)) [] := GC.of_vals (r := .int .i64 (allow a b c d e f g)) (RV.v_mk rfl) rfl fun w => spec_Allow_c a b c d e f g w
theorem scUp_e (n : Int) : GC Tryz.prog 102 [int n] [] (int (scoreUp n)) [] := GC.of_vals (r := .int .i64 (scoreUp n)) (RV.v_mk rfl) rfl fun w => (impl_ScoreUp_c n w).mono fun e w' h => ⟨h.1,h.2 ▸ Grow.refl _⟩
theorem scDown_e (n : Int) : GC Tryz.prog 103 [int n] [] (int (scoreDown n)) [] := GC.of_vals (r := .int .i64 (scoreDown n)) (RV.v_mk rfl) rfl fun w => (impl_ScoreDown_c n w).mono fun e w' h => ⟨h.1,h.2 ▸ Grow.refl _⟩
theorem scFade_e (n : Int) : GC Tryz.prog 104 [int n] [] (int (fade n)) [] := GC.of_vals (r := .int .i64 (fade n)) (RV.v_mk rfl) rfl fun w => (impl_ScoreFade_c n w).mono fun e w' h => ⟨h.1,h.2 ▸ Grow.refl _⟩
theorem sscoreOk_e (n : Int) : GC Tryz.prog 78 [int n] [] (boo (scoreOk n)) [] := GC.of_vals (r := .bool (scoreOk n)) (RV.v_mk rfl) rfl fun w => (spec_ScoreOk_c n w).mono fun e w' h => ⟨h.1,h.2 ▸ Grow.refl _⟩
theorem scoreOk_iff {n : Int} : scoreOk n = true ↔ -100 ≤ n ∧ n ≤ 100 := inB_true
theorem sclamp_e (n lo hi : Int) : GC Tryz.prog 128 [int n,int lo,int hi] [] (int (clampV n lo hi)) [] := by
 refine gi 6 Tryz.func128 rfl Tryz.ntmps128 rfl ?_
 intro L O w0
 refine sL<|laI Z<|nG<|aS<|sL<|lmI Z<|lmI Z<|lbB Z<|nG ?_
 refine AW.cond rfl ?_ ?_
 ·intro h1
  refine sL<|lmI Z<|laI Z<|nG<|aR<|rT ?_
  refine end_ret ?_ trivial
  refine congrArg (fun n => some (int n)) ?_
  unfold clampV
  simp only [decide_eq_true_eq,decide_eq_false_iff_not] at *
  (repeat' split) <;> omega
 ·intro h1
  refine aK<|gT<|aS<|sL<|lmI Z<|lmI Z<|lbB Z<|nG ?_
  refine AW.cond rfl ?_ ?_
  ·intro h2
   refine sL<|lmI Z<|laI Z<|nG<|aR<|rT ?_
   refine end_ret ?_ trivial
   refine congrArg (fun n => some (int n)) ?_
   unfold clampV
   simp only [decide_eq_true_eq,decide_eq_false_iff_not] at *
   (repeat' split) <;> omega
  ·intro h2
   refine aK<|gA<|lmI Z<|laI Z<|nG<|aR ?_
   refine end_ret ?_ trivial
   refine congrArg (fun n => some (int n)) ?_
   unfold clampV
   simp only [decide_eq_true_eq,decide_eq_false_iff_not] at *
   (repeat' split) <;> omega
theorem sstanding_e (n : Int) (g : Bool) : GC Tryz.prog 138 [int n,boo g] [] (boo (standing n g)) [] := by
 refine gi 4 Tryz.func138 rfl Tryz.ntmps138 rfl ?_
 intro L O w0
 refine sL<|laZ Z<|nA<|lmI Z<|lst (zL Tryz.func78 (sscoreOk_e _) Z) Z<|lmB Z ?_
 refine AL.bool (t := 7) rfl ?_ ?_
 ·intro h1
  refine lmI Z<|lbB Z<|lkB Z<|lmB Z ?_
  refine AL.bool (t := 11) rfl ?_ ?_
  ·intro h2
   refine lmB Z<|lkB Z<|laB Z<|nG<|aR ?_
   refine eBo trivial ?_
   unfold standing
   first | (simp_all;done) | (simp_all;intros;omega)
  ·intro h2
   refine lno Z<|lkZ Z<|laZ Z<|nG<|aR ?_
   refine eBo trivial ?_
   unfold standing
   first | (simp_all;done) | (simp_all;intros;omega)
 ·intro h1
  refine lno Z<|lno Z<|lkZ Z<|lmZ Z<|lno Z<|lkZ Z<|laZ Z<|nG<|aR ?_
  refine eBo trivial ?_
  unfold standing
  first | (simp_all;done) | (simp_all;intros;omega)
theorem sscUp_e (n : Int) : GC Tryz.prog 115 [int n] [] (int (scoreUp n)) [] := by
 refine gi 2 Tryz.func115 rfl Tryz.ntmps115 rfl ?_
 intro L O w0
 refine sL<|laI Z<|nG<|aS<|sL<|lmI Z<|lst (zL Tryz.func78 (sscoreOk_e _) Z) Z<|luB Z<|nG ?_
 refine AW.cond rfl ?_ ?_
 ·intro h1
  refine sL<|laI Z<|nG<|aR<|rT ?_
  refine end_ret ?_ trivial
  refine congrArg (fun n => some (int n)) ?_
  unfold scoreUp
  have hs : ¬ (-100 ≤ n ∧ n ≤ 100) := fun q => by rw [scoreOk_iff.2 q] at h1;cases h1
  rw [if_neg hs]
 ·intro h1
  refine aK<|gA<|lmI Z ?_
  refine lhI rfl ⟨rfl,fits_i64 (by have hs := scoreOk_iff.1 (by simpa using h1 : scoreOk n = true);unfold i64;omega)⟩<|lst (zL Tryz.func128 (sclamp_e _ _ _) rfl) Z<|laI Z<|nG<|aR ?_
  refine end_ret ?_ trivial
  refine congrArg (fun n => some (int n)) ?_
  unfold scoreUp
  try unfold clampV
  have hs := scoreOk_iff.1 (by simpa using h1 : scoreOk n = true)
  rw [if_pos hs]
  try simp only [decide_eq_true_eq,decide_eq_false_iff_not] at *
  (repeat' split) <;> omega
theorem sscDown_e (n : Int) : GC Tryz.prog 116 [int n] [] (int (scoreDown n)) [] := by
 refine gi 2 Tryz.func116 rfl Tryz.ntmps116 rfl ?_
 intro L O w0
 refine sL<|laI Z<|nG<|aS<|sL<|lmI Z<|lst (zL Tryz.func78 (sscoreOk_e _) Z) Z<|luB Z<|nG ?_
 refine AW.cond rfl ?_ ?_
 ·intro h1
  refine sL<|laI Z<|nG<|aR<|rT ?_
  refine end_ret ?_ trivial
  refine congrArg (fun n => some (int n)) ?_
  unfold scoreDown
  have hs : ¬ (-100 ≤ n ∧ n ≤ 100) := fun q => by rw [scoreOk_iff.2 q] at h1;cases h1
  rw [if_neg hs]
 ·intro h1
  refine aK<|gA<|lmI Z ?_
  refine lhI rfl ⟨rfl,fits_i64 (by have hs := scoreOk_iff.1 (by simpa using h1 : scoreOk n = true);unfold i64;omega)⟩<|lst (zL Tryz.func128 (sclamp_e _ _ _) rfl) Z<|laI Z<|nG<|aR ?_
  refine end_ret ?_ trivial
  refine congrArg (fun n => some (int n)) ?_
  unfold scoreDown
  try unfold clampV
  have hs := scoreOk_iff.1 (by simpa using h1 : scoreOk n = true)
  rw [if_pos hs]
  try simp only [decide_eq_true_eq,decide_eq_false_iff_not] at *
  (repeat' split) <;> omega
theorem sscFade_e (n : Int) : GC Tryz.prog 117 [int n] [] (int (fade n)) [] := by
 refine gi 2 Tryz.func117 rfl Tryz.ntmps117 rfl ?_
 intro L O w0
 refine sL<|laI Z<|nG<|aS<|sL<|lmI Z<|lst (zL Tryz.func78 (sscoreOk_e _) Z) Z<|luB Z<|lmB Z ?_
 refine AL.bool (t := 6) rfl ?_ ?_
 ·intro h1
  refine lno Z<|lno Z<|lkT Z<|nG<|aY Z<|sL<|laI Z<|nG<|aR<|rT ?_
  refine end_ret ?_ trivial
  refine congrArg (fun n => some (int n)) ?_
  unfold fade
  have hs : ¬ (-100 ≤ n ∧ n ≤ 100) := fun q => by rw [scoreOk_iff.2 q] at h1;cases h1
  rw [if_neg hs]
 ·intro h1
  refine lmI Z<|lbB Z<|lkB Z<|nG ?_
  refine AW.cond rfl ?_ ?_
  ·intro h2
   refine sL<|laI Z<|nG<|aR<|rT ?_
   refine end_ret ?_ trivial
   refine congrArg (fun n => some (int n)) ?_
   unfold fade
   try unfold clampV
   have hs := scoreOk_iff.1 (by simpa using h1 : scoreOk n = true)
   rw [if_pos hs]
   try simp only [decide_eq_true_eq,decide_eq_false_iff_not] at *
   (repeat' split) <;> omega
  ·intro h2
   refine aK<|gT<|aS<|sL<|lmI Z<|lbB Z<|nG ?_
   refine AW.cond rfl ?_ ?_
   ·intro h3
    refine sL<|lmI Z ?_
    refine lhI rfl ⟨rfl,fits_i64 (by have hs := scoreOk_iff.1 (by simpa using h1 : scoreOk n = true);unfold i64;omega)⟩<|laI Z<|nG<|aR<|rT ?_
    refine end_ret ?_ trivial
    refine congrArg (fun n => some (int n)) ?_
    unfold fade
    try unfold clampV
    have hs := scoreOk_iff.1 (by simpa using h1 : scoreOk n = true)
    rw [if_pos hs]
    try simp only [decide_eq_true_eq,decide_eq_false_iff_not] at *
    (repeat' split) <;> omega
   ·intro h3
    refine aK<|gA<|lmI Z ?_
    refine lhI rfl ⟨rfl,fits_i64 (by have hs := scoreOk_iff.1 (by simpa using h1 : scoreOk n = true);unfold i64;omega)⟩<|laI Z<|nG<|aR ?_
    refine end_ret ?_ trivial
    refine congrArg (fun n => some (int n)) ?_
    unfold fade
    try unfold clampV
    have hs := scoreOk_iff.1 (by simpa using h1 : scoreOk n = true)
    rw [if_pos hs]
    try simp only [decide_eq_true_eq,decide_eq_false_iff_not] at *
    (repeat' split) <;> omega
theorem sroom_e (x : Book) (frm to : Chan) (amt : Int) (yes : Bool) (sm : SmallH x.htlcs) : GC Tryz.prog 113 [bookV x,.agg [int frm.id,int frm.size,int frm.loc,int frm.remote,int frm.base,int frm.ppm,int frm.score],.agg [int to.id,int to.size,int to.loc,int to.remote,int to.base,int to.ppm,int to.score],int amt,boo yes] [] (int (roomV x.htlcs frm to to.id amt yes)) [] := by
 refine gi 10 Tryz.func113 rfl Tryz.ntmps113 rfl ?_
 intro L O w0
 refine sL<|lst (zX 2005 Z) Z<|lst (zX 2006 Z) Z<|lst (zX 2007 Z) Z<|laI Z<|nA<|laI Z<|nA<|laI Z<|nA<|laI Z<|nA<|laI Z<|nG<|aS<|aS ?_
 refine aL<|lf 4 ty.F27_4 Z<|loL ty.kd24 Z<|lnI ty.sl24 Z<|lmI Z<|nG<|aB ?_
 refine aW [3,4,6,7,10,18,19] [2005,2006,2007] (D := Nat) (fun k => [(11,int (tot (hFew to.id) (x.htlcs.take k))),(12,int (tot (hOut to.id) (x.htlcs.take k))),(13,int (tot (hOneF to.id) (x.htlcs.take k))),(14,int (tot (hOne to.id) (x.htlcs.take k))),(20,int (k : Int))]) (fun k => []) (fun k => k ≤ x.htlcs.length) (fun k => x.htlcs.length - k) (0) (Nat.zero_le _) ⟨rfl,rfl,rfl,rfl,rfl,trivial⟩ trivial ?_
 intro k hI
 have b0 := sm.1
 have b1 := sm.few to.id k
 have b2 := sm.all to.id k
 have b3 := sm.oneF to.id k
 have b4 := sm.one to.id k
 refine sL<|lbB Z<|nG<|aS ?_
 refine AW.cond rfl ?_ ?_
 ·intro h1
  refine aK<|gT<|aS<|aB<|sL ?_
  have hk : k < x.htlcs.length := by simpa [length_rowsOf] using h1
  have b5 := sm.at hk
  refine li k ty.el24 Z (row_map hk)<|lrX (.agg [vI _ _,vI _ _,vI _ _,vI _ _,vI _ _,vB _,vI _ _]) ty.kd68 Z<|lst (zA 2016 ty.ze68 Z) Z<|lT [3,4,6,7,10,11,12,13,14,16,18,19,20,23] [2005,2006,2007,2016] ?_
  refine lst (zB 2016 ty.co68 ty.inf68 Z) Z<|nG<|aS<|sL<|lf 2 ty.F68_2 Z<|loI ty.kd3 Z<|lf 0 ty.F40_0 Z<|loI ty.kd3 Z<|lbB Z<|nG ?_
  refine AW.cond rfl ?_ ?_
  ·intro h2
   refine aE<|eT<|eB<|gT<|aL<|lgI Z<|lmI Z<|nG ?_
   refine ⟨k + 1,hk,by omega,⟨(congrArg int (tot_skip hk (by have h := h2;simp only [Bool.not_eq_true',decide_eq_false_iff_not,decide_eq_true_eq] at h;unfold hFew;simp [h])).symm),(congrArg int (tot_skip hk (by have h := h2;simp only [Bool.not_eq_true',decide_eq_false_iff_not,decide_eq_true_eq] at h;unfold hOut;simp [h])).symm),(congrArg int (tot_skip hk (by have h := h2;simp only [Bool.not_eq_true',decide_eq_false_iff_not,decide_eq_true_eq] at h;unfold hOneF;simp [h])).symm),(congrArg int (tot_skip hk (by have h := h2;simp only [Bool.not_eq_true',decide_eq_false_iff_not,decide_eq_true_eq] at h;unfold hOne;simp [h])).symm),(iq rfl),trivial⟩,trivial,rfl,rfl⟩
  ·intro h2
   refine aK<|gA<|lmI Z<|lf 4 ty.F68_4 Z<|loI ty.kd3 Z<|lgI Z<|laI Z<|nA<|lmI Z<|lgI Z<|laI Z<|nA<|lf 5 ty.F68_5 Z<|loB ty.kd4 Z<|luB Z<|nG ?_
   refine AW.cond rfl ?_ ?_
   ·intro h3
    refine sL<|lmI Z<|lf 4 ty.F68_4 Z<|loI ty.kd3 Z<|lgI Z<|laI Z<|nG<|aL<|lmI Z<|lgI Z<|laI Z<|lN<|gB<|gT<|aL<|lgI Z<|lmI Z<|nG ?_
    have he : x.htlcs[k].out = to.id := by simpa using h2
    have hkp : x.htlcs[k].kept = false := by simpa using h3
    refine ⟨k + 1,hk,by omega,⟨(Eq.trans (b := int _) rfl (congrArg int (tot_add hk (by unfold hFew;simp [he,hkp])))),(Eq.trans (b := int _) rfl (congrArg int (tot_add hk (by unfold hOut;simp [he,hkp])))),(Eq.trans (b := int _) rfl (congrArg int (tot_add hk (by unfold hOneF;simp [he,hkp])))),(Eq.trans (b := int _) rfl (congrArg int (tot_add hk (by unfold hOne;simp [he,hkp])))),(iq rfl),trivial⟩,trivial,rfl,rfl⟩
   ·intro h3
    refine aK<|gB<|gT<|aL<|lgI Z<|lT [3,4,6,7,10,11,12,13,14,18,19,20,44] [2005,2006,2007,2016] ?_
    refine lmI Z<|nG ?_
    have he : x.htlcs[k].out = to.id := by simpa using h2
    have hkp : x.htlcs[k].kept = true := by simpa using h3
    refine ⟨k + 1,hk,by omega,⟨(congrArg int (tot_skip hk (by unfold hFew;simp [he,hkp])).symm),(Eq.trans (b := int _) rfl (congrArg int (tot_add hk (by unfold hOut;simp [he,hkp])))),(congrArg int (tot_skip hk (by unfold hOneF;simp [he,hkp])).symm),(Eq.trans (b := int _) rfl (congrArg int (tot_add hk (by unfold hOne;simp [he,hkp])))),(iq rfl),trivial⟩,trivial,rfl,rfl⟩
 ·intro h1
  refine aE<|eT<|eT<|eB<|gT<|aS<|aG 12 []<|tq 0 (rf 1 ty.F40_1 Z)<|tq 1 (roI ty.kd3 Z)<|tq 2 (rmI Z)<|tq 3 (rmI Z)<|tq 4 (rmI Z)<|tq 5 (rmI Z)<|tq 6 (rmI Z)<|tq 7 (rf 6 ty.F40_6 Z)<|tq 8 (roI ty.kd3 Z)<|yq 9 (rmB Z)<|yst 10 Z (zL Tryz.func138 (sstanding_e _ _) Z)<|yst 11 Z (zL Tryz.func137 (sallow_e _ _ _ _ _ _ _) Z)<|yq 12 (raI Z)<|gD<|gT<|aR ?_
  refine end_ret ?_ trivial
  refine congrArg (fun n => some (int n)) ?_
  have hke : k = x.htlcs.length := by have h := h1;simp only [length_rowsOf,decide_eq_false_iff_not] at h;omega
  subst hke
  unfold roomV
  rw [List.take_length]

def insL : List Line → Line → List Line
  | [],x => [x]
  | y :: l,x => if lessA y.acc x.acc then y :: insL l x else x :: y :: l
def addL (l : List Line) (k c n : Int) : List Line := if n = 0 then l else insL l ⟨⟨k,c⟩,n⟩
theorem mem_insL {y x : Line} : ∀ {l : List Line},y ∈ insL l x → y ∈ l ∨ y = x
  | [],h => by simp [insL] at h;exact .inr h
  | z :: l,h => by
    unfold insL at h
    split at h
    · rcases List.mem_cons.1 h with h | h
      · exact .inl (by simp [h])
      · rcases mem_insL h with h | h
        · exact .inl (by simp [h])
        · exact .inr h
    · rcases List.mem_cons.1 h with h | h
      · exact .inr h
      · exact .inl h
theorem insL_length (x : Line) : ∀ (l : List Line),(insL l x).length = l.length + 1
  | [] => rfl
  | z :: l => by unfold insL;split <;> simp [insL_length x l]
theorem mem_addL {y : Line} {l : List Line} {k c n : Int} (h : y ∈ addL l k c n) : y ∈ l ∨ (y.acc.kind = k ∧ y.acc.ch = c ∧ y.amt = n) := by
  unfold addL at h
  split at h
  · exact .inl h
  · rcases mem_insL h with h | rfl
    · exact .inl h
    · exact .inr ⟨rfl,rfl,rfl⟩
structure LG (l : List Line) (m : Nat) : Prop where
  len : l.length ≤ m
  rng : ∀ y ∈ l,rangeA y.amt = true
def Fresh (l : List Line) (k c : Int) : Prop := ∀ y ∈ l,¬ (y.acc.kind = k ∧ y.acc.ch = c)
theorem LG.nil : LG [] 0 := ⟨Nat.le_refl _,by simp⟩
theorem LG.add {l : List Line} {m : Nat} {k c n : Int} (h : LG l m) (hn : rangeA n = true) : LG (addL l k c n) (m + 1) := by
  refine ⟨?_,fun y hy => ?_⟩
  · unfold addL
    split
    · have := h.len;omega
    · rw [insL_length];have := h.len;omega
  · rcases mem_addL hy with q | q
    · exact h.rng y q
    · rw [q.2.2];exact hn
theorem Fresh.nil (k c : Int) : Fresh [] k c := by simp [Fresh]
theorem Fresh.add {l : List Line} {k c k' c' n : Int} (h : Fresh l k c) (hd : k' ≠ k ∨ c' ≠ c) : Fresh (addL l k' c' n) k c := fun y hy q => by
  rcases mem_addL hy with r | r
  · exact h y r q
  · omega
theorem lessA_or {a b : Acc} (h : ¬ (a.kind = b.kind ∧ a.ch = b.ch)) (h2 : lessA a b = false) : lessA b a = true := by
  unfold lessA at *
  simp only [Bool.or_eq_false_iff,Bool.and_eq_false_iff,decide_eq_false_iff_not,beq_eq_false_iff_ne,Bool.or_eq_true,Bool.and_eq_true,decide_eq_true_eq,beq_iff_eq] at *
  omega
theorem merge_one {x : Line} : ∀ {l : List Line},Fresh l x.acc.kind x.acc.ch → mergeL l [x] = some (insL l x)
  | [],_ => by rw [mergeL_nil];rfl
  | y :: l,h => by
    have hy := h y (by simp)
    unfold insL
    by_cases q : lessA y.acc x.acc = true
    · rw [mergeL_lt q,merge_one (fun z hz => h z (by simp [hz])),if_pos q];rfl
    · have q' : lessA y.acc x.acc = false := by simpa using q
      rw [mergeL_gt q' (lessA_or hy q'),mergeL_nil2,if_neg q];rfl
abbrev wBox (g : Value) (t n w c : Int) : AO := .box 84 (some g) [int t,int n,int w,.own 1,.own 2,.own 3,.own 4,int c]
def failC (is : Bool) (c k : Int) : Int := if is && (c == 0) then k else c
theorem failC_old {is : Bool} {c k : Int} (h : c ≠ 0) : failC is c k = c := by unfold failC;simp [h]
abbrev cAr (u : Value) (l : List Chan) : AO := .arr ⟨40,some u⟩ 7 (rowsOf encChan l)
abbrev hAr (l : List Htlc) : AO := .arr 68 7 (rowsOf encHtlc l)
abbrev iAr (l : List Circle) : AO := .arr 78 5 (rowsOf encCircle l)
abbrev lAr (l : List Line) : AO := .arr 120 3 (rowsOf encLine l)
theorem rows_some {α : Type} {enc : α → List Value} {l : List α} {i : Nat} {c : α} (h : l[i]? = some c) : (rowsOf enc l)[i]? = some ((enc c).map PV.v) := by unfold rowsOf;rw [List.getElem?_map,h];rfl
theorem rows_set {α : Type} {enc : α → List Value} {l : List α} {i : Nat} {c : α} : (rowsOf enc l).set i ((enc c).map PV.v) = rowsOf enc (l.set i c) := by unfold rowsOf;rw [List.map_set]
theorem rows_take {α : Type} {enc : α → List Value} {l : List α} {k : Nat} : (rowsOf enc l).take k = rowsOf enc (l.take k) := by unfold rowsOf;rw [List.map_take]
theorem rows_drop {α : Type} {enc : α → List Value} {l : List α} {k : Nat} : (rowsOf enc l).drop k = rowsOf enc (l.drop k) := by unfold rowsOf;rw [List.map_drop]
theorem fail_e (g : Value) (t n w c : Int) (p1 : Pin) (s1 : Nat) (r1 : List (List PV)) (p2 : Pin) (s2 : Nat) (r2 : List (List PV)) (p3 : Pin) (s3 : Nat) (r3 : List (List PV)) (p4 : Pin) (s4 : Nat) (r4 : List (List PV)) (is : Bool) (k : Int) : GC Tryz.prog 95 [.ptr 0 0 0,boo is,int k] [(0,wBox g t n w c),(1,.arr p1 s1 r1),(2,.arr p2 s2 r2),(3,.arr p3 s3 r3),(4,.arr p4 s4 r4)] (.tup []) [(0,wBox g t n w (failC is c k)),(1,.arr p1 s1 r1),(2,.arr p2 s2 r2),(3,.arr p3 s3 r3),(4,.arr p4 s4 r4)] := by
 refine GC.intro (rs := []) Tryz.func95 rfl Tryz.ntmps95 (Nat.le_of_ble_eq_true rfl) trivial ?_
 intro L O w0
 refine sL<|lmB Z<|lmB Z ?_
 refine AL.bool (t := 7) rfl ?_ ?_
 ·intro h1
  refine lmP Z<|lc Z<|lf 7 ty.F84_2 Z<|loI ty.kd3 Z<|lbB Z<|lkB Z<|nG ?_
  refine AW.cond rfl ?_ ?_
  ·intro h2
   refine aL<|lmP Z<|lmI Z<|lc Z<|lf 7 ty.F84_2 Z<|lst (zB 0 ty.co3 ty.inf3 Z) Z<|lN ?_
   refine end_go rfl ⟨?_,rfl,rfl,rfl,rfl,trivial⟩
   exact Eq.trans (b := wBox g t n w _) rfl (congrArg (wBox g t n w) (by unfold failC;simp_all))
  ·intro h2
   refine aK ?_
   refine end_go rfl ⟨?_,rfl,rfl,rfl,rfl,trivial⟩
   exact Eq.trans (b := wBox g t n w _) rfl (congrArg (wBox g t n w) (by unfold failC;simp_all))
 ·intro h1
  refine lno Z<|lno Z<|lno Z<|lno Z<|lno Z<|lkZ Z<|nG<|aN Z<|aK ?_
  refine end_go rfl ⟨?_,rfl,rfl,rfl,rfl,trivial⟩
  exact Eq.trans (b := wBox g t n w _) rfl (congrArg (wBox g t n w) (by unfold failC;simp_all))
theorem merged_one_e (l : List Line) (x : Line) (m : Nat) (hl : LG l m) (hm : m ≤ 1000) (hf : Fresh l x.acc.kind x.acc.ch) (hx : rangeA x.amt = true) : GC Tryz.prog 89 [.p (.lst 120 3 (rowsOf encLine l)),.p (.lst 120 3 (rowsOf encLine [x]))] [] (.tup [.own 50,boo true]) [(50,lAr (insL l x))] :=
 (merged_e l [x] (by have := hl.len;simp;omega) hl.rng (by simpa using hx)).gc fun y o h => by unfold mgR at h;rw [merge_one hf] at h;exact h
theorem addL_zero {l : List Line} {k c n : Int} (h : n = 0) : addL l k c n = l := if_pos h
theorem addL_pos {l : List Line} {k c n : Int} (h : ¬ n = 0) : addL l k c n = insL l ⟨⟨k,c⟩,n⟩ := if_neg h
theorem line_e (g : Value) (t n w c : Int) (p1 : Pin) (s1 : Nat) (r1 : List (List PV)) (p2 : Pin) (s2 : Nat) (r2 : List (List PV)) (p3 : Pin) (s3 : Nat) (r3 : List (List PV)) (l : List Line) (m : Nat) (hl : LG l m) (hm : m ≤ 1000) (k cc nn : Int) (hf : Fresh l k cc) (hn : rangeA nn = true) : GC Tryz.prog 40 [.ptr 0 0 0,int k,int cc,int nn] [(0,wBox g t n w c),(1,.arr p1 s1 r1),(2,.arr p2 s2 r2),(3,.arr p3 s3 r3),(4,lAr l)] (.tup []) [(0,wBox g t n w c),(1,.arr p1 s1 r1),(2,.arr p2 s2 r2),(3,.arr p3 s3 r3),(4,lAr (addL l k cc nn))] := by
 refine GC.intro (rs := []) Tryz.func40 rfl Tryz.ntmps40 (Nat.le_of_ble_eq_true rfl) trivial ?_
 intro L O w0
 refine sL<|lmI Z<|lbB Z<|nG ?_
 refine AW.cond rfl ?_ ?_
 ·intro h1
  refine aL<|lmP Z<|lmP Z<|lc Z<|lf 6 ty.F84_1 Z<|loO ty.kd32 Z<|lmI Z<|lmI Z<|lq (rd (x := .agg [vI _ _,vI _ _]) (rd_build Z ty.sa110 Z Z Z) Z)<|lmI Z<|lq (rd (x := .agg [vI _ _,vI _ _,vI _ _]) (rd_build Z ty.sa120 Z Z Z) Z) ?_
  refine lst (zS 2021 (rowsOf encLine [⟨⟨k,cc⟩,nn⟩]) ty.el32 ty.ze120 rfl) rfl ?_
  refine AL.freeze 4 rfl ?_
  refine AL.freeze 2021 rfl ?_
  refine lst (zC [(50,4)] [4] [] Tryz.func89 (merged_one_e l ⟨⟨k,cc⟩,nn⟩ m hl hm hf hn) (trivial) rfl rfl) Z<|lT [11,22] [0,1,2,3,4] ?_
  refine lmX (.tup [.own _,vB true]) Z<|lxO Z<|lxX (vB true) Z<|lc Z<|lf 6 ty.F84_1 Z<|lst (zB 0 ty.co32 ty.inf32 Z) Z<|lN ?_
  refine end_go ?_ ⟨rfl,rfl,rfl,rfl,(congrArg lAr (addL_pos (by simpa using h1)).symm),trivial⟩
  rfl
 ·intro h1
  refine aK ?_
  refine end_go ?_ ⟨rfl,rfl,rfl,rfl,(congrArg lAr (addL_zero (by simpa using h1)).symm),trivial⟩
  rfl
abbrev wIn (g u : Value) (x : Book) (l : List Line) (c : Int) : List (Nat × AO) := [(0,wBox g x.tick x.next x.wallet c),(1,cAr u x.chans),(2,hAr x.htlcs),(3,iAr x.circles),(4,lAr l)]
structure WR where
  b : Book
  l : List Line
  c : Int
abbrev wOut (g : Value) (r : WR) : List (Nat × AO) := [(0,wBox g r.b.tick r.b.next r.b.wallet r.c),(1,.arr 40 7 (rowsOf encChan r.b.chans)),(2,hAr r.b.htlcs),(3,iAr r.b.circles),(4,lAr r.l)]
abbrev evV (e : Event) : AV := .agg [int e.kind,int e.key,int e.ch,int e.to,int e.amt,int e.fee,boo e.yes]
abbrev chV (c : Chan) : AV := .agg [int c.id,int c.size,int c.loc,int c.remote,int c.base,int c.ppm,int c.score]
def zeroChan : Chan := ⟨0,0,0,0,0,0,0⟩
def chanOr (l : List Chan) (ch : Int) : Chan := (l.find? fun c => c.id == ch).getD zeroChan
theorem chan_find (l : List Chan) (ch : Int) : (chanAt l ch = -1 ∧ chanOr l ch = zeroChan) ∨ ∃ (i : Nat) (c : Chan),chanAt l ch = (i : Int) ∧ l[i]? = some c ∧ chanOr l ch = c ∧ c.id = ch := by
  unfold chanAt chanOr
  cases h : l.findIdx? (fun c => c.id == ch) with
  | none =>
    refine .inl ⟨rfl,?_⟩
    have : l.find? (fun c => c.id == ch) = none := by
      rw [List.find?_eq_none]
      intro x hx
      have := List.findIdx?_eq_none_iff.1 h x hx
      simpa using this
    rw [this];rfl
  | some i =>
    obtain ⟨h1,h2,h3⟩ := List.findIdx?_eq_some_iff_getElem.1 h
    refine .inr ⟨i,l[i],rfl,List.getElem?_eq_getElem h1,?_,by simpa using h2⟩
    have : l.find? (fun c => c.id == ch) = some l[i] := by
      rw [List.find?_eq_some_iff_getElem]
      exact ⟨h2,i,h1,rfl,fun j hj => by simpa using h3 j hj⟩
    rw [this];rfl
theorem failC_keep {b : Bool} {c k : Int} (h : c ≠ 0) : failC b c k ≠ 0 := by rw [failC_old h];exact h
theorem failC_set {c k : Int} (h : k ≠ 0) : failC true c k ≠ 0 := by
  unfold failC
  by_cases q : c = 0
  · simp [q,h]
  · simp [q]
theorem ch_some (g u : Value) (x : Book) (l : List Line) (c id : Int) (hm : x.chans.length ≤ 1000000000) (i : Nat) (cc : Chan) (hi : chanAt x.chans id = (i : Int)) (hc : x.chans[i]? = some cc) : GC Tryz.prog 43 [.ptr 0 0 0,int id] (wIn g u x l c) (.ptr 1 i 0) (wIn g u x l c) := by
 refine gi 4 Tryz.func43 rfl Tryz.ntmps43 rfl ?_
 intro L O w0
 refine sL<|laV Z<|nA<|lmP Z<|lc Z<|lf 0 ty.F84_0 Z<|loX (.agg [vI _ _,vI _ _,vI _ _,.own _,.own _,.own _]) ty.kd27 Z<|lmI Z<|lst (zL Tryz.func69 (chanAt_e x _ hm) rfl) Z<|laI Z<|nG<|aS<|sL<|lmI Z<|lbB Z<|lsB 13 false rfl (by rw [← chanAt_atI,hi];simp)<|nG<|aN Z<|aK<|gA<|lmP rfl ?_
 refine lc Z<|lf 0 ty.F84_0 Z<|lf 3 ty.F27_3 Z<|loO ty.kd23 Z<|lmI Z<|lq (rd (x := .ptr 1 _ 0) (rd_iaddr_own (i := i) rfl ty.el23 rfl rfl rfl ?hn1 (by rw [length_rowsOf];exact (List.getElem?_eq_some_iff.1 hc).1)) rfl) ?_
 case hn1 => rw [← chanAt_atI];exact hi
 refine laP Z<|nG<|aR ?_
 refine end_ret ?_ ⟨rfl,rfl,rfl,rfl,rfl,trivial⟩
 rfl
theorem ch_none (g u : Value) (x : Book) (l : List Line) (c id : Int) (hm : x.chans.length ≤ 1000000000) (hi : chanAt x.chans id = -1) : GC Tryz.prog 43 [.ptr 0 0 0,int id] (wIn g u x l c) (.ptr 2017 0 0) (wIn g u x l (failC true c 6) ++ [(2017,.box 40 none ((encChan zeroChan).map fun c => .p (.v c)))]) := by
 refine gi 4 Tryz.func43 rfl Tryz.ntmps43 rfl ?_
 intro L O w0
 refine sL<|laV Z<|nA<|lmP Z<|lc Z<|lf 0 ty.F84_0 Z<|loX (.agg [vI _ _,vI _ _,vI _ _,.own _,.own _,.own _]) ty.kd27 Z<|lmI Z<|lst (zL Tryz.func69 (chanAt_e x _ hm) rfl) Z<|laI Z<|nG<|aS<|sL<|lmI Z<|lbB Z<|lsB 13 true rfl (by rw [← chanAt_atI,hi];simp)<|nG<|aY Z<|sL<|lmP rfl ?_
 refine lst (z5b Tryz.func95 (fail_e _ _ _ _ _ _ _ _ _ _ _ _ _ _ _ _ _ _ _ ) (⟨stays.box rfl,stays.arr rfl,trivial⟩) rfl rfl) Z<|nA<|lq (rd (x := .agg [vI _ _,vI _ _,vI _ _,vI _ _,vI _ _,vI _ _,vI _ _]) (rd_build rfl ty.sa40 rfl rfl rfl) rfl)<|lst (zX 2017 rfl) Z<|lT [0,4,5,17] [0,1,2,3,4,2017] ?_
 refine laP Z<|nG<|aR<|rT ?_
 refine end_ret ?_ ⟨rfl,rfl,rfl,rfl,rfl,rfl,trivial⟩
 rfl
theorem copyBook_e (x : Book) (hx : x.chans.length ≤ 1000000 ∧ x.htlcs.length ≤ 1000000 ∧ x.circles.length ≤ 1000000) : GC Tryz.prog 39 [bookV x] [] (.agg [int x.tick,int x.next,int x.wallet,.own 2005,.own 2009,.own 2013]) [(2005,.arr 40 7 (rowsOf encChan x.chans)),(2009,hAr x.htlcs),(2013,iAr x.circles)] := by
 refine GC.intro (rs := [.cell 2 27 (some 6)]) Tryz.func39 rfl Tryz.ntmps39 (Nat.le_of_ble_eq_true rfl) ⟨rfl,rfl,ty.kd27,trivial⟩ ?_
 intro L O w0
 refine sL<|lst (zX 2001 rfl) Z<|lst (zA 2002 ty.ze27 rfl) Z<|nA<|lf 3 ty.F27_3 Z<|loL ty.kd23 Z<|lst (St.app0 2005 rfl rfl (by decide) ty.el23 ty.ze40 rfl (by decide) rfl (Src.p rfl) (by simp [rowsOf,maxLen] at *;omega) (Nat.le_trans (Nat.mul_le_mul_left _ ty.by40) (by simp [rowsOf] at *;omega))) Z<|lf 3 ty.F27_3 Z<|lst (zB 2001 ty.co23 ty.inf23 rfl) Z<|nA<|lf 4 ty.F27_4 Z<|loL ty.kd24 Z<|lst (St.app0 2009 rfl rfl (by decide) ty.el24 ty.ze68 rfl (by decide) rfl (Src.p rfl) (by simp [rowsOf,maxLen] at *;omega) (Nat.le_trans (Nat.mul_le_mul_left _ ty.by68) (by simp [rowsOf] at *;omega))) Z<|lf 4 ty.F27_4 Z<|lst (zB 2001 ty.co24 ty.inf24 rfl) Z<|nA<|lf 5 ty.F27_5 Z<|loL ty.kd25 Z<|lst (St.app0 2013 rfl rfl (by decide) ty.el25 ty.ze78 rfl (by decide) rfl (Src.p rfl) (by simp [rowsOf,maxLen] at *;omega) (Nat.le_trans (Nat.mul_le_mul_left _ ty.by78) (by simp [rowsOf] at *;omega))) Z<|lT [1,2,13] [2001,2002,2005,2009,2013] ?_
 refine lf 5 ty.F27_5 Z<|lst (zB 2001 ty.co25 ty.inf25 Z) Z<|nA<|loX (.agg [vI _ _,vI _ _,vI _ _,.own _,.own _,.own _]) ty.kd27 Z<|lst (zB 2002 ty.co27 ty.inf27 Z) Z<|nG<|aR ?_
 refine end_ret ?_ ⟨rfl,rfl,rfl,trivial⟩
 rfl

def encBool (b : Bool) : List Value := [.bool b]
def hK (k : Int) : Bool := !decide (k = 1 ∨ k = 2 ∨ k = 3 ∨ k = 4 ∨ k = 8)
def hC (k : Int) : Bool := decide (k = 2 ∨ k = 3 ∨ k = 4 ∨ k = 5 ∨ k = 9)
def hT (k : Int) : Bool := decide (k = 5 ∨ k = 9)
def hA (k : Int) : Bool := decide (k = 1 ∨ k = 2 ∨ k = 4 ∨ k = 5 ∨ k = 9)
def hF (k : Int) : Bool := decide (k = 2 ∨ k = 3 ∨ k = 4 ∨ k = 9)
def hY (k : Int) : Bool := decide (k = 5)
def fieldB (has : Bool) (n lo hi : Int) : Bool := if has then inB n lo hi else n == 0
def eventOk (e : Event) : Bool := inB e.kind 1 11 && fieldB (hK e.kind) e.key 1 1000000 && fieldB (hC e.kind) e.ch 1 99 && fieldB (hT e.kind) e.to 1 99 && !(hT e.kind && e.ch == e.to) &&
  fieldB (hA e.kind) e.amt (if e.kind = 4 then 0 else 1) 1125899906842624 && fieldB (hF e.kind) e.fee 0 (if e.kind = 4 then 1000000 else 1125899906842624) && (hY e.kind || !e.yes)
theorem evAmt {e : Event} (h : eventOk e = true) : amtOk e.amt = true ∧ amtOk e.fee = true := by
  unfold eventOk at h
  simp only [Bool.and_eq_true] at h
  obtain ⟨⟨⟨_,h1⟩,h2⟩,_⟩ := h
  rw [amtOk_true,amtOk_true]
  unfold fieldB at h1 h2
  constructor
  · split at h1
    · have := inB_true.1 h1
      split at this <;> omega
    · simp at h1;omega
  · split at h2
    · have := inB_true.1 h2
      split at this <;> omega
    · simp at h2;omega
theorem evNone {e : Event} (h : ¬ (1 ≤ e.kind ∧ e.kind ≤ 11)) : eventOk e = false := by
  unfold eventOk
  rw [show inB e.kind 1 11 = false from by rw [inB_false];omega]
  rfl
theorem isKey_e (n : Int) : GC Tryz.prog 94 [int n] [] (boo (keyOk n)) [] := GC.of_vals (r := .bool (keyOk n)) (RV.v_mk rfl) rfl fun w => (isKey_c n w).mono fun e w' h => ⟨h.1,h.2 ▸ Grow.refl _⟩
theorem isChan_e (n : Int) : GC Tryz.prog 65 [int n] [] (boo (chOk n)) [] := GC.of_vals (r := .bool (chOk n)) (RV.v_mk rfl) rfl fun w => (isChan_c n w).mono fun e w' h => ⟨h.1,h.2 ▸ Grow.refl _⟩
theorem sfield_e (has : Bool) (n lo hi : Int) : GC Tryz.prog 106 [boo has,int n,int lo,int hi] [] (boo (fieldB has n lo hi)) [] := by
 refine gi 8 Tryz.func106 rfl Tryz.ntmps106 rfl ?_
 intro L O w0
 refine sL<|laZ Z<|nG<|aS<|sL<|lmB Z<|luB Z<|nG ?_
 refine AW.cond rfl ?_ ?_
 ·intro h1
  refine sL<|lmI Z<|lbB Z<|laB Z<|nG<|aR<|rT ?_
  refine eBo trivial ?_
  unfold fieldB inB
  first | (simp_all;done) | (simp_all [dec_beq];done) | (simp_all;intros;omega)
 ·intro h1
  refine aK<|gA<|lmI Z<|lmI Z<|lbB Z<|lmB Z ?_
  refine AL.bool (t := 16) rfl ?_ ?_
  ·intro h2
   refine lmI Z<|lmI Z<|lbB Z<|lkB Z<|laB Z<|nG<|aR ?_
   refine eBo trivial ?_
   unfold fieldB inB
   first | (simp_all;done) | (simp_all [dec_beq];done) | (simp_all;intros;omega)
  ·intro h2
   refine lno Z<|lno Z<|lno Z<|lkZ Z<|laZ Z<|nG<|aR ?_
   refine eBo trivial ?_
   unfold fieldB inB
   first | (simp_all;done) | (simp_all [dec_beq];done) | (simp_all;intros;omega)
theorem shas_e (k : Int) : GC Tryz.prog 92 [int k] [] (.own 60) [(60,.arr 4 1 (rowsOf encBool [hK k,hC k,hT k,hA k,hF k,hY k]))] := by
 refine gi 2 Tryz.func92 rfl Tryz.ntmps92 rfl ?_
 intro L O w0
 refine sL<|laV Z<|nG<|aS<|sL<|lmI Z<|nG<|aB<|sL<|lbB Z<|laB Z<|nG ?_
 refine AW.cond rfl ?_ ?_
 ·intro h1
  refine sL<|lst (zS 60 (rowsOf encBool [false,false,false,true,false,false]) ty.el124 ty.ze4 rfl (by intro r hr;simp only [rowsOf,encBool,List.map_cons,List.map_nil,List.mem_cons,List.not_mem_nil,or_false] at hr;rcases hr with h | h | h | h | h | h <;> (subst h;rfl))) Z<|laO Z<|nG<|aR<|rB<|rT ?_
  refine end_ret ?_ ⟨(congrArg (fun l => AO.arr 4 1 (rowsOf encBool l)) (by unfold hK hC hT hA hF hY;simp_all)),trivial⟩
  rfl
 ·intro h1
  refine aS<|sL<|lbB Z<|laB Z<|nG ?_
  refine AW.cond rfl ?_ ?_
  ·intro h2
   refine asB 7 true rfl h2<|aK<|gT<|aY Z<|sL<|lst (zS 60 (rowsOf encBool [false,true,false,true,true,false]) ty.el124 ty.ze4 rfl (by intro r hr;simp only [rowsOf,encBool,List.map_cons,List.map_nil,List.mem_cons,List.not_mem_nil,or_false] at hr;rcases hr with h | h | h | h | h | h <;> (subst h;rfl))) Z<|laO Z<|nG<|aR<|rB<|rT ?_
   refine end_ret ?_ ⟨(congrArg (fun l => AO.arr 4 1 (rowsOf encBool l)) (by unfold hK hC hT hA hF hY;simp_all)),trivial⟩
   rfl
  ·intro h2
   refine asB 7 false Z h2<|aL<|lbB Z<|laB Z<|nG ?_
   refine AW.cond rfl ?_ ?_
   ·intro h3
    refine sL<|lst (zS 60 (rowsOf encBool [false,true,false,true,true,false]) ty.el124 ty.ze4 rfl (by intro r hr;simp only [rowsOf,encBool,List.map_cons,List.map_nil,List.mem_cons,List.not_mem_nil,or_false] at hr;rcases hr with h | h | h | h | h | h <;> (subst h;rfl))) Z<|laO Z<|nG<|aR<|rB<|rT ?_
    refine end_ret ?_ ⟨(congrArg (fun l => AO.arr 4 1 (rowsOf encBool l)) (by unfold hK hC hT hA hF hY;simp_all)),trivial⟩
    rfl
   ·intro h3
    refine sL<|lbB Z<|laB Z<|nG ?_
    refine AW.cond rfl ?_ ?_
    ·intro h4
     refine sL<|lst (zS 60 (rowsOf encBool [false,true,false,false,true,false]) ty.el124 ty.ze4 rfl (by intro r hr;simp only [rowsOf,encBool,List.map_cons,List.map_nil,List.mem_cons,List.not_mem_nil,or_false] at hr;rcases hr with h | h | h | h | h | h <;> (subst h;rfl))) Z<|lT [2,13] [60] ?_
     refine laO Z<|nG<|aR<|rB<|rT ?_
     refine end_ret ?_ ⟨(congrArg (fun l => AO.arr 4 1 (rowsOf encBool l)) (by unfold hK hC hT hA hF hY;simp_all)),trivial⟩
     rfl
    ·intro h4
     refine sL<|lbB Z<|laB Z<|nG ?_
     refine AW.cond rfl ?_ ?_
     ·intro h5
      refine sL<|lst (zS 60 (rowsOf encBool [true,true,true,true,false,true]) ty.el124 ty.ze4 rfl (by intro r hr;simp only [rowsOf,encBool,List.map_cons,List.map_nil,List.mem_cons,List.not_mem_nil,or_false] at hr;rcases hr with h | h | h | h | h | h <;> (subst h;rfl))) Z<|laO Z<|nG<|aR<|rB<|rT ?_
      refine end_ret ?_ ⟨(congrArg (fun l => AO.arr 4 1 (rowsOf encBool l)) (by unfold hK hC hT hA hF hY;simp_all)),trivial⟩
      rfl
     ·intro h5
      refine sL<|lbB Z<|laB Z<|nG ?_
      refine AW.cond rfl ?_ ?_
      ·intro h6
       refine sL<|lst (zS 60 (rowsOf encBool [true,true,true,true,true,false]) ty.el124 ty.ze4 rfl (by intro r hr;simp only [rowsOf,encBool,List.map_cons,List.map_nil,List.mem_cons,List.not_mem_nil,or_false] at hr;rcases hr with h | h | h | h | h | h <;> (subst h;rfl))) Z<|laO Z<|nG<|aR<|rB<|rT ?_
       refine end_ret ?_ ⟨(congrArg (fun l => AO.arr 4 1 (rowsOf encBool l)) (by unfold hK hC hT hA hF hY;simp_all)),trivial⟩
       rfl
      ·intro h6
       refine sL<|lbB Z<|laB Z<|nG ?_
       refine AW.cond rfl ?_ ?_
       ·intro h7
        refine sL<|lst (zS 60 (rowsOf encBool [false,false,false,false,false,false]) ty.el124 ty.ze4 rfl (by intro r hr;simp only [rowsOf,encBool,List.map_cons,List.map_nil,List.mem_cons,List.not_mem_nil,or_false] at hr;rcases hr with h | h | h | h | h | h <;> (subst h;rfl))) Z<|laO Z<|nG<|aR<|rB<|rT ?_
        refine end_ret ?_ ⟨(congrArg (fun l => AO.arr 4 1 (rowsOf encBool l)) (by unfold hK hC hT hA hF hY;simp_all)),trivial⟩
        rfl
       ·intro h7
        refine aK<|gB<|gA<|lst (zS 60 (rowsOf encBool [true,false,false,false,false,false]) ty.el124 ty.ze4 rfl (by intro r hr;simp only [rowsOf,encBool,List.map_cons,List.map_nil,List.mem_cons,List.not_mem_nil,or_false] at hr;rcases hr with h | h | h | h | h | h <;> (subst h;rfl))) Z<|lT [2,23] [60] ?_
        refine laO Z<|nG<|aR ?_
        refine end_ret ?_ ⟨(congrArg (fun l => AO.arr 4 1 (rowsOf encBool l)) (by unfold hK hC hT hA hF hY;simp_all)),trivial⟩
        rfl
theorem seventOk_e (e : Event) : GC Tryz.prog 49 [evV e] [] (boo (eventOk e)) [] := by
 refine gi 2 Tryz.func49 rfl Tryz.ntmps49 rfl ?_
 intro L O w0
 refine sL<|lst (zX 2001 Z) Z<|laZ Z<|nG<|aS<|sL<|lf 0 ty.F29_0 Z<|loI ty.kd3 Z<|lbB Z<|lmB Z ?_
 refine AL.bool (t := 9) rfl ?_ ?_
 ·intro h1
  refine lno Z<|lno Z<|lno Z<|lkT Z<|nG<|aY Z<|sL<|laZ Z<|nG<|aR<|rT ?_
  refine eBo trivial ?_
  unfold eventOk
  first
  | (simp_all;done)
  | (simp_all [inB];done)
  | (simp_all [inB];intros;omega)
 ·intro h1
  refine lf 0 ty.F29_0 Z<|loI ty.kd3 Z<|lbB Z<|lkB Z<|nG ?_
  refine AW.cond rfl ?_ ?_
  ·intro h2
   refine sL<|laZ Z<|nG<|aR<|rT ?_
   refine eBo trivial ?_
   unfold eventOk
   first
   | (simp_all;done)
   | (simp_all [inB];done)
   | (simp_all [inB];intros;omega)
  ·intro h2
   refine aK<|gA<|lf 0 ty.F29_0 Z<|loI ty.kd3 Z<|lst (zC [(60,60)] [60] [] Tryz.func92 (shas_e _) (trivial) Z Z) Z<|lT [1,2,16] [60,2001] ?_
   refine laO Z<|nA<|laI Z<|nA<|laI Z<|nG ?_
   refine aJ [1,2,3] [60,2001] (D := Unit) (fun jd => [(4,int (if e.kind = 4 then 0 else 1)),(5,int (if e.kind = 4 then 1000000 else 1125899906842624))]) (fun jd => []) (fun jd => True) ?_ ?_
   ·refine sL<|lf 0 ty.F29_0 Z<|loI ty.kd3 Z<|lbB Z<|nG ?_
    refine AW.cond rfl ?_ ?_
    ·intro h3
     refine sL<|laI Z<|nG<|aL<|laI Z<|nG ?_
     refine ⟨(),trivial,⟨(Eq.trans (b := int _) rfl (congrArg int (by rw [if_pos (by simpa using h3)]))),(Eq.trans (b := int _) rfl (congrArg int (by rw [if_pos (by simpa using h3)]))),trivial⟩,trivial,rfl,rfl⟩
    ·intro h3
     refine aK<|gT ?_
     refine ⟨(),trivial,⟨(Eq.trans (b := int _) rfl (congrArg int (by rw [if_neg (by simpa using h3)]))),(Eq.trans (b := int _) rfl (congrArg int (by rw [if_neg (by simpa using h3)]))),trivial⟩,trivial,rfl,rfl⟩
   ·intro jd hJ
    refine aS<|aS<|aG 36 []<|tq 0 (rmO rfl)<|tq 1 (rj 0 ty.el124 rfl (by show 0 < 6;decide))<|tq 2 (rd (x := vB _) (rd_load_arr rfl ty.kd4 rfl rfl rfl (rfl) rfl) rfl)<|yq 3 (rf 1 ty.F29_1 rfl)<|yq 4 (roI ty.kd3 rfl)<|yst 5 rfl (zL Tryz.func106 (sfield_e _ _ _ _) rfl)<|yq 6 (ruB rfl)<|yq 7 (rmB rfl) ?_
    refine AG.bool (t := 27) rfl ?_ ?_
    ·intro h4
     refine tno 8 Z<|tno 9 Z<|tno 10 Z<|yno 11 Z<|yno 12 Z<|yno 13 Z<|yno 14 Z<|yq 15 (rkT Z)<|yq 16 (rmT Z)<|tno 17 Z<|tno 18 Z<|tno 19 Z<|yno 20 Z<|yno 21 Z<|yno 22 Z<|yno 23 Z<|yq 24 (rkT Z)<|yq 25 (rmT Z)<|yno 26 Z<|yno 27 Z<|yno 28 Z<|yno 29 Z<|tno 30 Z<|tno 31 Z<|yno 32 Z<|yno 33 Z<|yno 34 Z<|yno 35 Z<|yq 36 (rkT Z)<|gD ?_
     refine gT<|aY Z<|sL<|laZ Z<|nG<|aR<|rT ?_
     refine eBo trivial ?_
     unfold eventOk
     first
     | (simp_all;done)
     | (simp_all [inB];done)
     | (simp_all [inB];intros;omega)
    ·intro h4
     refine tq 8 (rmO rfl)<|tq 9 (rj 1 ty.el124 rfl (by show 1 < 6;decide))<|tq 10 (rd (x := vB _) (rd_load_arr rfl ty.kd4 rfl rfl rfl (rfl) rfl) rfl)<|yq 11 (rf 2 ty.F29_2 rfl)<|yq 12 (roI ty.kd3 rfl)<|yst 13 rfl (zL Tryz.func106 (sfield_e _ _ _ _) rfl)<|gX [1,2,3,4,5,27,33] [60,2001] ?_
     refine yq 14 (ruB Z)<|yq 15 (rkB Z)<|yq 16 (rmB Z) ?_
     refine AG.bool (t := 36) rfl ?_ ?_
     ·intro h5
      refine tno 17 Z<|tno 18 Z<|tno 19 Z<|yno 20 Z<|yno 21 Z<|yno 22 Z<|yno 23 Z<|yq 24 (rkT Z)<|yq 25 (rmT Z)<|yno 26 Z<|yno 27 Z<|yno 28 Z<|yno 29 Z<|tno 30 Z<|tno 31 Z<|yno 32 Z<|yno 33 Z<|yno 34 Z<|yno 35 Z<|yq 36 (rkT Z)<|gD<|gT<|aY Z<|sL<|laZ Z<|nG<|aR<|rT ?_
      refine eBo trivial ?_
      unfold eventOk
      first
      | (simp_all;done)
      | (simp_all [inB];done)
      | (simp_all [inB];intros;omega)
     ·intro h5
      refine tq 17 (rmO rfl)<|tq 18 (rj 2 ty.el124 rfl (by show 2 < 6;decide))<|tq 19 (rd (x := vB _) (rd_load_arr rfl ty.kd4 rfl rfl rfl (rfl) rfl) rfl)<|yq 20 (rf 3 ty.F29_3 rfl)<|yq 21 (roI ty.kd3 rfl)<|yst 22 rfl (zL Tryz.func106 (sfield_e _ _ _ _) rfl)<|yq 23 (ruB rfl)<|yq 24 (rkB rfl)<|yq 25 (rmB rfl) ?_
      refine AG.bool (t := 45) rfl ?_ ?_
      ·intro h6
       refine yno 26 Z<|yno 27 Z<|yno 28 Z<|yno 29 Z<|tno 30 Z<|tno 31 Z<|yno 32 Z<|yno 33 Z<|yno 34 Z<|yno 35 Z<|yq 36 (rkT Z)<|gD<|gT<|aY Z<|sL<|laZ Z<|nG<|aR<|rT ?_
       refine eBo trivial ?_
       unfold eventOk
       first
       | (simp_all;done)
       | (simp_all [inB];done)
       | (simp_all [inB];intros;omega)
      ·intro h6
       refine yq 26 (rmO rfl)<|yq 27 (rj 2 ty.el124 rfl (by show 2 < 6;decide))<|yq 28 (rd (x := vB _) (rd_load_arr rfl ty.kd4 rfl rfl rfl (rfl) rfl) rfl)<|yq 29 (rmB rfl) ?_
       refine AG.bool (t := 49) rfl ?_ ?_
       ·intro h7
        refine tq 30 (rf 2 ty.F29_2 Z)<|tq 31 (roI ty.kd3 Z)<|yq 32 (rf 3 ty.F29_3 Z)<|yq 33 (roI ty.kd3 Z)<|yq 34 (rbB Z)<|yq 35 (rkB Z)<|yq 36 (rkB Z)<|gD<|gT ?_
        refine AW.cond rfl ?_ ?_
        ·intro h8
         refine sL<|laZ Z<|lT [1,2,3,4,5] [60,2001] ?_
         refine nG<|aR<|rT ?_
         refine eBo trivial ?_
         unfold eventOk
         first
         | (simp_all;done)
         | (simp_all [inB];done)
         | (simp_all [inB];intros;omega)
        ·intro h8
         refine aK<|gT<|aS<|aG 26 []<|tq 0 (rmO rfl)<|tq 1 (rj 3 ty.el124 rfl (by show 3 < 6;decide))<|tq 2 (rd (x := vB _) (rd_load_arr rfl ty.kd4 rfl rfl rfl (rfl) rfl) rfl)<|tq 3 (rf 4 ty.F29_4 rfl)<|tq 4 (roI ty.kd3 rfl)<|yq 5 (rmI rfl)<|yst 6 rfl (zL Tryz.func106 (sfield_e _ _ _ _) rfl)<|yq 7 (rmB rfl) ?_
         refine AG.bool (t := 64) rfl ?_ ?_
         ·intro h9
          refine tq 8 (rmO rfl)<|tq 9 (rj 4 ty.el124 rfl (by show 4 < 6;decide))<|tq 10 (rd (x := vB _) (rd_load_arr rfl ty.kd4 rfl rfl rfl (rfl) rfl) rfl)<|tq 11 (rf 5 ty.F29_5 rfl)<|tq 12 (roI ty.kd3 rfl)<|yq 13 (rmI rfl)<|yst 14 rfl (zL Tryz.func106 (sfield_e _ _ _ _) rfl)<|gX [1,2,3,64,71] [60,2001] ?_
          refine yq 15 (rkB Z)<|yq 16 (rmB Z) ?_
          refine AG.bool (t := 73) rfl ?_ ?_
          ·intro h10
           refine yq 17 (rmO rfl)<|yq 18 (rj 5 ty.el124 rfl (by show 5 < 6;decide))<|yq 19 (rd (x := vB _) (rd_load_arr rfl ty.kd4 rfl rfl rfl (rfl) rfl) rfl)<|yq 20 (rmB rfl) ?_
           refine AG.bool (t := 77) rfl ?_ ?_
           ·intro h11
            refine yno 21 Z<|yno 22 Z<|yno 23 Z<|yq 24 (rkT Z)<|yq 25 (rkT Z)<|yq 26 (raT Z)<|gD<|gT<|aR ?_
            refine eBo trivial ?_
            unfold eventOk
            first
            | (simp_all;done)
            | (simp_all [inB];done)
            | (simp_all [inB];intros;omega)
           ·intro h11
            refine yq 21 (rf 6 ty.F29_6 Z)<|yq 22 (roB ty.kd4 Z)<|yq 23 (ruB Z)<|yq 24 (rkB Z)<|yq 25 (rkB Z)<|yq 26 (raB Z)<|gD<|gT<|aR ?_
            refine eBo trivial ?_
            unfold eventOk
            first
            | (simp_all;done)
            | (simp_all [inB];done)
            | (simp_all [inB];intros;omega)
          ·intro h10
           refine yno 17 Z<|yno 18 Z<|yno 19 Z<|yno 20 Z<|yno 21 Z<|yno 22 Z<|yno 23 Z<|yno 24 Z<|yq 25 (rkZ Z)<|yq 26 (raZ Z)<|gD<|gT<|aR ?_
           refine eBo trivial ?_
           unfold eventOk
           first
           | (simp_all;done)
           | (simp_all [inB];done)
           | (simp_all [inB];intros;omega)
         ·intro h9
          refine tno 8 Z<|tno 9 Z<|tno 10 Z<|tno 11 Z<|tno 12 Z<|yno 13 Z<|yno 14 Z<|yq 15 (rkZ Z)<|yq 16 (rmZ Z)<|yno 17 Z<|yno 18 Z<|yno 19 Z<|yno 20 Z<|yno 21 Z<|yno 22 Z<|yno 23 Z<|yno 24 Z<|yq 25 (rkZ Z)<|yq 26 (raZ Z)<|gD<|gT<|aR ?_
          refine eBo trivial ?_
          unfold eventOk
          first
          | (simp_all;done)
          | (simp_all [inB];done)
          | (simp_all [inB];intros;omega)
       ·intro h7
        refine tno 30 Z<|tno 31 Z<|yno 32 Z<|yno 33 Z<|yno 34 Z<|yq 35 (rkZ rfl)<|yq 36 (rkZ rfl)<|gD<|gT<|aN Z<|aK<|gT<|aS<|aG 26 []<|tq 0 (rmO rfl)<|tq 1 (rj 3 ty.el124 rfl (by show 3 < 6;decide))<|tq 2 (rd (x := vB _) (rd_load_arr rfl ty.kd4 rfl rfl rfl (rfl) rfl) rfl)<|tq 3 (rf 4 ty.F29_4 rfl)<|tq 4 (roI ty.kd3 rfl)<|yq 5 (rmI rfl)<|yst 6 rfl (zL Tryz.func106 (sfield_e _ _ _ _) rfl)<|gX [1,2,3,5,63] [60,2001] ?_
        refine yq 7 (rmB rfl) ?_
        refine AG.bool (t := 64) rfl ?_ ?_
        ·intro h12
         refine tq 8 (rmO rfl)<|tq 9 (rj 4 ty.el124 rfl (by show 4 < 6;decide))<|tq 10 (rd (x := vB _) (rd_load_arr rfl ty.kd4 rfl rfl rfl (rfl) rfl) rfl)<|tq 11 (rf 5 ty.F29_5 rfl)<|tq 12 (roI ty.kd3 rfl)<|yq 13 (rmI rfl)<|yst 14 rfl (zL Tryz.func106 (sfield_e _ _ _ _) rfl)<|yq 15 (rkB rfl)<|yq 16 (rmB rfl) ?_
         refine AG.bool (t := 73) rfl ?_ ?_
         ·intro h13
          refine yq 17 (rmO rfl)<|yq 18 (rj 5 ty.el124 rfl (by show 5 < 6;decide))<|yq 19 (rd (x := vB _) (rd_load_arr rfl ty.kd4 rfl rfl rfl (rfl) rfl) rfl)<|yq 20 (rmB rfl) ?_
          refine AG.bool (t := 77) rfl ?_ ?_
          ·intro h14
           refine yno 21 Z<|yno 22 Z<|yno 23 Z<|yq 24 (rkT Z)<|yq 25 (rkT Z)<|yq 26 (raT Z)<|gD<|gT<|aR ?_
           refine eBo trivial ?_
           unfold eventOk
           first
           | (simp_all;done)
           | (simp_all [inB];done)
           | (simp_all [inB];intros;omega)
          ·intro h14
           refine yq 21 (rf 6 ty.F29_6 Z)<|yq 22 (roB ty.kd4 Z)<|yq 23 (ruB Z)<|yq 24 (rkB Z)<|yq 25 (rkB Z)<|yq 26 (raB Z)<|gD<|gT<|aR ?_
           refine eBo trivial ?_
           unfold eventOk
           first
           | (simp_all;done)
           | (simp_all [inB];done)
           | (simp_all [inB];intros;omega)
         ·intro h13
          refine yno 17 Z<|yno 18 Z<|yno 19 Z<|yno 20 Z<|yno 21 Z<|yno 22 Z<|yno 23 Z<|yno 24 Z<|yq 25 (rkZ Z)<|yq 26 (raZ Z)<|gD<|gT<|aR ?_
          refine eBo trivial ?_
          unfold eventOk
          first
          | (simp_all;done)
          | (simp_all [inB];done)
          | (simp_all [inB];intros;omega)
        ·intro h12
         refine tno 8 Z<|tno 9 Z<|tno 10 Z<|tno 11 Z<|tno 12 Z<|yno 13 Z<|yno 14 Z<|yq 15 (rkZ Z)<|yq 16 (rmZ Z)<|yno 17 Z<|yno 18 Z<|yno 19 Z<|yno 20 Z<|yno 21 Z<|yno 22 Z<|yno 23 Z<|yno 24 Z<|yq 25 (rkZ Z)<|yq 26 (raZ Z)<|gD<|gT<|aR ?_
         refine eBo trivial ?_
         unfold eventOk
         first
         | (simp_all;done)
         | (simp_all [inB];done)
         | (simp_all [inB];intros;omega)
theorem eventOk_e (e : Event) : GC Tryz.prog 37 [evV e] [] (boo (eventOk e)) [] := by
 refine gi 2 Tryz.func37 rfl Tryz.ntmps37 rfl ?_
 intro L O w0
 refine sL<|lst (zX 2001 Z) Z<|laZ Z<|nG<|aS<|sL<|lf 4 ty.F29_4 Z<|loI ty.kd3 Z<|lst (zL Tryz.func62 (amtOk_e _) Z) Z<|luB Z<|lmB Z ?_
 refine AL.bool (t := 9) rfl ?_ ?_
 ·intro h1
  refine lno Z<|lno Z<|lno Z<|lno Z<|lkT Z<|nG<|aY Z<|sL<|laZ Z<|nG<|aR<|rT ?_
  refine eBo trivial ?_
  rcases hq : eventOk e with _ | _
  ·rfl
  ·have := evAmt hq;simp_all
 ·intro h1
  refine lf 5 ty.F29_5 Z<|loI ty.kd3 Z<|lst (zL Tryz.func62 (amtOk_e _) Z) Z<|luB Z<|lkB Z<|nG ?_
  refine AW.cond rfl ?_ ?_
  ·intro h2
   refine sL<|laZ Z<|nG<|aR<|rT ?_
   refine eBo trivial ?_
   rcases hq : eventOk e with _ | _
   ·rfl
   ·have := evAmt hq;simp_all
  ·intro h2
   refine aK<|gA<|lf 0 ty.F29_0 Z<|loI ty.kd3 Z<|lq (rd (x := .agg [vI _ _,vI _ _,vI _ _,vI _ _,vI _ _,vI _ _,vB false]) (rd_build Z ty.sa29 Z Z Z) Z)<|lst (zA 2003 ty.ze29 Z) Z<|lT [1,2,3,17] [2001,2003] ?_
   refine lst (zB 2003 ty.co29 ty.inf29 Z) Z<|nA<|laT Z<|nG<|aS<|sL<|lf 0 ty.F29_0 Z<|loI ty.kd3 Z<|nG<|aB<|sL<|lbB Z<|laB Z<|nG ?_
   refine AW.cond rfl ?_ ?_
   ·intro h3
    refine sL<|lf 4 ty.F29_4 Z<|loI ty.kd3 Z<|lf 4 ty.F29_4 Z<|lst (zB 2003 ty.co3 ty.inf3 Z) Z<|nG<|aL<|lf 4 ty.F29_4 Z<|loI ty.kd3 Z<|lbB Z<|laB Z<|lN<|gB<|gA<|lmB Z<|lmB Z ?_
    refine AL.bool (t := 175) rfl ?_ ?_
    ·intro h4
     refine loX (.agg [vI _ _,vI _ _,vI _ _,vI _ _,vI _ _,vI _ _,vB _]) ty.kd29 Z<|loX (.agg [vI _ _,vI _ _,vI _ _,vI _ _,vI _ _,vI _ _,vB false]) ty.kd29 Z<|lq (rd (x := vB _) (rd_eqS rfl (.inl rfl) rfl rfl ty.sf29 ty.su29 ty.sh29 ty.sg29 ?hn1) rfl) ?_
     case hn1 => exact ⟨rfl,by decide,rfl,⟨_,Tryz.underlying3⟩,rfl,by decide,rfl,⟨_,Tryz.underlying3⟩,rfl,by decide,rfl,⟨_,Tryz.underlying3⟩,rfl,by decide,rfl,⟨_,Tryz.underlying3⟩,rfl,by decide,rfl,⟨_,Tryz.underlying3⟩,rfl,by decide,rfl,⟨_,Tryz.underlying3⟩,by decide,rfl,Tryz.underlying4,trivial⟩
     refine lkB Z<|laB Z<|nG<|aR ?_
     refine eBo trivial ?_
     have hkd : e.kind = 1 := by simpa using h3
     have ha1 : amtOk e.amt = true := by simpa using h1
     have ha2 : amtOk e.fee = true := by simpa using h2
     clear h1 h2 h3
     unfold eventOk
     rw [hkd]
     rcases hy : e.yes with _ | _ <;> refine Bool.eq_iff_iff.2 ?_ <;> simp [fieldB,hK,hC,hT,hA,hF,hY,inB,eqVals,amtOk,keyOk,chOk] at * <;> omega
    ·intro h4
     refine lno Z<|lno Z<|lno Z<|lkZ Z<|laZ Z<|nG<|aR ?_
     refine eBo trivial ?_
     have hkd : e.kind = 1 := by simpa using h3
     have ha1 : amtOk e.amt = true := by simpa using h1
     have ha2 : amtOk e.fee = true := by simpa using h2
     clear h1 h2 h3
     unfold eventOk
     rw [hkd]
     rcases hy : e.yes with _ | _ <;> refine Bool.eq_iff_iff.2 ?_ <;> simp [fieldB,hK,hC,hT,hA,hF,hY,inB,eqVals,amtOk,keyOk,chOk] at * <;> omega
   ·intro h3
    refine sL<|lbB Z<|laB Z<|nG ?_
    refine AW.cond rfl ?_ ?_
    ·intro h5
     refine aS<|aG 11 [2003]<|tq 0 (rf 2 ty.F29_2 Z)<|tq 1 (roI ty.kd3 Z)<|tq 2 (rf 4 ty.F29_4 Z)<|tq 3 (roI ty.kd3 Z)<|tq 4 (rf 5 ty.F29_5 Z)<|gX [1,2,3,4,31,33,34] [2001,2003] ?_
     refine tq 5 (roI ty.kd3 Z)<|yq 6 (rf 2 ty.F29_2 Z)<|yst 7 Z (zB 2003 ty.co3 ty.inf3 Z)<|yq 8 (rf 4 ty.F29_4 Z)<|yst 9 Z (zB 2003 ty.co3 ty.inf3 Z)<|yq 10 (rf 5 ty.F29_5 Z)<|yl Z (zB 2003 ty.co3 ty.inf3 Z)<|gT<|aL<|lf 2 ty.F29_2 Z<|loI ty.kd3 Z<|lst (zL Tryz.func65 (isChan_e _) Z) Z<|lmB Z ?_
     refine AL.bool (t := 42) rfl ?_ ?_
     ·intro h6
      refine lf 4 ty.F29_4 Z<|loI ty.kd3 Z<|lbB Z<|lkB Z<|laB Z<|lN<|gB<|gA<|lmB Z<|lmB Z ?_
      refine AL.bool (t := 175) rfl ?_ ?_
      ·intro h7
       refine loX (.agg [vI _ _,vI _ _,vI _ _,vI _ _,vI _ _,vI _ _,vB _]) ty.kd29 Z<|loX (.agg [vI _ _,vI _ _,vI _ _,vI _ _,vI _ _,vI _ _,vB false]) ty.kd29 Z<|lq (rd (x := vB _) (rd_eqS rfl (.inl rfl) rfl rfl ty.sf29 ty.su29 ty.sh29 ty.sg29 ?hn2) rfl) ?_
       case hn2 => exact ⟨rfl,by decide,rfl,⟨_,Tryz.underlying3⟩,rfl,by decide,rfl,⟨_,Tryz.underlying3⟩,rfl,by decide,rfl,⟨_,Tryz.underlying3⟩,rfl,by decide,rfl,⟨_,Tryz.underlying3⟩,rfl,by decide,rfl,⟨_,Tryz.underlying3⟩,rfl,by decide,rfl,⟨_,Tryz.underlying3⟩,by decide,rfl,Tryz.underlying4,trivial⟩
       refine lkB Z<|laB Z<|nG<|aR ?_
       refine eBo trivial ?_
       have hkd : e.kind = 2 := by simpa using h5
       have ha1 : amtOk e.amt = true := by simpa using h1
       have ha2 : amtOk e.fee = true := by simpa using h2
       clear h1 h2 h3 h5
       unfold eventOk
       rw [hkd]
       rcases hy : e.yes with _ | _ <;> refine Bool.eq_iff_iff.2 ?_ <;> simp [fieldB,hK,hC,hT,hA,hF,hY,inB,eqVals,amtOk,keyOk,chOk] at * <;> omega
      ·intro h7
       refine lno Z<|lno Z<|lno Z<|lkZ Z<|laZ Z<|nG<|aR ?_
       refine eBo trivial ?_
       have hkd : e.kind = 2 := by simpa using h5
       have ha1 : amtOk e.amt = true := by simpa using h1
       have ha2 : amtOk e.fee = true := by simpa using h2
       clear h1 h2 h3 h5
       unfold eventOk
       rw [hkd]
       rcases hy : e.yes with _ | _ <;> refine Bool.eq_iff_iff.2 ?_ <;> simp [fieldB,hK,hC,hT,hA,hF,hY,inB,eqVals,amtOk,keyOk,chOk] at * <;> omega
     ·intro h6
      refine lno Z<|lno Z<|lno Z<|lkZ Z<|laZ Z<|lN<|gB<|gA<|lmZ Z<|lmZ Z<|lno Z<|lno Z<|lno Z<|lkZ Z<|lT [2,179] [2001,2003] ?_
      refine laZ Z<|nG<|aR ?_
      refine eBo trivial ?_
      have hkd : e.kind = 2 := by simpa using h5
      have ha1 : amtOk e.amt = true := by simpa using h1
      have ha2 : amtOk e.fee = true := by simpa using h2
      clear h1 h2 h3 h5
      unfold eventOk
      rw [hkd]
      rcases hy : e.yes with _ | _ <;> refine Bool.eq_iff_iff.2 ?_ <;> simp [fieldB,hK,hC,hT,hA,hF,hY,inB,eqVals,amtOk,keyOk,chOk] at * <;> omega
    ·intro h5
     refine sL<|lbB Z<|laB Z<|nG ?_
     refine AW.cond rfl ?_ ?_
     ·intro h8
      refine aS<|aG 7 [2003]<|tq 0 (rf 2 ty.F29_2 Z)<|tq 1 (roI ty.kd3 Z)<|tq 2 (rf 5 ty.F29_5 Z)<|tq 3 (roI ty.kd3 Z)<|yq 4 (rf 2 ty.F29_2 Z)<|yst 5 Z (zB 2003 ty.co3 ty.inf3 Z)<|yq 6 (rf 5 ty.F29_5 Z)<|yl Z (zB 2003 ty.co3 ty.inf3 Z)<|gT<|aL<|lf 2 ty.F29_2 Z<|loI ty.kd3 Z<|lst (zL Tryz.func65 (isChan_e _) Z) Z<|lT [1,2,3,4,57] [2001,2003] ?_
      refine laB Z<|lN<|gB<|gA<|lmB Z<|lmB Z ?_
      refine AL.bool (t := 175) rfl ?_ ?_
      ·intro h9
       refine loX (.agg [vI _ _,vI _ _,vI _ _,vI _ _,vI _ _,vI _ _,vB _]) ty.kd29 Z<|loX (.agg [vI _ _,vI _ _,vI _ _,vI _ _,vI _ _,vI _ _,vB false]) ty.kd29 Z<|lq (rd (x := vB _) (rd_eqS rfl (.inl rfl) rfl rfl ty.sf29 ty.su29 ty.sh29 ty.sg29 ?hn3) rfl) ?_
       case hn3 => exact ⟨rfl,by decide,rfl,⟨_,Tryz.underlying3⟩,rfl,by decide,rfl,⟨_,Tryz.underlying3⟩,rfl,by decide,rfl,⟨_,Tryz.underlying3⟩,rfl,by decide,rfl,⟨_,Tryz.underlying3⟩,rfl,by decide,rfl,⟨_,Tryz.underlying3⟩,rfl,by decide,rfl,⟨_,Tryz.underlying3⟩,by decide,rfl,Tryz.underlying4,trivial⟩
       refine lkB Z<|laB Z<|nG<|aR ?_
       refine eBo trivial ?_
       have hkd : e.kind = 3 := by simpa using h8
       have ha1 : amtOk e.amt = true := by simpa using h1
       have ha2 : amtOk e.fee = true := by simpa using h2
       clear h1 h2 h3 h5 h8
       unfold eventOk
       rw [hkd]
       rcases hy : e.yes with _ | _ <;> refine Bool.eq_iff_iff.2 ?_ <;> simp [fieldB,hK,hC,hT,hA,hF,hY,inB,eqVals,amtOk,keyOk,chOk] at * <;> omega
      ·intro h9
       refine lno Z<|lno Z<|lno Z<|lkZ Z<|laZ Z<|nG<|aR ?_
       refine eBo trivial ?_
       have hkd : e.kind = 3 := by simpa using h8
       have ha1 : amtOk e.amt = true := by simpa using h1
       have ha2 : amtOk e.fee = true := by simpa using h2
       clear h1 h2 h3 h5 h8
       unfold eventOk
       rw [hkd]
       rcases hy : e.yes with _ | _ <;> refine Bool.eq_iff_iff.2 ?_ <;> simp [fieldB,hK,hC,hT,hA,hF,hY,inB,eqVals,amtOk,keyOk,chOk] at * <;> omega
     ·intro h8
      refine sL<|lbB Z<|laB Z<|nG ?_
      refine AW.cond rfl ?_ ?_
      ·intro h10
       refine aS<|aG 11 [2003]<|tq 0 (rf 2 ty.F29_2 Z)<|tq 1 (roI ty.kd3 Z)<|tq 2 (rf 4 ty.F29_4 Z)<|tq 3 (roI ty.kd3 Z)<|tq 4 (rf 5 ty.F29_5 Z)<|tq 5 (roI ty.kd3 Z)<|yq 6 (rf 2 ty.F29_2 Z)<|yst 7 Z (zB 2003 ty.co3 ty.inf3 Z)<|gX [1,2,3,4,63,65] [2001,2003] ?_
       refine yq 8 (rf 4 ty.F29_4 Z)<|yst 9 Z (zB 2003 ty.co3 ty.inf3 Z)<|yq 10 (rf 5 ty.F29_5 Z)<|yl Z (zB 2003 ty.co3 ty.inf3 Z)<|gT<|aL<|lf 2 ty.F29_2 Z<|loI ty.kd3 Z<|lst (zL Tryz.func65 (isChan_e _) Z) Z<|lmB Z ?_
       refine AL.bool (t := 72) rfl ?_ ?_
       ·intro h11
        refine lf 5 ty.F29_5 Z<|loI ty.kd3 Z<|lbB Z<|lkB Z<|laB Z<|lN<|gB<|gA<|lmB Z<|lmB Z ?_
        refine AL.bool (t := 175) rfl ?_ ?_
        ·intro h12
         refine loX (.agg [vI _ _,vI _ _,vI _ _,vI _ _,vI _ _,vI _ _,vB _]) ty.kd29 Z<|loX (.agg [vI _ _,vI _ _,vI _ _,vI _ _,vI _ _,vI _ _,vB false]) ty.kd29 Z<|lq (rd (x := vB _) (rd_eqS rfl (.inl rfl) rfl rfl ty.sf29 ty.su29 ty.sh29 ty.sg29 ?hn4) rfl) ?_
         case hn4 => exact ⟨rfl,by decide,rfl,⟨_,Tryz.underlying3⟩,rfl,by decide,rfl,⟨_,Tryz.underlying3⟩,rfl,by decide,rfl,⟨_,Tryz.underlying3⟩,rfl,by decide,rfl,⟨_,Tryz.underlying3⟩,rfl,by decide,rfl,⟨_,Tryz.underlying3⟩,rfl,by decide,rfl,⟨_,Tryz.underlying3⟩,by decide,rfl,Tryz.underlying4,trivial⟩
         refine lkB Z<|laB Z<|nG<|aR ?_
         refine eBo trivial ?_
         have hkd : e.kind = 4 := by simpa using h10
         have ha1 : amtOk e.amt = true := by simpa using h1
         have ha2 : amtOk e.fee = true := by simpa using h2
         clear h1 h2 h3 h5 h8 h10
         unfold eventOk
         rw [hkd]
         rcases hy : e.yes with _ | _ <;> refine Bool.eq_iff_iff.2 ?_ <;> simp [fieldB,hK,hC,hT,hA,hF,hY,inB,eqVals,amtOk,keyOk,chOk] at * <;> omega
        ·intro h12
         refine lno Z<|lno Z<|lno Z<|lkZ Z<|laZ Z<|nG<|aR ?_
         refine eBo trivial ?_
         have hkd : e.kind = 4 := by simpa using h10
         have ha1 : amtOk e.amt = true := by simpa using h1
         have ha2 : amtOk e.fee = true := by simpa using h2
         clear h1 h2 h3 h5 h8 h10
         unfold eventOk
         rw [hkd]
         rcases hy : e.yes with _ | _ <;> refine Bool.eq_iff_iff.2 ?_ <;> simp [fieldB,hK,hC,hT,hA,hF,hY,inB,eqVals,amtOk,keyOk,chOk] at * <;> omega
       ·intro h11
        refine lno Z<|lno Z<|lno Z<|lkZ Z<|laZ Z<|lN<|gB<|gA<|lmZ Z<|lmZ Z<|lno Z<|lno Z<|lno Z<|lkZ Z<|laZ Z<|nG<|aR ?_
        refine eBo trivial ?_
        have hkd : e.kind = 4 := by simpa using h10
        have ha1 : amtOk e.amt = true := by simpa using h1
        have ha2 : amtOk e.fee = true := by simpa using h2
        clear h1 h2 h3 h5 h8 h10
        unfold eventOk
        rw [hkd]
        rcases hy : e.yes with _ | _ <;> refine Bool.eq_iff_iff.2 ?_ <;> simp [fieldB,hK,hC,hT,hA,hF,hY,inB,eqVals,amtOk,keyOk,chOk] at * <;> omega
      ·intro h10
       refine sL<|lbB Z<|laB Z<|lT [1,2,3,4,19,77] [2001,2003] ?_
       refine nG ?_
       refine AW.cond rfl ?_ ?_
       ·intro h13
        refine aS<|aG 19 [2003]<|tq 0 (rf 1 ty.F29_1 Z)<|tq 1 (roI ty.kd3 Z)<|tq 2 (rf 2 ty.F29_2 Z)<|tq 3 (roI ty.kd3 Z)<|tq 4 (rf 3 ty.F29_3 Z)<|tq 5 (roI ty.kd3 Z)<|tq 6 (rf 4 ty.F29_4 Z)<|tq 7 (roI ty.kd3 Z)<|tq 8 (rf 6 ty.F29_6 Z)<|tq 9 (roB ty.kd4 Z)<|yq 10 (rf 1 ty.F29_1 Z)<|yst 11 Z (zB 2003 ty.co3 ty.inf3 Z)<|yq 12 (rf 2 ty.F29_2 Z)<|yst 13 Z (zB 2003 ty.co3 ty.inf3 Z)<|gX [1,2,3,4,84,86,88] [2001,2003] ?_
        refine yq 14 (rf 3 ty.F29_3 Z)<|yst 15 Z (zB 2003 ty.co3 ty.inf3 Z)<|yq 16 (rf 4 ty.F29_4 Z)<|yst 17 Z (zB 2003 ty.co3 ty.inf3 Z)<|yq 18 (rf 6 ty.F29_6 Z)<|yl Z (zB 2003 ty.co4 ty.inf4 Z)<|gT<|aL<|lf 1 ty.F29_1 Z<|loI ty.kd3 Z<|lst (zL Tryz.func94 (isKey_e _) Z) Z<|lmB Z ?_
        refine AL.bool (t := 97) rfl ?_ ?_
        ·intro h14
         refine lf 2 ty.F29_2 Z<|loI ty.kd3 Z<|lst (zL Tryz.func65 (isChan_e _) Z) Z<|lkB Z<|lmB Z ?_
         refine AL.bool (t := 102) rfl ?_ ?_
         ·intro h15
          refine lf 3 ty.F29_3 Z<|loI ty.kd3 Z<|lst (zL Tryz.func65 (isChan_e _) Z) Z<|lT [1,2,3,4,102,105] [2001,2003] ?_
          refine lkB Z<|lmB Z ?_
          refine AL.bool (t := 107) rfl ?_ ?_
          ·intro h16
           refine lf 2 ty.F29_2 Z<|loI ty.kd3 Z<|lf 3 ty.F29_3 Z<|loI ty.kd3 Z<|lbB Z<|lkB Z<|lmB Z ?_
           refine AL.bool (t := 114) rfl ?_ ?_
           ·intro h17
            refine lf 4 ty.F29_4 Z<|loI ty.kd3 Z<|lbB Z<|lkB Z<|laB Z<|lN<|gB<|gA<|lmB Z<|lmB Z ?_
            refine AL.bool (t := 175) rfl ?_ ?_
            ·intro h18
             refine loX (.agg [vI _ _,vI _ _,vI _ _,vI _ _,vI _ _,vI _ _,vB _]) ty.kd29 Z<|loX (.agg [vI _ _,vI _ _,vI _ _,vI _ _,vI _ _,vI _ _,vB _]) ty.kd29 Z<|lq (rd (x := vB _) (rd_eqS rfl (.inl rfl) rfl rfl ty.sf29 ty.su29 ty.sh29 ty.sg29 ?hn5) rfl) ?_
             case hn5 => exact ⟨rfl,by decide,rfl,⟨_,Tryz.underlying3⟩,rfl,by decide,rfl,⟨_,Tryz.underlying3⟩,rfl,by decide,rfl,⟨_,Tryz.underlying3⟩,rfl,by decide,rfl,⟨_,Tryz.underlying3⟩,rfl,by decide,rfl,⟨_,Tryz.underlying3⟩,rfl,by decide,rfl,⟨_,Tryz.underlying3⟩,by decide,rfl,Tryz.underlying4,trivial⟩
             refine lkB Z<|laB Z<|nG<|aR ?_
             refine eBo trivial ?_
             have hkd : e.kind = 5 := by simpa using h13
             have ha1 : amtOk e.amt = true := by simpa using h1
             have ha2 : amtOk e.fee = true := by simpa using h2
             clear h1 h2 h3 h5 h8 h10 h13
             unfold eventOk
             rw [hkd]
             rcases hy : e.yes with _ | _ <;> refine Bool.eq_iff_iff.2 ?_ <;> simp [fieldB,hK,hC,hT,hA,hF,hY,inB,eqVals,amtOk,keyOk,chOk] at * <;> omega
            ·intro h18
             refine lno Z<|lno Z<|lno Z<|lkZ Z<|laZ Z<|nG<|aR ?_
             refine eBo trivial ?_
             have hkd : e.kind = 5 := by simpa using h13
             have ha1 : amtOk e.amt = true := by simpa using h1
             have ha2 : amtOk e.fee = true := by simpa using h2
             clear h1 h2 h3 h5 h8 h10 h13
             unfold eventOk
             rw [hkd]
             rcases hy : e.yes with _ | _ <;> refine Bool.eq_iff_iff.2 ?_ <;> simp [fieldB,hK,hC,hT,hA,hF,hY,inB,eqVals,amtOk,keyOk,chOk] at * <;> omega
           ·intro h17
            refine lno Z<|lno Z<|lno Z<|lkZ Z<|laZ Z<|lN<|gB<|gA<|lmZ Z<|lmZ Z<|lno Z<|lno Z<|lno Z<|lkZ Z<|laZ Z<|nG<|aR ?_
            refine eBo trivial ?_
            have hkd : e.kind = 5 := by simpa using h13
            have ha1 : amtOk e.amt = true := by simpa using h1
            have ha2 : amtOk e.fee = true := by simpa using h2
            clear h1 h2 h3 h5 h8 h10 h13
            unfold eventOk
            rw [hkd]
            rcases hy : e.yes with _ | _ <;> refine Bool.eq_iff_iff.2 ?_ <;> simp [fieldB,hK,hC,hT,hA,hF,hY,inB,eqVals,amtOk,keyOk,chOk] at * <;> omega
          ·intro h16
           refine lno Z<|lno Z<|lno Z<|lno Z<|lno Z<|lkZ Z<|lT [1,2,3,4,113] [2001,2003] ?_
           refine lmZ Z<|lno Z<|lno Z<|lno Z<|lkZ Z<|laZ Z<|lN<|gB<|gA<|lmZ Z<|lmZ Z<|lno Z<|lno Z<|lno Z<|lkZ Z<|laZ Z<|nG<|aR ?_
           refine eBo trivial ?_
           have hkd : e.kind = 5 := by simpa using h13
           have ha1 : amtOk e.amt = true := by simpa using h1
           have ha2 : amtOk e.fee = true := by simpa using h2
           clear h1 h2 h3 h5 h8 h10 h13
           unfold eventOk
           rw [hkd]
           rcases hy : e.yes with _ | _ <;> refine Bool.eq_iff_iff.2 ?_ <;> simp [fieldB,hK,hC,hT,hA,hF,hY,inB,eqVals,amtOk,keyOk,chOk] at * <;> omega
         ·intro h15
          refine lno Z<|lno Z<|lno Z<|lkZ Z<|lmZ Z<|lno Z<|lno Z<|lno Z<|lno Z<|lno Z<|lkZ Z<|lmZ Z<|lno Z<|lno Z<|lno Z<|lkZ Z<|laZ Z<|lN<|gB<|gA<|lmZ Z<|lmZ Z<|lno Z<|lno Z<|lno Z<|lkZ Z<|laZ Z<|lN ?_
          refine gT<|aR ?_
          refine eBo trivial ?_
          have hkd : e.kind = 5 := by simpa using h13
          have ha1 : amtOk e.amt = true := by simpa using h1
          have ha2 : amtOk e.fee = true := by simpa using h2
          clear h1 h2 h3 h5 h8 h10 h13
          unfold eventOk
          rw [hkd]
          rcases hy : e.yes with _ | _ <;> refine Bool.eq_iff_iff.2 ?_ <;> simp [fieldB,hK,hC,hT,hA,hF,hY,inB,eqVals,amtOk,keyOk,chOk] at * <;> omega
        ·intro h14
         refine lno Z<|lno Z<|lno Z<|lkZ Z<|lmZ Z<|lno Z<|lno Z<|lno Z<|lkZ Z<|lmZ Z<|lno Z<|lno Z<|lno Z<|lno Z<|lno Z<|lkZ Z<|lmZ Z<|lno Z<|lno Z<|lno Z<|lkZ Z<|laZ Z<|lN<|gB<|gA<|lmZ Z<|lmZ Z<|lno Z ?_
         refine lno Z<|lno Z<|lkZ Z<|laZ Z<|nG<|aR ?_
         refine eBo trivial ?_
         have hkd : e.kind = 5 := by simpa using h13
         have ha1 : amtOk e.amt = true := by simpa using h1
         have ha2 : amtOk e.fee = true := by simpa using h2
         clear h1 h2 h3 h5 h8 h10 h13
         unfold eventOk
         rw [hkd]
         rcases hy : e.yes with _ | _ <;> refine Bool.eq_iff_iff.2 ?_ <;> simp [fieldB,hK,hC,hT,hA,hF,hY,inB,eqVals,amtOk,keyOk,chOk] at * <;> omega
       ·intro h13
        refine sL<|lbB Z<|lT [1,2,3,4,19,120] [2001,2003] ?_
        refine laB Z<|nG ?_
        refine AW.cond rfl ?_ ?_
        ·intro h19
         refine aS<|aG 19 [2003]<|tq 0 (rf 1 ty.F29_1 Z)<|tq 1 (roI ty.kd3 Z)<|tq 2 (rf 2 ty.F29_2 Z)<|tq 3 (roI ty.kd3 Z)<|tq 4 (rf 3 ty.F29_3 Z)<|tq 5 (roI ty.kd3 Z)<|tq 6 (rf 4 ty.F29_4 Z)<|tq 7 (roI ty.kd3 Z)<|tq 8 (rf 5 ty.F29_5 Z)<|tq 9 (roI ty.kd3 Z)<|yq 10 (rf 1 ty.F29_1 Z)<|yst 11 Z (zB 2003 ty.co3 ty.inf3 Z)<|yq 12 (rf 2 ty.F29_2 Z)<|yst 13 Z (zB 2003 ty.co3 ty.inf3 Z)<|gX [1,2,3,4,126,128,130] [2001,2003] ?_
         refine yq 14 (rf 3 ty.F29_3 Z)<|yst 15 Z (zB 2003 ty.co3 ty.inf3 Z)<|yq 16 (rf 4 ty.F29_4 Z)<|yst 17 Z (zB 2003 ty.co3 ty.inf3 Z)<|yq 18 (rf 5 ty.F29_5 Z)<|yl Z (zB 2003 ty.co3 ty.inf3 Z)<|gT<|aL<|lf 1 ty.F29_1 Z<|loI ty.kd3 Z<|lst (zL Tryz.func94 (isKey_e _) Z) Z<|lmB Z ?_
         refine AL.bool (t := 139) rfl ?_ ?_
         ·intro h20
          refine lf 2 ty.F29_2 Z<|loI ty.kd3 Z<|lst (zL Tryz.func65 (isChan_e _) Z) Z<|lkB Z<|lmB Z ?_
          refine AL.bool (t := 144) rfl ?_ ?_
          ·intro h21
           refine lf 3 ty.F29_3 Z<|loI ty.kd3 Z<|lst (zL Tryz.func65 (isChan_e _) Z) Z<|lT [1,2,3,4,144,147] [2001,2003] ?_
           refine lkB Z<|lmB Z ?_
           refine AL.bool (t := 149) rfl ?_ ?_
           ·intro h22
            refine lf 2 ty.F29_2 Z<|loI ty.kd3 Z<|lf 3 ty.F29_3 Z<|loI ty.kd3 Z<|lbB Z<|lkB Z<|lmB Z ?_
            refine AL.bool (t := 156) rfl ?_ ?_
            ·intro h23
             refine lf 4 ty.F29_4 Z<|loI ty.kd3 Z<|lbB Z<|lkB Z<|laB Z<|lN<|gB<|gA<|lmB Z<|lmB Z ?_
             refine AL.bool (t := 175) rfl ?_ ?_
             ·intro h24
              refine loX (.agg [vI _ _,vI _ _,vI _ _,vI _ _,vI _ _,vI _ _,vB _]) ty.kd29 Z<|loX (.agg [vI _ _,vI _ _,vI _ _,vI _ _,vI _ _,vI _ _,vB false]) ty.kd29 Z<|lq (rd (x := vB _) (rd_eqS rfl (.inl rfl) rfl rfl ty.sf29 ty.su29 ty.sh29 ty.sg29 ?hn6) rfl) ?_
              case hn6 => exact ⟨rfl,by decide,rfl,⟨_,Tryz.underlying3⟩,rfl,by decide,rfl,⟨_,Tryz.underlying3⟩,rfl,by decide,rfl,⟨_,Tryz.underlying3⟩,rfl,by decide,rfl,⟨_,Tryz.underlying3⟩,rfl,by decide,rfl,⟨_,Tryz.underlying3⟩,rfl,by decide,rfl,⟨_,Tryz.underlying3⟩,by decide,rfl,Tryz.underlying4,trivial⟩
              refine lkB Z<|laB Z<|nG<|aR ?_
              refine eBo trivial ?_
              have hkd : e.kind = 9 := by simpa using h19
              have ha1 : amtOk e.amt = true := by simpa using h1
              have ha2 : amtOk e.fee = true := by simpa using h2
              clear h1 h2 h3 h5 h8 h10 h13 h19
              unfold eventOk
              rw [hkd]
              rcases hy : e.yes with _ | _ <;> refine Bool.eq_iff_iff.2 ?_ <;> simp [fieldB,hK,hC,hT,hA,hF,hY,inB,eqVals,amtOk,keyOk,chOk] at * <;> omega
             ·intro h24
              refine lno Z<|lno Z<|lno Z<|lkZ Z<|laZ Z<|nG<|aR ?_
              refine eBo trivial ?_
              have hkd : e.kind = 9 := by simpa using h19
              have ha1 : amtOk e.amt = true := by simpa using h1
              have ha2 : amtOk e.fee = true := by simpa using h2
              clear h1 h2 h3 h5 h8 h10 h13 h19
              unfold eventOk
              rw [hkd]
              rcases hy : e.yes with _ | _ <;> refine Bool.eq_iff_iff.2 ?_ <;> simp [fieldB,hK,hC,hT,hA,hF,hY,inB,eqVals,amtOk,keyOk,chOk] at * <;> omega
            ·intro h23
             refine lno Z<|lno Z<|lno Z<|lkZ Z<|laZ Z<|lN<|gB<|gA<|lmZ Z<|lmZ Z<|lno Z<|lno Z<|lno Z<|lkZ Z<|laZ Z<|nG<|aR ?_
             refine eBo trivial ?_
             have hkd : e.kind = 9 := by simpa using h19
             have ha1 : amtOk e.amt = true := by simpa using h1
             have ha2 : amtOk e.fee = true := by simpa using h2
             clear h1 h2 h3 h5 h8 h10 h13 h19
             unfold eventOk
             rw [hkd]
             rcases hy : e.yes with _ | _ <;> refine Bool.eq_iff_iff.2 ?_ <;> simp [fieldB,hK,hC,hT,hA,hF,hY,inB,eqVals,amtOk,keyOk,chOk] at * <;> omega
           ·intro h22
            refine lno Z<|lno Z<|lno Z<|lno Z<|lno Z<|lkZ Z<|lT [1,2,3,4,155] [2001,2003] ?_
            refine lmZ Z<|lno Z<|lno Z<|lno Z<|lkZ Z<|laZ Z<|lN<|gB<|gA<|lmZ Z<|lmZ Z<|lno Z<|lno Z<|lno Z<|lkZ Z<|laZ Z<|nG<|aR ?_
            refine eBo trivial ?_
            have hkd : e.kind = 9 := by simpa using h19
            have ha1 : amtOk e.amt = true := by simpa using h1
            have ha2 : amtOk e.fee = true := by simpa using h2
            clear h1 h2 h3 h5 h8 h10 h13 h19
            unfold eventOk
            rw [hkd]
            rcases hy : e.yes with _ | _ <;> refine Bool.eq_iff_iff.2 ?_ <;> simp [fieldB,hK,hC,hT,hA,hF,hY,inB,eqVals,amtOk,keyOk,chOk] at * <;> omega
          ·intro h21
           refine lno Z<|lno Z<|lno Z<|lkZ Z<|lmZ Z<|lno Z<|lno Z<|lno Z<|lno Z<|lno Z<|lkZ Z<|lmZ Z<|lno Z<|lno Z<|lno Z<|lkZ Z<|laZ Z<|lN<|gB<|gA<|lmZ Z<|lmZ Z<|lno Z<|lno Z<|lno Z<|lkZ Z<|laZ Z<|lN ?_
           refine gT<|aR ?_
           refine eBo trivial ?_
           have hkd : e.kind = 9 := by simpa using h19
           have ha1 : amtOk e.amt = true := by simpa using h1
           have ha2 : amtOk e.fee = true := by simpa using h2
           clear h1 h2 h3 h5 h8 h10 h13 h19
           unfold eventOk
           rw [hkd]
           rcases hy : e.yes with _ | _ <;> refine Bool.eq_iff_iff.2 ?_ <;> simp [fieldB,hK,hC,hT,hA,hF,hY,inB,eqVals,amtOk,keyOk,chOk] at * <;> omega
         ·intro h20
          refine lno Z<|lno Z<|lno Z<|lkZ Z<|lmZ Z<|lno Z<|lno Z<|lno Z<|lkZ Z<|lmZ Z<|lno Z<|lno Z<|lno Z<|lno Z<|lno Z<|lkZ Z<|lmZ Z<|lno Z<|lno Z<|lno Z<|lkZ Z<|laZ Z<|lN<|gB<|gA<|lmZ Z<|lmZ Z<|lno Z ?_
          refine lno Z<|lno Z<|lkZ Z<|laZ Z<|nG<|aR ?_
          refine eBo trivial ?_
          have hkd : e.kind = 9 := by simpa using h19
          have ha1 : amtOk e.amt = true := by simpa using h1
          have ha2 : amtOk e.fee = true := by simpa using h2
          clear h1 h2 h3 h5 h8 h10 h13 h19
          unfold eventOk
          rw [hkd]
          rcases hy : e.yes with _ | _ <;> refine Bool.eq_iff_iff.2 ?_ <;> simp [fieldB,hK,hC,hT,hA,hF,hY,inB,eqVals,amtOk,keyOk,chOk] at * <;> omega
        ·intro h19
         refine aS<|sL<|lbB Z<|lT [1,2,3,4,19,162] [2001,2003] ?_
         refine laB Z<|nG ?_
         refine AW.cond rfl ?_ ?_
         ·intro h25
          refine asB 161 true Z h25<|aK<|gT<|aY Z<|sL<|lf 1 ty.F29_1 Z<|loI ty.kd3 Z<|lf 1 ty.F29_1 Z<|lst (zB 2003 ty.co3 ty.inf3 Z) Z<|nG<|aL<|lf 1 ty.F29_1 Z<|loI ty.kd3 Z<|lst (zL Tryz.func94 (isKey_e _) Z) Z<|laB Z<|lN<|gB<|gA<|lmB Z<|lmB Z ?_
          refine AL.bool (t := 175) rfl ?_ ?_
          ·intro h26
           refine loX (.agg [vI _ _,vI _ _,vI _ _,vI _ _,vI _ _,vI _ _,vB _]) ty.kd29 Z<|loX (.agg [vI _ _,vI _ _,vI _ _,vI _ _,vI _ _,vI _ _,vB false]) ty.kd29 Z<|lq (rd (x := vB _) (rd_eqS rfl (.inl rfl) rfl rfl ty.sf29 ty.su29 ty.sh29 ty.sg29 ?hn7) rfl) ?_
           case hn7 => exact ⟨rfl,by decide,rfl,⟨_,Tryz.underlying3⟩,rfl,by decide,rfl,⟨_,Tryz.underlying3⟩,rfl,by decide,rfl,⟨_,Tryz.underlying3⟩,rfl,by decide,rfl,⟨_,Tryz.underlying3⟩,rfl,by decide,rfl,⟨_,Tryz.underlying3⟩,rfl,by decide,rfl,⟨_,Tryz.underlying3⟩,by decide,rfl,Tryz.underlying4,trivial⟩
           refine lkB Z<|laB Z<|nG<|aR ?_
           refine eBo trivial ?_
           have hkd : e.kind = 6 := by simpa using h25
           have ha1 : amtOk e.amt = true := by simpa using h1
           have ha2 : amtOk e.fee = true := by simpa using h2
           clear h1 h2 h3 h5 h8 h10 h13 h19 h25
           unfold eventOk
           rw [hkd]
           rcases hy : e.yes with _ | _ <;> refine Bool.eq_iff_iff.2 ?_ <;> simp [fieldB,hK,hC,hT,hA,hF,hY,inB,eqVals,amtOk,keyOk,chOk] at * <;> omega
          ·intro h26
           refine lno Z<|lno Z<|lno Z<|lkZ Z<|laZ Z<|nG<|aR ?_
           refine eBo trivial ?_
           have hkd : e.kind = 6 := by simpa using h25
           have ha1 : amtOk e.amt = true := by simpa using h1
           have ha2 : amtOk e.fee = true := by simpa using h2
           clear h1 h2 h3 h5 h8 h10 h13 h19 h25
           unfold eventOk
           rw [hkd]
           rcases hy : e.yes with _ | _ <;> refine Bool.eq_iff_iff.2 ?_ <;> simp [fieldB,hK,hC,hT,hA,hF,hY,inB,eqVals,amtOk,keyOk,chOk] at * <;> omega
         ·intro h25
          refine asB 161 false Z h25<|sL<|lbB Z<|laB Z<|nG ?_
          refine AW.cond rfl ?_ ?_
          ·intro h27
           refine asB 161 true Z h27<|aK<|gT<|aY Z<|sL<|lf 1 ty.F29_1 Z<|loI ty.kd3 Z<|lf 1 ty.F29_1 Z<|lst (zB 2003 ty.co3 ty.inf3 Z) Z<|lT [1,2,3,4] [2001,2003] ?_
           refine nG<|aL<|lf 1 ty.F29_1 Z<|loI ty.kd3 Z<|lst (zL Tryz.func94 (isKey_e _) Z) Z<|laB Z<|lN<|gB<|gA<|lmB Z<|lmB Z ?_
           refine AL.bool (t := 175) rfl ?_ ?_
           ·intro h28
            refine loX (.agg [vI _ _,vI _ _,vI _ _,vI _ _,vI _ _,vI _ _,vB _]) ty.kd29 Z<|loX (.agg [vI _ _,vI _ _,vI _ _,vI _ _,vI _ _,vI _ _,vB false]) ty.kd29 Z<|lq (rd (x := vB _) (rd_eqS rfl (.inl rfl) rfl rfl ty.sf29 ty.su29 ty.sh29 ty.sg29 ?hn8) rfl) ?_
            case hn8 => exact ⟨rfl,by decide,rfl,⟨_,Tryz.underlying3⟩,rfl,by decide,rfl,⟨_,Tryz.underlying3⟩,rfl,by decide,rfl,⟨_,Tryz.underlying3⟩,rfl,by decide,rfl,⟨_,Tryz.underlying3⟩,rfl,by decide,rfl,⟨_,Tryz.underlying3⟩,rfl,by decide,rfl,⟨_,Tryz.underlying3⟩,by decide,rfl,Tryz.underlying4,trivial⟩
            refine lkB Z<|laB Z<|nG<|aR ?_
            refine eBo trivial ?_
            have hkd : e.kind = 7 := by simpa using h27
            have ha1 : amtOk e.amt = true := by simpa using h1
            have ha2 : amtOk e.fee = true := by simpa using h2
            clear h1 h2 h3 h5 h8 h10 h13 h19 h25 h27
            unfold eventOk
            rw [hkd]
            rcases hy : e.yes with _ | _ <;> refine Bool.eq_iff_iff.2 ?_ <;> simp [fieldB,hK,hC,hT,hA,hF,hY,inB,eqVals,amtOk,keyOk,chOk] at * <;> omega
           ·intro h28
            refine lno Z<|lno Z<|lno Z<|lkZ Z<|laZ Z<|nG<|aR ?_
            refine eBo trivial ?_
            have hkd : e.kind = 7 := by simpa using h27
            have ha1 : amtOk e.amt = true := by simpa using h1
            have ha2 : amtOk e.fee = true := by simpa using h2
            clear h1 h2 h3 h5 h8 h10 h13 h19 h25 h27
            unfold eventOk
            rw [hkd]
            rcases hy : e.yes with _ | _ <;> refine Bool.eq_iff_iff.2 ?_ <;> simp [fieldB,hK,hC,hT,hA,hF,hY,inB,eqVals,amtOk,keyOk,chOk] at * <;> omega
          ·intro h27
           refine asB 161 false Z h27<|sL<|lbB Z<|laB Z<|nG ?_
           refine AW.cond rfl ?_ ?_
           ·intro h29
            refine asB 161 true Z h29<|aK<|gT<|aY Z<|sL<|lf 1 ty.F29_1 Z<|loI ty.kd3 Z<|lf 1 ty.F29_1 Z<|lst (zB 2003 ty.co3 ty.inf3 Z) Z<|lT [1,2,3,4] [2001,2003] ?_
            refine nG<|aL<|lf 1 ty.F29_1 Z<|loI ty.kd3 Z<|lst (zL Tryz.func94 (isKey_e _) Z) Z<|laB Z<|lN<|gB<|gA<|lmB Z<|lmB Z ?_
            refine AL.bool (t := 175) rfl ?_ ?_
            ·intro h30
             refine loX (.agg [vI _ _,vI _ _,vI _ _,vI _ _,vI _ _,vI _ _,vB _]) ty.kd29 Z<|loX (.agg [vI _ _,vI _ _,vI _ _,vI _ _,vI _ _,vI _ _,vB false]) ty.kd29 Z<|lq (rd (x := vB _) (rd_eqS rfl (.inl rfl) rfl rfl ty.sf29 ty.su29 ty.sh29 ty.sg29 ?hn9) rfl) ?_
             case hn9 => exact ⟨rfl,by decide,rfl,⟨_,Tryz.underlying3⟩,rfl,by decide,rfl,⟨_,Tryz.underlying3⟩,rfl,by decide,rfl,⟨_,Tryz.underlying3⟩,rfl,by decide,rfl,⟨_,Tryz.underlying3⟩,rfl,by decide,rfl,⟨_,Tryz.underlying3⟩,rfl,by decide,rfl,⟨_,Tryz.underlying3⟩,by decide,rfl,Tryz.underlying4,trivial⟩
             refine lkB Z<|laB Z<|nG<|aR ?_
             refine eBo trivial ?_
             have hkd : e.kind = 10 := by simpa using h29
             have ha1 : amtOk e.amt = true := by simpa using h1
             have ha2 : amtOk e.fee = true := by simpa using h2
             clear h1 h2 h3 h5 h8 h10 h13 h19 h25 h27 h29
             unfold eventOk
             rw [hkd]
             rcases hy : e.yes with _ | _ <;> refine Bool.eq_iff_iff.2 ?_ <;> simp [fieldB,hK,hC,hT,hA,hF,hY,inB,eqVals,amtOk,keyOk,chOk] at * <;> omega
            ·intro h30
             refine lno Z<|lno Z<|lno Z<|lkZ Z<|laZ Z<|nG<|aR ?_
             refine eBo trivial ?_
             have hkd : e.kind = 10 := by simpa using h29
             have ha1 : amtOk e.amt = true := by simpa using h1
             have ha2 : amtOk e.fee = true := by simpa using h2
             clear h1 h2 h3 h5 h8 h10 h13 h19 h25 h27 h29
             unfold eventOk
             rw [hkd]
             rcases hy : e.yes with _ | _ <;> refine Bool.eq_iff_iff.2 ?_ <;> simp [fieldB,hK,hC,hT,hA,hF,hY,inB,eqVals,amtOk,keyOk,chOk] at * <;> omega
           ·intro h29
            refine asB 161 false Z h29<|aL<|lbB Z<|laB Z<|nG ?_
            refine AW.cond rfl ?_ ?_
            ·intro h31
             refine sL<|lf 1 ty.F29_1 Z<|loI ty.kd3 Z<|lf 1 ty.F29_1 Z<|lst (zB 2003 ty.co3 ty.inf3 Z) Z<|lT [1,2,3,4] [2001,2003] ?_
             refine nG<|aL<|lf 1 ty.F29_1 Z<|loI ty.kd3 Z<|lst (zL Tryz.func94 (isKey_e _) Z) Z<|laB Z<|lN<|gB<|gA<|lmB Z<|lmB Z ?_
             refine AL.bool (t := 175) rfl ?_ ?_
             ·intro h32
              refine loX (.agg [vI _ _,vI _ _,vI _ _,vI _ _,vI _ _,vI _ _,vB _]) ty.kd29 Z<|loX (.agg [vI _ _,vI _ _,vI _ _,vI _ _,vI _ _,vI _ _,vB false]) ty.kd29 Z<|lq (rd (x := vB _) (rd_eqS rfl (.inl rfl) rfl rfl ty.sf29 ty.su29 ty.sh29 ty.sg29 ?hn10) rfl) ?_
              case hn10 => exact ⟨rfl,by decide,rfl,⟨_,Tryz.underlying3⟩,rfl,by decide,rfl,⟨_,Tryz.underlying3⟩,rfl,by decide,rfl,⟨_,Tryz.underlying3⟩,rfl,by decide,rfl,⟨_,Tryz.underlying3⟩,rfl,by decide,rfl,⟨_,Tryz.underlying3⟩,rfl,by decide,rfl,⟨_,Tryz.underlying3⟩,by decide,rfl,Tryz.underlying4,trivial⟩
              refine lkB Z<|laB Z<|nG<|aR ?_
              refine eBo trivial ?_
              have hkd : e.kind = 11 := by simpa using h31
              have ha1 : amtOk e.amt = true := by simpa using h1
              have ha2 : amtOk e.fee = true := by simpa using h2
              clear h1 h2 h3 h5 h8 h10 h13 h19 h25 h27 h29 h31
              unfold eventOk
              rw [hkd]
              rcases hy : e.yes with _ | _ <;> refine Bool.eq_iff_iff.2 ?_ <;> simp [fieldB,hK,hC,hT,hA,hF,hY,inB,eqVals,amtOk,keyOk,chOk] at * <;> omega
             ·intro h32
              refine lno Z<|lno Z<|lno Z<|lkZ Z<|laZ Z<|nG<|aR ?_
              refine eBo trivial ?_
              have hkd : e.kind = 11 := by simpa using h31
              have ha1 : amtOk e.amt = true := by simpa using h1
              have ha2 : amtOk e.fee = true := by simpa using h2
              clear h1 h2 h3 h5 h8 h10 h13 h19 h25 h27 h29 h31
              unfold eventOk
              rw [hkd]
              rcases hy : e.yes with _ | _ <;> refine Bool.eq_iff_iff.2 ?_ <;> simp [fieldB,hK,hC,hT,hA,hF,hY,inB,eqVals,amtOk,keyOk,chOk] at * <;> omega
            ·intro h31
             refine sL<|lbB Z<|laB Z<|nG ?_
             refine AW.cond rfl ?_ ?_
             ·intro h33
              refine aK<|gB<|gA<|lmT Z<|lmT Z<|loX (.agg [vI _ _,vI _ _,vI _ _,vI _ _,vI _ _,vI _ _,vB _]) ty.kd29 Z<|loX (.agg [vI _ _,vI _ _,vI _ _,vI _ _,vI _ _,vI _ _,vB false]) ty.kd29 Z<|lq (rd (x := vB _) (rd_eqS rfl (.inl rfl) rfl rfl ty.sf29 ty.su29 ty.sh29 ty.sg29 ?hn11) rfl) ?_
              case hn11 => exact ⟨rfl,by decide,rfl,⟨_,Tryz.underlying3⟩,rfl,by decide,rfl,⟨_,Tryz.underlying3⟩,rfl,by decide,rfl,⟨_,Tryz.underlying3⟩,rfl,by decide,rfl,⟨_,Tryz.underlying3⟩,rfl,by decide,rfl,⟨_,Tryz.underlying3⟩,rfl,by decide,rfl,⟨_,Tryz.underlying3⟩,by decide,rfl,Tryz.underlying4,trivial⟩
              refine lkB Z<|laB Z<|nG<|aR ?_
              refine eBo trivial ?_
              have hkd : e.kind = 8 := by simpa using h33
              have ha1 : amtOk e.amt = true := by simpa using h1
              have ha2 : amtOk e.fee = true := by simpa using h2
              clear h1 h2 h3 h5 h8 h10 h13 h19 h25 h27 h29 h31 h33
              unfold eventOk
              rw [hkd]
              rcases hy : e.yes with _ | _ <;> refine Bool.eq_iff_iff.2 ?_ <;> simp [fieldB,hK,hC,hT,hA,hF,hY,inB,eqVals,amtOk,keyOk,chOk] at * <;> omega
             ·intro h33
              refine sL<|laZ Z<|nG<|aR<|rB<|rT ?_
              refine eBo trivial ?_
              refine (evNone ?_).symm
              have : True := trivial
              simp only [decide_eq_false_iff_not] at *
              omega

def DrE : AV → Prop := fun x => ∃ e,wfEvent e ∧ x = evV e
abbrev evC (T : Option Value) (a b c d e f : Int) (g : Bool) : AO := .box 29 T [int a,int b,int c,int d,int e,int f,boo g]
abbrev Ev7 := Int × Int × Int × Int × Int × Int × Bool
abbrev ev7 (z : Ev7) : Event := ⟨z.1,z.2.1,z.2.2.1,z.2.2.2.1,z.2.2.2.2.1,z.2.2.2.2.2.1,z.2.2.2.2.2.2⟩
abbrev encI (n : Int) : List Value := [.int .i64 n]
theorem tmod4 (x : Int) : -3 ≤ x.tmod 4 ∧ x.tmod 4 ≤ 3 := by cases x <;> simp [Int.tmod] <;> omega
theorem mem_i64 : ∀ x ∈ ([-101,-100,0,19,20,100,101] : List Int),i64 x := by intro x hx;simp at hx;unfold i64;omega
theorem l04Draw_e (g : Value) (code : List Int) (i : Nat) (h : Int) (hc : CurOk code i) : GX Tryz.prog 34 [.ptr 0 0 0] [(0,curO g code i h)] (DrR g code DrE) := by
 refine GX.intro (rs := [.cell 2 29 (some 7)]) Tryz.func34 rfl Tryz.ntmps34 (Nat.le_of_ble_eq_true rfl) ⟨rfl,rfl,ty.kd29,trivial⟩ ?_
 intro L O w0
 refine sL<|lst (zA 2002 ty.ze29 Z) Z<|nA<|lmP Z ?_
 refine lX [(0,0)] [] [0] Tryz.func35 (l01Below_e g code _ _ _ hc) (⟨⟨0,rfl,rfl⟩,trivial⟩) (pins_cur) Z ?_
 intro xz1 oz1 hz1
 obtain ⟨i1,q1,hc1,⟨n1,⟨na1,nb1⟩,rfl⟩,rfl⟩ := hz1
 refine lgI Z<|laI Z<|nA<|lmI Z<|lq (rd (x := .agg [vI _ _,vI _ _,vI _ _,vI _ _,vI _ _,vI _ _,vB false]) (rd_build Z ty.sa29 Z Z Z) Z)<|lst (zA 2004 ty.ze29 Z) Z<|lst (zB 2004 ty.co29 ty.inf29 Z) Z<|nA<|lmI Z<|lst (zC [(60,60)] [60] [] Tryz.func92 (shas_e _) (trivial) Z Z) Z<|laO Z<|nG ?_
 refine aJ [0,2,4,5] [60,2002] (D := Nat × Int × Ev7) (fun d => []) (fun d => [(0,curO g code d.1 d.2.1),(2004,evC none d.2.2.1 d.2.2.2.1 d.2.2.2.2.1 d.2.2.2.2.2.1 d.2.2.2.2.2.2.1 d.2.2.2.2.2.2.2.1 d.2.2.2.2.2.2.2.2)]) (fun d => CurOk code d.1 ∧ wfEvent (ev7 d.2.2)) ?_ ?_
 ·refine sL<|lmO Z<|lq (rj 0 ty.el124 rfl (by show 0 < 6;decide))<|lq (rd (x := vB _) (rd_load_arr rfl ty.kd4 rfl rfl rfl (rfl) rfl) rfl)<|nG ?_
  refine AW.cond rfl ?_ ?_
  ·intro h1
   refine aL<|lmP Z ?_
   refine lX [(0,0)] [] [0] Tryz.func35 (l01Below_e g code _ _ _ hc1) (⟨⟨0,rfl,rfl⟩,trivial⟩) (pins_cur) Z ?_
   intro xz2 oz2 hz2
   obtain ⟨i2,q2,hc2,⟨n2,⟨na2,nb2⟩,rfl⟩,rfl⟩ := hz2
   refine lT [0,2,4,5,17] [0,60,2002,2004] ?_
   refine lgI Z<|lf 1 ty.F29_1 Z<|lst (zB 2004 ty.co3 ty.inf3 Z) Z<|nG ?_
   refine ⟨(_,_,_,_,_,_,_,_,_),(by refine ⟨by assumption,?_⟩;simp only [wfEvent,i64,ev7] at *;omega),trivial,⟨rfl,rfl,trivial⟩,rfl,rfl⟩
  ·intro h1
   refine aK<|gT ?_
   refine ⟨(_,_,_,_,_,_,_,_,_),(by refine ⟨by assumption,?_⟩;simp only [wfEvent,i64,ev7] at *;omega),trivial,⟨rfl,rfl,trivial⟩,rfl,rfl⟩
 ·intro ⟨iJ6,qJ6,ea6,eb6,ec6,ed6,ee6,ef6,eg6⟩ hJ6
  dsimp only
  obtain ⟨hcJ6,hwJ6⟩ := hJ6
  replace hcJ6 : CurOk code iJ6 := hcJ6
  unfold wfEvent i64 at hwJ6
  simp only [ev7] at hwJ6
  refine aJ [0,2,4,5] [60,2002] (D := Nat × Int × Ev7) (fun d => []) (fun d => [(0,curO g code d.1 d.2.1),(2004,evC none d.2.2.1 d.2.2.2.1 d.2.2.2.2.1 d.2.2.2.2.2.1 d.2.2.2.2.2.2.1 d.2.2.2.2.2.2.2.1 d.2.2.2.2.2.2.2.2)]) (fun d => CurOk code d.1 ∧ wfEvent (ev7 d.2.2)) ?_ ?_
  ·refine sL<|lmO Z<|lq (rj 1 ty.el124 rfl (by show 1 < 6;decide))<|lq (rd (x := vB _) (rd_load_arr rfl ty.kd4 rfl rfl rfl (rfl) rfl) rfl)<|nG ?_
   refine AW.cond rfl ?_ ?_
   ·intro h2
    refine aL<|lmP Z ?_
    refine lX [(0,0)] [] [0] Tryz.func35 (l01Below_e g code _ _ _ hcJ6) (⟨⟨0,rfl,rfl⟩,trivial⟩) (pins_cur) Z ?_
    intro xz3 oz3 hz3
    obtain ⟨i3,q3,hc3,⟨n3,⟨na3,nb3⟩,rfl⟩,rfl⟩ := hz3
    refine lgI Z<|lf 2 ty.F29_2 Z<|lst (zB 2004 ty.co3 ty.inf3 Z) Z<|nG ?_
    refine ⟨(_,_,_,_,_,_,_,_,_),(by refine ⟨by assumption,?_⟩;simp only [wfEvent,i64,ev7] at *;omega),trivial,⟨rfl,rfl,trivial⟩,rfl,rfl⟩
   ·intro h2
    refine aK<|gT ?_
    refine ⟨(_,_,_,_,_,_,_,_,_),(by refine ⟨by assumption,?_⟩;simp only [wfEvent,i64,ev7] at *;omega),trivial,⟨rfl,rfl,trivial⟩,rfl,rfl⟩
  ·intro ⟨iJ8,qJ8,ea8,eb8,ec8,ed8,ee8,ef8,eg8⟩ hJ8
   dsimp only
   obtain ⟨hcJ8,hwJ8⟩ := hJ8
   replace hcJ8 : CurOk code iJ8 := hcJ8
   unfold wfEvent i64 at hwJ8
   simp only [ev7] at hwJ8
   refine aJ [0,2,4,5] [60,2002] (D := Nat × Int × Ev7) (fun d => []) (fun d => [(0,curO g code d.1 d.2.1),(2004,evC none d.2.2.1 d.2.2.2.1 d.2.2.2.2.1 d.2.2.2.2.2.1 d.2.2.2.2.2.2.1 d.2.2.2.2.2.2.2.1 d.2.2.2.2.2.2.2.2)]) (fun d => CurOk code d.1 ∧ wfEvent (ev7 d.2.2)) ?_ ?_
   ·refine sL<|lmO Z<|lq (rj 2 ty.el124 rfl (by show 2 < 6;decide))<|lq (rd (x := vB _) (rd_load_arr rfl ty.kd4 rfl rfl rfl (rfl) rfl) rfl)<|nG ?_
    refine AW.cond rfl ?_ ?_
    ·intro h3
     refine aG 8 [0]<|tq 0 (rf 2 ty.F29_2 Z)<|tq 1 (roI ty.kd3 Z)<|yq 2 (rmP Z) ?_
     refine AG.stx (i := 3) rfl (by kernel_rfl) (St.callX [(0,0)] [] [0] rfl (by intro s hs;cases hs;decide) rfl Tryz.func35 rfl rfl (l01Below_e g code _ _ _ hcJ8) ⟨rfl,rfl,rfl⟩ (⟨⟨0,rfl,rfl⟩,trivial⟩) (pins_cur) rfl) (exK (l := [0]) rfl rfl) rfl ?_
     rintro _ _ ⟨xz5,oz5,hz5,rfl,rfl⟩
     obtain ⟨i5,q5,hc5,⟨n5,⟨na5,nb5⟩,rfl⟩,rfl⟩ := hz5
     refine yq 4 (rd (x := vI _ _) (rd_val rfl rfl rfl (run_addw rfl) rfl) rfl) ?_
     refine yq 5 (rhI rfl ⟨rfl,by decide⟩) ?_
     have ht4 := tmod4 (IntKind.i64.wrap (ec8 + n5))
     refine yq 6 (rgI rfl (by unfold i64;omega))<|yq 7 (rf 3 ty.F29_3 rfl)<|yl rfl (zB 2004 ty.co3 ty.inf3 rfl)<|gT ?_
     refine ⟨(_,_,_,_,_,_,_,_,_),(by refine ⟨by assumption,?_⟩;simp only [wfEvent,i64,ev7] at *;omega),trivial,⟨rfl,rfl,trivial⟩,rfl,rfl⟩
    ·intro h3
     refine aK<|gT ?_
     refine ⟨(_,_,_,_,_,_,_,_,_),(by refine ⟨by assumption,?_⟩;simp only [wfEvent,i64,ev7] at *;omega),trivial,⟨rfl,rfl,trivial⟩,rfl,rfl⟩
   ·intro ⟨iJ10,qJ10,ea10,eb10,ec10,ed10,ee10,ef10,eg10⟩ hJ10
    dsimp only
    obtain ⟨hcJ10,hwJ10⟩ := hJ10
    replace hcJ10 : CurOk code iJ10 := hcJ10
    unfold wfEvent i64 at hwJ10
    simp only [ev7] at hwJ10
    refine aJ [0,2,4,5] [60,2002] (D := Nat × Int × Ev7) (fun d => []) (fun d => [(0,curO g code d.1 d.2.1),(2004,evC none d.2.2.1 d.2.2.2.1 d.2.2.2.2.1 d.2.2.2.2.2.1 d.2.2.2.2.2.2.1 d.2.2.2.2.2.2.2.1 d.2.2.2.2.2.2.2.2)]) (fun d => CurOk code d.1 ∧ wfEvent (ev7 d.2.2)) ?_ ?_
    ·refine sL<|lmO Z<|lq (rj 3 ty.el124 rfl (by show 3 < 6;decide))<|lq (rd (x := vB _) (rd_load_arr rfl ty.kd4 rfl rfl rfl (rfl) rfl) rfl)<|nG ?_
     refine AW.cond rfl ?_ ?_
     ·intro h4
      refine aL<|lmP Z ?_
      refine lX [(0,0)] [] [0] Tryz.func35 (l01Below_e g code _ _ _ hcJ10) (⟨⟨0,rfl,rfl⟩,trivial⟩) (pins_cur) Z ?_
      intro xz6 oz6 hz6
      obtain ⟨i6,q6,hc6,⟨n6,⟨na6,nb6⟩,rfl⟩,rfl⟩ := hz6
      refine lgI Z<|lgI Z<|lf 4 ty.F29_4 Z<|lst (zB 2004 ty.co3 ty.inf3 Z) Z<|nG ?_
      refine ⟨(_,_,_,_,_,_,_,_,_),(by refine ⟨by assumption,?_⟩;simp only [wfEvent,i64,ev7] at *;omega),trivial,⟨rfl,rfl,trivial⟩,rfl,rfl⟩
     ·intro h4
      refine aK<|gT ?_
      refine ⟨(_,_,_,_,_,_,_,_,_),(by refine ⟨by assumption,?_⟩;simp only [wfEvent,i64,ev7] at *;omega),trivial,⟨rfl,rfl,trivial⟩,rfl,rfl⟩
    ·intro ⟨iJ12,qJ12,ea12,eb12,ec12,ed12,ee12,ef12,eg12⟩ hJ12
     dsimp only
     obtain ⟨hcJ12,hwJ12⟩ := hJ12
     replace hcJ12 : CurOk code iJ12 := hcJ12
     unfold wfEvent i64 at hwJ12
     simp only [ev7] at hwJ12
     refine aJ [0,2,4,5] [60,2002] (D := Nat × Int × Ev7) (fun d => []) (fun d => [(0,curO g code d.1 d.2.1),(2004,evC none d.2.2.1 d.2.2.2.1 d.2.2.2.2.1 d.2.2.2.2.2.1 d.2.2.2.2.2.2.1 d.2.2.2.2.2.2.2.1 d.2.2.2.2.2.2.2.2)]) (fun d => CurOk code d.1 ∧ wfEvent (ev7 d.2.2)) ?_ ?_
     ·refine sL<|lmO Z<|lq (rj 4 ty.el124 rfl (by show 4 < 6;decide))<|lq (rd (x := vB _) (rd_load_arr rfl ty.kd4 rfl rfl rfl (rfl) rfl) rfl)<|nG ?_
      refine AW.cond rfl ?_ ?_
      ·intro h5
       refine aL<|lmP Z ?_
       refine lX [(0,0)] [] [0] Tryz.func35 (l01Below_e g code _ _ _ hcJ12) (⟨⟨0,rfl,rfl⟩,trivial⟩) (pins_cur) Z ?_
       intro xz7 oz7 hz7
       obtain ⟨i7,q7,hc7,⟨n7,⟨na7,nb7⟩,rfl⟩,rfl⟩ := hz7
       refine lgI Z<|lf 5 ty.F29_5 Z<|lst (zB 2004 ty.co3 ty.inf3 Z) Z<|nG ?_
       refine ⟨(_,_,_,_,_,_,_,_,_),(by refine ⟨by assumption,?_⟩;simp only [wfEvent,i64,ev7] at *;omega),trivial,⟨rfl,rfl,trivial⟩,rfl,rfl⟩
      ·intro h5
       refine aK<|gT ?_
       refine ⟨(_,_,_,_,_,_,_,_,_),(by refine ⟨by assumption,?_⟩;simp only [wfEvent,i64,ev7] at *;omega),trivial,⟨rfl,rfl,trivial⟩,rfl,rfl⟩
     ·intro ⟨iJ14,qJ14,ea14,eb14,ec14,ed14,ee14,ef14,eg14⟩ hJ14
      dsimp only
      obtain ⟨hcJ14,hwJ14⟩ := hJ14
      replace hcJ14 : CurOk code iJ14 := hcJ14
      unfold wfEvent i64 at hwJ14
      simp only [ev7] at hwJ14
      refine aJ [0,2,4,5] [60,2002] (D := Nat × Int × Ev7) (fun d => []) (fun d => [(0,curO g code d.1 d.2.1),(2004,evC none d.2.2.1 d.2.2.2.1 d.2.2.2.2.1 d.2.2.2.2.2.1 d.2.2.2.2.2.2.1 d.2.2.2.2.2.2.2.1 d.2.2.2.2.2.2.2.2)]) (fun d => CurOk code d.1 ∧ wfEvent (ev7 d.2.2)) ?_ ?_
      ·refine aL<|lmO Z<|lq (rj 5 ty.el124 rfl (by show 5 < 6;decide))<|lq (rd (x := vB _) (rd_load_arr rfl ty.kd4 rfl rfl rfl (rfl) rfl) rfl)<|lmB rfl ?_
       refine AL.bool (t := 56) rfl ?_ ?_
       ·intro h6
        refine lmP rfl ?_
        refine lX [(0,0)] [] [0] Tryz.func35 (l01Below_e g code _ _ _ hcJ14) (⟨⟨0,rfl,rfl⟩,trivial⟩) (pins_cur) Z ?_
        intro xz8 oz8 hz8
        obtain ⟨i8,q8,hc8,⟨n8,⟨na8,nb8⟩,rfl⟩,rfl⟩ := hz8
        refine lbB Z<|lkB Z<|lf 6 ty.F29_6 Z<|lst (zB 2004 ty.co4 ty.inf4 Z) Z<|nG ?_
        refine ⟨(_,_,_,_,_,_,_,_,_),(by refine ⟨by assumption,?_⟩;simp only [wfEvent,i64,ev7] at *;omega),trivial,⟨rfl,rfl,trivial⟩,rfl,rfl⟩
       ·intro h6
        refine lno Z<|lno Z<|lno Z<|lkZ Z<|lf 6 ty.F29_6 Z<|lst (zB 2004 ty.co4 ty.inf4 Z) Z<|nG ?_
        refine ⟨(_,_,_,_,_,_,_,_,_),(by refine ⟨by assumption,?_⟩;simp only [wfEvent,i64,ev7] at *;omega),trivial,⟨rfl,rfl,trivial⟩,rfl,rfl⟩
      ·intro ⟨iJ15,qJ15,ea15,eb15,ec15,ed15,ee15,ef15,eg15⟩ hJ15
       dsimp only
       obtain ⟨hcJ15,hwJ15⟩ := hJ15
       replace hcJ15 : CurOk code iJ15 := hcJ15
       unfold wfEvent i64 at hwJ15
       simp only [ev7] at hwJ15
       refine aJ [2,4] [60,2002] (D := Nat × Int × Ev7) (fun d => []) (fun d => [(0,curO g code d.1 d.2.1),(2004,evC none d.2.2.1 d.2.2.2.1 d.2.2.2.2.1 d.2.2.2.2.2.1 d.2.2.2.2.2.2.1 d.2.2.2.2.2.2.2.1 d.2.2.2.2.2.2.2.2)]) (fun d => CurOk code d.1 ∧ wfEvent (ev7 d.2.2)) ?_ ?_
       ·refine sL<|lmP Z ?_
        refine lX [(0,0)] [] [0] Tryz.func35 (l01Below_e g code _ _ _ hcJ15) (⟨⟨0,rfl,rfl⟩,trivial⟩) (pins_cur) Z ?_
        intro xz9 oz9 hz9
        obtain ⟨i9,q9,hc9,⟨n9,⟨na9,nb9⟩,rfl⟩,rfl⟩ := hz9
        refine lbB Z<|lmB Z ?_
        refine AL.bool (t := 65) rfl ?_ ?_
        ·intro h7
         refine lmO Z<|lq (rj 3 ty.el124 rfl (by show 3 < 6;decide))<|lq (rd (x := vB _) (rd_load_arr rfl ty.kd4 rfl rfl rfl (rfl) rfl) rfl)<|lkB Z<|nG ?_
         refine AW.cond rfl ?_ ?_
         ·intro h8
          refine aL<|lmP Z ?_
          refine lX [(0,0)] [] [0] Tryz.func35 (l01Below_e g code _ _ _ hc9) (⟨⟨0,rfl,rfl⟩,trivial⟩) (pins_cur) Z ?_
          intro xz10 oz10 hz10
          obtain ⟨i10,q10,hc10,⟨n10,⟨na10,nb10⟩,rfl⟩,rfl⟩ := hz10
          refine lgI Z<|lf 4 ty.F29_4 Z<|lst (zB 2004 ty.co3 ty.inf3 Z) Z<|nG ?_
          refine ⟨(_,_,_,_,_,_,_,_,_),(by refine ⟨by assumption,?_⟩;simp only [wfEvent,i64,ev7] at *;omega),trivial,⟨rfl,rfl,trivial⟩,rfl,rfl⟩
         ·intro h8
          refine aK<|gT ?_
          refine ⟨(_,_,_,_,_,_,_,_,_),(by refine ⟨by assumption,?_⟩;simp only [wfEvent,i64,ev7] at *;omega),trivial,⟨rfl,rfl,trivial⟩,rfl,rfl⟩
        ·intro h7
         refine lno Z<|lno Z<|lno Z<|lkZ Z<|nG<|aN Z<|aK<|gT ?_
         refine ⟨(_,_,_,_,_,_,_,_,_),(by refine ⟨by assumption,?_⟩;simp only [wfEvent,i64,ev7] at *;omega),trivial,⟨rfl,rfl,trivial⟩,rfl,rfl⟩
       ·intro ⟨iJ17,qJ17,ea17,eb17,ec17,ed17,ee17,ef17,eg17⟩ hJ17
        dsimp only
        obtain ⟨hcJ17,hwJ17⟩ := hJ17
        replace hcJ17 : CurOk code iJ17 := hcJ17
        unfold wfEvent i64 at hwJ17
        simp only [ev7] at hwJ17
        refine sL<|loX (.agg [vI _ _,vI _ _,vI _ _,vI _ _,vI _ _,vI _ _,vB _]) ty.kd29 Z<|lst (zB 2002 ty.co29 ty.inf29 Z) Z<|nG<|aR ?_
        refine end_xret (evV ⟨_,_,_,_,_,_,_⟩) [(0,curO g code _ _)] ?_ rfl ⟨rfl,trivial⟩
        exact ⟨_,_,by assumption,⟨_,by simp only [wfEvent,i64] at *;omega,rfl⟩,rfl⟩
theorem l04Any_e (g : Value) (code : List Int) (i : Nat) (h : Int) (hc : CurOk code i) : GX Tryz.prog 36 [.ptr 0 0 0] [(0,curO g code i h)] (DrR g code DrE) := by
 refine GX.intro (rs := [.cell 2 29 (some 7)]) Tryz.func36 rfl Tryz.ntmps36 (Nat.le_of_ble_eq_true rfl) ⟨rfl,rfl,ty.kd29,trivial⟩ ?_
 intro L O w0
 refine sL<|lst (zA 2002 ty.ze29 Z) Z<|nA<|lmP Z ?_
 refine lX [(0,0)] [] [0] Tryz.func34 (l04Draw_e g code _ _ hc) (⟨⟨0,rfl,rfl⟩,trivial⟩) (pins_cur) Z ?_
 intro xz1 oz1 hz1
 obtain ⟨i1,q1,hc1,⟨⟨va1,vb1,vc1,vd1,ve1,vf1,vg1⟩,hw1,rfl⟩,rfl⟩ := hz1
 refine lst (zA 2003 ty.ze29 Z) Z<|lst (zB 2003 ty.co29 ty.inf29 Z) Z<|nA<|lmP Z ?_
 refine lX [(0,0)] [] [0] Tryz.func35 (l01Below_e g code _ _ _ hc1) (⟨⟨0,rfl,rfl⟩,trivial⟩) (pins_cur) Z ?_
 intro xz2 oz2 hz2
 obtain ⟨i2,q2,hc2,⟨n2,⟨na2,nb2⟩,rfl⟩,rfl⟩ := hz2
 refine laI Z<|nG ?_
 refine aJ [0,2,3,4] [2002] (D := Nat × Int × Ev7) (fun d => []) (fun d => [(0,curO g code d.1 d.2.1),(2003,evC none d.2.2.1 d.2.2.2.1 d.2.2.2.2.1 d.2.2.2.2.2.1 d.2.2.2.2.2.2.1 d.2.2.2.2.2.2.2.1 d.2.2.2.2.2.2.2.2)]) (fun d => CurOk code d.1 ∧ wfEvent (ev7 d.2.2)) ?_ ?_
 ·refine sL<|lmI Z<|lbB Z<|nG ?_
  refine AW.cond rfl ?_ ?_
  ·intro h1
   refine aL<|lmP Z ?_
   refine lX [(0,0)] [] [0] Tryz.func90 (l01Raw_e g code _ _ hc2) (⟨⟨0,rfl,rfl⟩,trivial⟩) (pins_cur) Z ?_
   intro xz3 oz3 hz3
   obtain ⟨i3,q3,hc3,⟨n3,hn3,rfl⟩,rfl⟩ := hz3
   refine lf 0 ty.F29_0 Z<|lst (zB 2003 ty.co3 ty.inf3 Z) Z<|lT [0,2,3,4] [0,2002,2003] ?_
   refine nG ?_
   refine ⟨(_,_,_,_,_,_,_,_,_),(by refine ⟨by assumption,?_⟩;simp only [wfEvent,i64,ev7] at *;omega),trivial,⟨rfl,rfl,trivial⟩,rfl,rfl⟩
  ·intro h1
   refine aK<|gT ?_
   refine ⟨(_,_,_,_,_,_,_,_,_),(by refine ⟨by assumption,?_⟩;simp only [wfEvent,i64,ev7] at *;omega),trivial,⟨rfl,rfl,trivial⟩,rfl,rfl⟩
 ·intro ⟨iJ5,qJ5,ea5,eb5,ec5,ed5,ee5,ef5,eg5⟩ hJ5
  dsimp only
  obtain ⟨hcJ5,hwJ5⟩ := hJ5
  replace hcJ5 : CurOk code iJ5 := hcJ5
  unfold wfEvent i64 at hwJ5
  simp only [ev7] at hwJ5
  refine aJ [0,2,3,4] [2002] (D := Nat × Int × Ev7) (fun d => []) (fun d => [(0,curO g code d.1 d.2.1),(2003,evC none d.2.2.1 d.2.2.2.1 d.2.2.2.2.1 d.2.2.2.2.2.1 d.2.2.2.2.2.2.1 d.2.2.2.2.2.2.2.1 d.2.2.2.2.2.2.2.2)]) (fun d => CurOk code d.1 ∧ wfEvent (ev7 d.2.2)) ?_ ?_
  ·refine sL<|lmI Z<|lbB Z<|nG ?_
   refine AW.cond rfl ?_ ?_
   ·intro h2
    refine aL<|lmP Z ?_
    refine lX [(0,0)] [] [0] Tryz.func90 (l01Raw_e g code _ _ hcJ5) (⟨⟨0,rfl,rfl⟩,trivial⟩) (pins_cur) Z ?_
    intro xz4 oz4 hz4
    obtain ⟨i4,q4,hc4,⟨n4,hn4,rfl⟩,rfl⟩ := hz4
    refine lf 1 ty.F29_1 Z<|lst (zB 2003 ty.co3 ty.inf3 Z) Z<|nG ?_
    refine ⟨(_,_,_,_,_,_,_,_,_),(by refine ⟨by assumption,?_⟩;simp only [wfEvent,i64,ev7] at *;omega),trivial,⟨rfl,rfl,trivial⟩,rfl,rfl⟩
   ·intro h2
    refine aK<|gT ?_
    refine ⟨(_,_,_,_,_,_,_,_,_),(by refine ⟨by assumption,?_⟩;simp only [wfEvent,i64,ev7] at *;omega),trivial,⟨rfl,rfl,trivial⟩,rfl,rfl⟩
  ·intro ⟨iJ7,qJ7,ea7,eb7,ec7,ed7,ee7,ef7,eg7⟩ hJ7
   dsimp only
   obtain ⟨hcJ7,hwJ7⟩ := hJ7
   replace hcJ7 : CurOk code iJ7 := hcJ7
   unfold wfEvent i64 at hwJ7
   simp only [ev7] at hwJ7
   refine aJ [0,2,3,4] [2002] (D := Nat × Int × Ev7) (fun d => []) (fun d => [(0,curO g code d.1 d.2.1),(2003,evC none d.2.2.1 d.2.2.2.1 d.2.2.2.2.1 d.2.2.2.2.2.1 d.2.2.2.2.2.2.1 d.2.2.2.2.2.2.2.1 d.2.2.2.2.2.2.2.2)]) (fun d => CurOk code d.1 ∧ wfEvent (ev7 d.2.2)) ?_ ?_
   ·refine sL<|lmI Z<|lbB Z<|nG ?_
    refine AW.cond rfl ?_ ?_
    ·intro h3
     refine aL<|lmP Z ?_
     refine lX [(0,0)] [] [0] Tryz.func90 (l01Raw_e g code _ _ hcJ7) (⟨⟨0,rfl,rfl⟩,trivial⟩) (pins_cur) Z ?_
     intro xz5 oz5 hz5
     obtain ⟨i5,q5,hc5,⟨n5,hn5,rfl⟩,rfl⟩ := hz5
     refine lf 2 ty.F29_2 Z<|lst (zB 2003 ty.co3 ty.inf3 Z) Z<|nG ?_
     refine ⟨(_,_,_,_,_,_,_,_,_),(by refine ⟨by assumption,?_⟩;simp only [wfEvent,i64,ev7] at *;omega),trivial,⟨rfl,rfl,trivial⟩,rfl,rfl⟩
    ·intro h3
     refine aK<|gT ?_
     refine ⟨(_,_,_,_,_,_,_,_,_),(by refine ⟨by assumption,?_⟩;simp only [wfEvent,i64,ev7] at *;omega),trivial,⟨rfl,rfl,trivial⟩,rfl,rfl⟩
   ·intro ⟨iJ9,qJ9,ea9,eb9,ec9,ed9,ee9,ef9,eg9⟩ hJ9
    dsimp only
    obtain ⟨hcJ9,hwJ9⟩ := hJ9
    replace hcJ9 : CurOk code iJ9 := hcJ9
    unfold wfEvent i64 at hwJ9
    simp only [ev7] at hwJ9
    refine aJ [0,2,3,4] [2002] (D := Nat × Int × Ev7) (fun d => []) (fun d => [(0,curO g code d.1 d.2.1),(2003,evC none d.2.2.1 d.2.2.2.1 d.2.2.2.2.1 d.2.2.2.2.2.1 d.2.2.2.2.2.2.1 d.2.2.2.2.2.2.2.1 d.2.2.2.2.2.2.2.2)]) (fun d => CurOk code d.1 ∧ wfEvent (ev7 d.2.2)) ?_ ?_
    ·refine sL<|lmI Z<|lbB Z<|nG ?_
     refine AW.cond rfl ?_ ?_
     ·intro h4
      refine aL<|lf 2 ty.F29_2 Z<|loI ty.kd3 Z<|lf 3 ty.F29_3 Z<|lst (zB 2003 ty.co3 ty.inf3 Z) Z<|nG ?_
      refine ⟨(_,_,_,_,_,_,_,_,_),(by refine ⟨by assumption,?_⟩;simp only [wfEvent,i64,ev7] at *;omega),trivial,⟨rfl,rfl,trivial⟩,rfl,rfl⟩
     ·intro h4
      refine aK<|gT ?_
      refine ⟨(_,_,_,_,_,_,_,_,_),(by refine ⟨by assumption,?_⟩;simp only [wfEvent,i64,ev7] at *;omega),trivial,⟨rfl,rfl,trivial⟩,rfl,rfl⟩
    ·intro ⟨iJ11,qJ11,ea11,eb11,ec11,ed11,ee11,ef11,eg11⟩ hJ11
     dsimp only
     obtain ⟨hcJ11,hwJ11⟩ := hJ11
     replace hcJ11 : CurOk code iJ11 := hcJ11
     unfold wfEvent i64 at hwJ11
     simp only [ev7] at hwJ11
     refine aJ [0,2,3,4] [2002] (D := Nat × Int × Ev7) (fun d => []) (fun d => [(0,curO g code d.1 d.2.1),(2003,evC none d.2.2.1 d.2.2.2.1 d.2.2.2.2.1 d.2.2.2.2.2.1 d.2.2.2.2.2.2.1 d.2.2.2.2.2.2.2.1 d.2.2.2.2.2.2.2.2)]) (fun d => CurOk code d.1 ∧ wfEvent (ev7 d.2.2)) ?_ ?_
     ·refine sL<|lmI Z<|lbB Z<|nG ?_
      refine AW.cond rfl ?_ ?_
      ·intro h5
       refine aL<|lmP Z ?_
       refine lX [(0,0)] [] [0] Tryz.func90 (l01Raw_e g code _ _ hcJ11) (⟨⟨0,rfl,rfl⟩,trivial⟩) (pins_cur) Z ?_
       intro xz6 oz6 hz6
       obtain ⟨i6,q6,hc6,⟨n6,hn6,rfl⟩,rfl⟩ := hz6
       refine lf 4 ty.F29_4 Z<|lst (zB 2003 ty.co3 ty.inf3 Z) Z<|nG ?_
       refine ⟨(_,_,_,_,_,_,_,_,_),(by refine ⟨by assumption,?_⟩;simp only [wfEvent,i64,ev7] at *;omega),trivial,⟨rfl,rfl,trivial⟩,rfl,rfl⟩
      ·intro h5
       refine aK<|gT ?_
       refine ⟨(_,_,_,_,_,_,_,_,_),(by refine ⟨by assumption,?_⟩;simp only [wfEvent,i64,ev7] at *;omega),trivial,⟨rfl,rfl,trivial⟩,rfl,rfl⟩
     ·intro ⟨iJ13,qJ13,ea13,eb13,ec13,ed13,ee13,ef13,eg13⟩ hJ13
      dsimp only
      obtain ⟨hcJ13,hwJ13⟩ := hJ13
      replace hcJ13 : CurOk code iJ13 := hcJ13
      unfold wfEvent i64 at hwJ13
      simp only [ev7] at hwJ13
      refine aJ [2,3,4] [2002] (D := Nat × Int × Ev7) (fun d => []) (fun d => [(0,curO g code d.1 d.2.1),(2003,evC none d.2.2.1 d.2.2.2.1 d.2.2.2.2.1 d.2.2.2.2.2.1 d.2.2.2.2.2.2.1 d.2.2.2.2.2.2.2.1 d.2.2.2.2.2.2.2.2)]) (fun d => CurOk code d.1 ∧ wfEvent (ev7 d.2.2)) ?_ ?_
      ·refine sL<|lmI Z<|lbB Z<|nG ?_
       refine AW.cond rfl ?_ ?_
       ·intro h6
        refine aL<|lmP Z ?_
        refine lX [(0,0)] [] [0] Tryz.func90 (l01Raw_e g code _ _ hcJ13) (⟨⟨0,rfl,rfl⟩,trivial⟩) (pins_cur) Z ?_
        intro xz7 oz7 hz7
        obtain ⟨i7,q7,hc7,⟨n7,hn7,rfl⟩,rfl⟩ := hz7
        refine lf 5 ty.F29_5 Z<|lst (zB 2003 ty.co3 ty.inf3 Z) Z<|nG ?_
        refine ⟨(_,_,_,_,_,_,_,_,_),(by refine ⟨by assumption,?_⟩;simp only [wfEvent,i64,ev7] at *;omega),trivial,⟨rfl,rfl,trivial⟩,rfl,rfl⟩
       ·intro h6
        refine aK<|gT ?_
        refine ⟨(_,_,_,_,_,_,_,_,_),(by refine ⟨by assumption,?_⟩;simp only [wfEvent,i64,ev7] at *;omega),trivial,⟨rfl,rfl,trivial⟩,rfl,rfl⟩
      ·intro ⟨iJ15,qJ15,ea15,eb15,ec15,ed15,ee15,ef15,eg15⟩ hJ15
       dsimp only
       obtain ⟨hcJ15,hwJ15⟩ := hJ15
       replace hcJ15 : CurOk code iJ15 := hcJ15
       unfold wfEvent i64 at hwJ15
       simp only [ev7] at hwJ15
       refine aJ [2,3] [2002] (D := Nat × Int × Ev7) (fun d => []) (fun d => [(0,curO g code d.1 d.2.1),(2003,evC none d.2.2.1 d.2.2.2.1 d.2.2.2.2.1 d.2.2.2.2.2.1 d.2.2.2.2.2.2.1 d.2.2.2.2.2.2.2.1 d.2.2.2.2.2.2.2.2)]) (fun d => CurOk code d.1 ∧ wfEvent (ev7 d.2.2)) ?_ ?_
       ·refine sL<|lmI Z<|lbB Z<|nG ?_
        refine AW.cond rfl ?_ ?_
        ·intro h7
         refine aL<|lf 6 ty.F29_6 Z<|loB ty.kd4 Z<|luB Z<|lf 6 ty.F29_6 Z<|lst (zB 2003 ty.co4 ty.inf4 Z) Z<|nG ?_
         refine ⟨(_,_,_,_,_,_,_,_,_),(by refine ⟨by assumption,?_⟩;simp only [wfEvent,i64,ev7] at *;omega),trivial,⟨rfl,rfl,trivial⟩,rfl,rfl⟩
        ·intro h7
         refine aK<|gT ?_
         refine ⟨(_,_,_,_,_,_,_,_,_),(by refine ⟨by assumption,?_⟩;simp only [wfEvent,i64,ev7] at *;omega),trivial,⟨rfl,rfl,trivial⟩,rfl,rfl⟩
       ·intro ⟨iJ17,qJ17,ea17,eb17,ec17,ed17,ee17,ef17,eg17⟩ hJ17
        dsimp only
        obtain ⟨hcJ17,hwJ17⟩ := hJ17
        replace hcJ17 : CurOk code iJ17 := hcJ17
        unfold wfEvent i64 at hwJ17
        simp only [ev7] at hwJ17
        refine sL<|loX (.agg [vI _ _,vI _ _,vI _ _,vI _ _,vI _ _,vI _ _,vB _]) ty.kd29 Z<|lst (zB 2002 ty.co29 ty.inf29 Z) Z<|nG<|aR ?_
        refine end_xret (evV ⟨_,_,_,_,_,_,_⟩) [(0,curO g code _ _)] ?_ rfl ⟨rfl,trivial⟩
        exact ⟨_,_,by assumption,⟨_,by simp only [wfEvent,i64] at *;omega,rfl⟩,rfl⟩
theorem l06Score_e (g : Value) (code : List Int) (i : Nat) (h : Int) (hc : CurOk code i) : GX Tryz.prog 91 [.ptr 0 0 0] [(0,curO g code i h)] (DrR g code (DrI i64)) := by
 refine GX.intro (rs := [.tmp 2]) Tryz.func91 rfl Tryz.ntmps91 (Nat.le_of_ble_eq_true rfl) ⟨rfl,trivial⟩ ?_
 intro L O w0
 refine sL<|laI Z<|nA<|lmP Z ?_
 refine lX [(0,0)] [] [0] Tryz.func35 (l01Below_e g code _ _ _ hc) (⟨⟨0,rfl,rfl⟩,trivial⟩) (pins_cur) Z ?_
 intro xz1 oz1 hz1
 obtain ⟨i1,q1,hc1,⟨n1,⟨na1,nb1⟩,rfl⟩,rfl⟩ := hz1
 refine lgI Z<|laI Z<|nA<|lmP Z ?_
 refine lX [(0,0)] [] [0] Tryz.func35 (l01Below_e g code _ _ _ hc1) (⟨⟨0,rfl,rfl⟩,trivial⟩) (pins_cur) Z ?_
 intro xz2 oz2 hz2
 obtain ⟨i2,q2,hc2,⟨n2,⟨na2,nb2⟩,rfl⟩,rfl⟩ := hz2
 refine laI Z<|nG ?_
 refine aJ [0,2,4] [] (D := Nat × Int × Int) (fun d => [(3,int d.2.2)]) (fun d => [(0,curO g code d.1 d.2.1)]) (fun d => CurOk code d.1 ∧ i64 d.2.2) ?_ ?_
 ·refine sL<|lmI Z<|lbB Z<|nG ?_
  refine AW.cond rfl ?_ ?_
  ·intro h1
   refine aL<|lmP Z ?_
   refine lX [(0,0)] [] [0] Tryz.func90 (l01Raw_e g code _ _ hc2) (⟨⟨0,rfl,rfl⟩,trivial⟩) (pins_cur) Z ?_
   intro xz3 oz3 hz3
   obtain ⟨i3,q3,hc3,⟨n3,hn3,rfl⟩,rfl⟩ := hz3
   refine laI Z<|nG ?_
   refine ⟨(_,_,_),(by refine ⟨by assumption,?_⟩;dsimp only;first | assumption | (unfold i64 at *;omega) | exact mem_i64 _ (List.getElem_mem _)),⟨rfl,trivial⟩,⟨rfl,trivial⟩,rfl,rfl⟩
  ·intro h1
   refine aK<|gT ?_
   refine ⟨(_,_,_),(by refine ⟨by assumption,?_⟩;dsimp only;first | assumption | (unfold i64 at *;omega) | exact mem_i64 _ (List.getElem_mem _)),⟨rfl,trivial⟩,⟨rfl,trivial⟩,rfl,rfl⟩
 ·intro ⟨iJ5,qJ5,nJ5⟩ hJ5
  dsimp only
  obtain ⟨hcJ5,hwJ5⟩ := hJ5
  replace hcJ5 : CurOk code iJ5 := hcJ5
  replace hwJ5 : i64 nJ5 := hwJ5
  refine aJ [2] [] (D := Nat × Int × Int) (fun d => [(3,int d.2.2)]) (fun d => [(0,curO g code d.1 d.2.1)]) (fun d => CurOk code d.1 ∧ i64 d.2.2) ?_ ?_
  ·refine sL<|lmI Z<|lbB Z<|nG ?_
   refine AW.cond rfl ?_ ?_
   ·intro h2
    refine aL<|lst (zS 2016 (rowsOf encI [-101,-100,0,19,20,100,101]) ty.el50 ty.ze3 rfl (by intro r hr;simp [rowsOf] at hr;rcases hr with h | h | h | h | h | h | h <;> (subst h;rfl))) Z<|lmP rfl ?_
    refine lX [(0,0)] [] [0] Tryz.func35 (l01Below_e g code _ _ _ hcJ5) (⟨⟨0,rfl,rfl⟩,trivial⟩) (pins_cur) Z ?_
    intro xz4 oz4 hz4
    obtain ⟨i4,q4,hc4,⟨n4,⟨na4,nb4⟩,rfl⟩,rfl⟩ := hz4
    obtain ⟨m,hm⟩ := Int.eq_ofNat_of_zero_le na4
    have hm7 : m < ([-101,-100,0,19,20,100,101] : List Int).length := by show m < 7;omega
    refine lq (rd (x := .ptr 2016 _ 0) (rd_iaddr_own (i := m) rfl ty.el50 rfl rfl rfl ?hn1 (by rw [length_rowsOf];exact hm7)) rfl) ?_
    case hn1 => exact hm
    refine lq (rd (x := vI _ _) (rd_load_arr Z ty.kd3 Z Z Z (row_map hm7) Z) Z)<|laI Z<|nG ?_
    refine ⟨(_,_,_),(by refine ⟨by assumption,?_⟩;dsimp only;first | assumption | (unfold i64 at *;omega) | exact mem_i64 _ (List.getElem_mem _)),⟨rfl,trivial⟩,⟨rfl,trivial⟩,rfl,rfl⟩
   ·intro h2
    refine aK<|gT ?_
    refine ⟨(_,_,_),(by refine ⟨by assumption,?_⟩;dsimp only;first | assumption | (unfold i64 at *;omega) | exact mem_i64 _ (List.getElem_mem _)),⟨rfl,trivial⟩,⟨rfl,trivial⟩,rfl,rfl⟩
  ·intro ⟨iJ7,qJ7,nJ7⟩ hJ7
   dsimp only
   obtain ⟨hcJ7,hwJ7⟩ := hJ7
   replace hcJ7 : CurOk code iJ7 := hcJ7
   replace hwJ7 : i64 nJ7 := hwJ7
   refine sL<|lmI Z<|laI Z<|nG<|aR ?_
   refine end_xret (int _) [(0,curO g code _ _)] ?_ rfl ⟨rfl,trivial⟩
   exact ⟨_,_,by assumption,⟨_,by assumption,rfl⟩,rfl⟩

section
variable {P : Program} {o : Oper} {N : Nat} {τ : Nat → AV} {H : Nat → AO}
theorem St.trunc (id : Nat) {t e e' : TypeId} {pn : Option Value} {x : Operand} {hi : Option Operand} {sz h d : Nat} {rows : List (List PV)} (ho : o.op = .slice t x none hi none) (hd : o.dst = some d) (hN : d < N) (ht : elA P t = some (e,sz)) (hx : ev τ x = .own id) (hH : H id = .arr ⟨e',pn⟩ sz rows) (hhi : bnd τ rows.length hi h) (hn : h ≤ rows.length) :
    St P o N τ H [] (updo (fun s => kil (one? id) (τ s)) o.dst (.own id)) (upd (fun j => (H j).kil (one? id)) id (.arr ⟨e',none⟩ sz (rows.take h))) := by
  refine St.turn id (one? id) (.own id) (.arr ⟨e',none⟩ sz (rows.take h)) [] (fun s hs => by rw [hd] at hs;cases hs;exact hN) (fun {L O w0 ρ fp a w} hr => ?_)
  have hv := hr.ev x
  rw [hx,RV] at hv
  have h0 := hv.2 (by rw [hH];rfl)
  have hO := hr.ob id
  rw [hH] at hO
  obtain ⟨xs,fr,r1,r2,hown,hfp,_⟩ := hO
  have hlen : (rows.take h).length = h := by rw [List.length_take];omega
  obtain ⟨g1,t1,t2⟩ := r1.take h
  have hgrow : w.grownBy w none := ⟨rfl,rfl,rfl,Nat.le_refl _,fun _ _ _ => rfl⟩
  rcases hown.2 with ⟨q,q'⟩ | ⟨g,cap,cur,q,hb0,hg,c1,c2,c3,c4⟩
  · have hrun := slc_run (o := o) (a := a) (l := 0) (fun z => hr.ev z) ho ht (by show (0 : Nat) = 0;rfl) hhi (Nat.zero_le _) hn (Nat.le_of_eq q') (by rw [h0,q,q']) w
    have hz : h = 0 := by omega
    subst hz
    refine ⟨w,.slice none 0 0,none,_,_,hrun,.inl rfl,hgrow,by simp,(fun b off hb hlt => ?_),(fun hk => by simp [one?] at hk),(fun b hb => by cases hb),(fun E => ⟨⟨[],g1,?_,?_,?_,rfl,(fun u hu => by cases hu)⟩,?_⟩)⟩
    · rcases hb with hb | hb
      · cases hb
      · omega
    · have : xs.take (0 * sz) = [] := by simp
      rw [this] at t1;exact t1
    · intro b hb hl
      have hlt := RWR.lt _ r1 b (t2 hb)
      exact (E.block b hlt (r2 b (t2 hb))).2 hl
    · have : (rows.take 0).length = 0 := by simp
      rw [this]
      exact World.ownsRow_nil _ _ _ _
    · rw [RV,upd_same]
      exact ⟨by rfl,fun _ => by rw [upd_same];(try rfl);(try simp)⟩
  · have hrun := slc_run (o := o) (a := a) (l := 0) (fun z => hr.ev z) ho ht (by show (0 : Nat) = 0;rfl) hhi (Nat.zero_le _) hn c1 (h0.trans q) w
    have ead : (if cap = 0 then (some ⟨g,0,none⟩ : Option Addr) else (some ⟨g,0,none⟩ : Option Addr).map (·.add (0 * sz))) = some ⟨g,0,none⟩ := by
      split
      · rfl
      · show some ((⟨g,0,none⟩ : Addr).add (0 * sz)) = _
        unfold Addr.add;split <;> simp_all
    rw [ead,Nat.sub_zero,Nat.sub_zero] at hrun
    refine ⟨w,.slice (some ⟨g,0,none⟩) h cap,none,_,_,hrun,.inl rfl,hgrow,by simp,(fun b off hb hlt => ?_),(fun hk => by simp [one?] at hk),(fun b hb => .inr ⟨by rw [hH];rfl,by rw [q];exact hb⟩),(fun E => ⟨⟨xs.take (h * sz),g1,t1,?_,?_,rfl,(fun u hu => by cases hu)⟩,?_⟩)⟩
    · rcases hb with hb | hb
      · cases hb
      · omega
    · intro b hb hl
      have hlt := RWR.lt _ r1 b (t2 hb)
      exact (E.block b hlt (r2 b (t2 hb))).2 hl
    · rw [hlen]
      refine ⟨?_,.inr ⟨g,cap,cur,rfl,hb0,hg,by omega,c2,c3,?_⟩⟩
      · rw [List.length_take,hown.1]
        have := Nat.mul_le_mul_right sz hn
        omega
      · rw [← c4,List.take_take]
        have := Nat.mul_le_mul_right sz hn
        congr 1
        omega
    · rw [RV,upd_same]
      exact ⟨by rfl,fun _ => by rw [upd_same];(try rfl);(try simp)⟩
end

def DrX (g : Value) (code : List Int) (R : AV → List (Nat × AO) → Prop) : AV → List (Nat × AO) → Prop := fun x ob => ∃ i h ob2,CurOk code i ∧ R x ob2 ∧ ob = (0,curO g code i h) :: ob2
theorem pins_curX {g : Value} {code : List Int} {i : Nat} {h : Int} {R : AV → List (Nat × AO) → Prop} : ∀ x ob1,DrX g code R x ob1 → pins [(0,curO g code i h)] ob1 [0] := fun x ob1 ⟨_,_,_,_,_,e⟩ => by
  subst e
  exact ⟨stays.box (Eq.refl 3),trivial⟩
theorem tmod3 (x : Int) : -2 ≤ x.tmod 3 ∧ x.tmod 3 ≤ 2 := by cases x <;> simp [Int.tmod] <;> omega
def EvsOk (m : Int) (es : List Event) : Prop := (∀ e ∈ es,wfEvent e) ∧ (es.length : Int) ≤ m
theorem EvsOk.take {m : Int} {es : List Event} (h : EvsOk m es) (k : Nat) : EvsOk m (es.take k) := ⟨fun e he => h.1 e (List.mem_of_mem_take he),by have := h.2;rw [List.length_take];omega⟩
theorem EvsOk.add {m : Int} {es : List Event} (h : EvsOk m es) {e : Event} (he : wfEvent e) : EvsOk (m + 1) (es ++ [e]) := ⟨fun x hx => by
  rcases List.mem_append.1 hx with q | q
  · exact h.1 x q
  · rw [List.mem_singleton.1 q];exact he,by have := h.2;simp;omega⟩
theorem EvsOk.mono {m n : Int} {es : List Event} (h : EvsOk m es) (hmn : m ≤ n) : EvsOk n es := ⟨h.1,Int.le_trans h.2 hmn⟩
theorem l07Events_e (g : Value) (code : List Int) (i : Nat) (h m : Int) (hc : CurOk code i) (hm : 0 ≤ m ∧ m ≤ 100) : GX Tryz.prog 70 [.ptr 0 0 0,int m] [(0,curO g code i h)] (DrX g code fun x ob2 => ∃ es,EvsOk (5 + m) es ∧ x = .own 50 ∧ ob2 = [(50,.arr 29 7 (rowsOf encEvent es))]) := by
 refine GX.intro (rs := [.tmp 4]) Tryz.func70 rfl Tryz.ntmps70 (Nat.le_of_ble_eq_true rfl) ⟨rfl,trivial⟩ ?_
 intro L O w0
 refine sL<|laV Z<|nA<|lq (rd (x := .agg [vI _ _,vI _ _,vI _ _,vI _ _,vI _ _,vI _ _,vB false]) (rd_build Z ty.sa29 Z Z Z) Z)<|lq (rd (x := .agg [vI _ _,vI _ _,vI _ _,vI _ _,vI _ _,vI _ _,vB false]) (rd_build Z ty.sa29 Z Z Z) Z)<|lq (rd (x := .agg [vI _ _,vI _ _,vI _ _,vI _ _,vI _ _,vI _ _,vB false]) (rd_build Z ty.sa29 Z Z Z) Z)<|lq (rd (x := .agg [vI _ _,vI _ _,vI _ _,vI _ _,vI _ _,vI _ _,vB false]) (rd_build Z ty.sa29 Z Z Z) Z)<|lmP Z ?_
 refine lX [(0,0)] [] [0] Tryz.func35 (l01Below_e g code _ _ _ hc) (⟨⟨0,rfl,rfl⟩,trivial⟩) (pins_cur) Z ?_
 intro xz1 oz1 hz1
 obtain ⟨i1,q1,hc1,⟨n1,⟨na1,nb1⟩,rfl⟩,rfl⟩ := hz1
 refine lgI Z<|lmP Z ?_
 refine lX [(0,0)] [] [0] Tryz.func35 (l01Below_e g code _ _ _ hc1) (⟨⟨0,rfl,rfl⟩,trivial⟩) (pins_cur) Z ?_
 intro xz2 oz2 hz2
 obtain ⟨i2,q2,hc2,⟨n2,⟨na2,nb2⟩,rfl⟩,rfl⟩ := hz2
 refine lmP rfl ?_
 refine lX [(0,0)] [] [0] Tryz.func35 (l01Below_e g code _ _ _ hc2) (⟨⟨0,rfl,rfl⟩,trivial⟩) (pins_cur) Z ?_
 intro xz3 oz3 hz3
 obtain ⟨i3,q3,hc3,⟨n3,⟨na3,nb3⟩,rfl⟩,rfl⟩ := hz3
 refine lq (rd (x := .agg [vI _ _,vI _ _,vI _ _,vI _ _,vI _ _,vI _ _,vB false]) (rd_build rfl ty.sa29 rfl rfl rfl) rfl) ?_
 refine lst (zS 50 (rowsOf encEvent [⟨1,0,0,0,100000,0,false⟩,⟨2,0,1,0,20000,10000,false⟩,⟨2,0,2,0,10000,20000,false⟩,⟨2,0,3,0,15000,15000,false⟩,⟨4,0,1 + n1,0,n2,n3,false⟩]) ty.el44 ty.ze29 rfl (by intro r hr;simp [rowsOf] at hr;rcases hr with h | h | h | h | h <;> (subst h;rfl))) Z<|lT [0,1,4,20] [0,50] ?_
 refine laO Z<|nG ?_
 refine aJ [0,1,4] [] (D := Nat × Int × List Event) (fun d => [(5,.own 50)]) (fun d => [(0,curO g code d.1 d.2.1),(50,.arr 29 7 (rowsOf encEvent d.2.2))]) (fun d => CurOk code d.1 ∧ EvsOk 5 d.2.2) ?_ ?_
 ·refine sL<|lmP Z ?_
  refine lX [(0,0)] [] [0] Tryz.func35 (l01Below_e g code _ _ _ hc3) (⟨⟨0,rfl,rfl⟩,trivial⟩) (pins_cur) Z ?_
  intro xz4 oz4 hz4
  obtain ⟨i4,q4,hc4,⟨n4,⟨na4,nb4⟩,rfl⟩,rfl⟩ := hz4
  refine lbB Z<|nG ?_
  refine AW.cond rfl ?_ ?_
  ·intro h1
   refine aL<|lmO Z<|lmP Z ?_
   refine lX [(0,0)] [] [0] Tryz.func35 (l01Below_e g code _ _ _ hc4) (⟨⟨0,rfl,rfl⟩,trivial⟩) (pins_cur) Z ?_
   intro xz5 oz5 hz5
   obtain ⟨i5,q5,hc5,⟨n5,⟨na5,nb5⟩,rfl⟩,rfl⟩ := hz5
   obtain ⟨m5,rfl⟩ := Int.eq_ofNat_of_zero_le na5
   refine lst (St.trunc 50 rfl rfl (by decide) ty.el44 rfl rfl ⟨_,rfl⟩ (by simp [rowsOf];omega)) Z<|laO Z<|nG ?_
   refine ⟨(_,_,List.take m5 [⟨1,0,0,0,100000,0,false⟩,⟨2,0,1,0,20000,10000,false⟩,⟨2,0,2,0,10000,20000,false⟩,⟨2,0,3,0,15000,15000,false⟩,⟨4,0,1 + n1,0,n2,n3,false⟩]),⟨by assumption,EvsOk.take (m := 5) ⟨by intro e he;simp at he;rcases he with h | h | h | h | h <;> (subst h;unfold wfEvent i64;dsimp only;omega),by simp⟩ _⟩,⟨rfl,trivial⟩,⟨rfl,(congrArg (AO.arr 29 7) (List.map_take).symm),trivial⟩,rfl,rfl⟩
  ·intro h1
   refine aK<|gT ?_
   refine ⟨(_,_,[⟨1,0,0,0,100000,0,false⟩,⟨2,0,1,0,20000,10000,false⟩,⟨2,0,2,0,10000,20000,false⟩,⟨2,0,3,0,15000,15000,false⟩,⟨4,0,1 + n1,0,n2,n3,false⟩]),⟨by assumption,⟨by intro e he;simp at he;rcases he with h | h | h | h | h <;> (subst h;unfold wfEvent i64;dsimp only;omega),by simp⟩⟩,⟨rfl,trivial⟩,⟨rfl,rfl,trivial⟩,rfl,rfl⟩
 ·intro ⟨iJ4,qJ4,esJ⟩ hJ4
  dsimp only
  obtain ⟨hcJ4,hwJ4⟩ := hJ4
  simp only at hcJ4 hwJ4
  refine aS<|sL<|lmP Z<|lmI Z<|lgI Z ?_
  refine lX [(0,0)] [] [0] Tryz.func35 (l01Below_e g code _ _ _ hcJ4) (⟨⟨0,rfl,rfl⟩,trivial⟩) (pins_cur) Z ?_
  intro xz6 oz6 hz6
  obtain ⟨i6,q6,hc6,⟨n6,⟨na6,nb6⟩,rfl⟩,rfl⟩ := hz6
  refine laI Z<|nG<|aB ?_
  obtain ⟨kk,hkk⟩ := Int.eq_ofNat_of_zero_le na6
  refine aW [0,4] [] (D := Nat × Int × Nat × List Event) (fun d => [(6,int (d.2.2.1 : Int)),(5,.own 50)]) (fun d => [(0,curO g code d.1 d.2.1),(50,.arr 29 7 (rowsOf encEvent d.2.2.2))]) (fun d => CurOk code d.1 ∧ EvsOk (5 + m - d.2.2.1) d.2.2.2 ∧ (d.2.2.1 : Int) ≤ m) (fun d => d.2.2.1) ((_,_,kk,esJ)) (⟨by assumption,hwJ4.mono (by dsimp only;omega),by dsimp only;omega⟩) ⟨(congrArg int hkk),rfl,trivial⟩ ⟨rfl,rfl,trivial⟩ ?_
  intro ⟨iL,qL,kL,esL⟩ hI
  obtain ⟨hcL,hwL,hkL⟩ := hI
  simp only at hcL hwL hkL
  dsimp only
  refine aS<|sL<|lmI Z<|lbB Z<|nG ?_
  refine AW.cond rfl ?_ ?_
  ·intro h2
   refine aK<|gT<|aS<|aB<|aS ?_
   have hk1 : 1 ≤ kL := by have h := h2;simp only [decide_eq_true_eq] at h;omega
   refine aL<|lmP Z ?_
   refine lX [(0,0)] [] [0] Tryz.func34 (l04Draw_e g code _ _ hcL) (⟨⟨0,rfl,rfl⟩,trivial⟩) (pins_cur) Z ?_
   intro xz7 oz7 hz7
   obtain ⟨i7,q7,hc7,⟨⟨va7,vb7,vc7,vd7,ve7,vf7,vg7⟩,hw7,rfl⟩,rfl⟩ := hz7
   refine lst (zA 2007 ty.ze29 Z) Z<|lst (zB 2007 ty.co29 ty.inf29 Z) Z<|nG ?_
   refine aJ [0,4,5,6,7] [50] (D := Nat × Int × Ev7) (fun d => []) (fun d => [(0,curO g code d.1 d.2.1),(2007,evC none d.2.2.1 d.2.2.2.1 d.2.2.2.2.1 d.2.2.2.2.2.1 d.2.2.2.2.2.2.1 d.2.2.2.2.2.2.2.1 d.2.2.2.2.2.2.2.2)]) (fun d => CurOk code d.1 ∧ wfEvent (ev7 d.2.2)) ?_ ?_
   ·refine sL<|lmP Z ?_
    refine lX [(0,0)] [] [0] Tryz.func35 (l01Below_e g code _ _ _ hc7) (⟨⟨0,rfl,rfl⟩,trivial⟩) (pins_cur) Z ?_
    intro xz8 oz8 hz8
    obtain ⟨i8,q8,hc8,⟨n8,⟨na8,nb8⟩,rfl⟩,rfl⟩ := hz8
    refine lbB Z<|nG ?_
    refine AW.cond rfl ?_ ?_
    ·intro h3
     refine sL<|lmP Z ?_
     refine lX [(0,0)] [] [0] Tryz.func35 (l01Below_e g code _ _ _ hc8) (⟨⟨0,rfl,rfl⟩,trivial⟩) (pins_cur) Z ?_
     intro xz9 oz9 hz9
     obtain ⟨i9,q9,hc9,⟨n9,⟨na9,nb9⟩,rfl⟩,rfl⟩ := hz9
     refine lT [0,4,5,6,7,42] [0,50,2007] ?_
     refine lgI Z<|lmP Z ?_
     refine lX [(0,0)] [] [0] Tryz.func35 (l01Below_e g code _ _ _ hc9) (⟨⟨0,rfl,rfl⟩,trivial⟩) (pins_cur) Z ?_
     intro xz10 oz10 hz10
     obtain ⟨i10,q10,hc10,⟨n10,⟨na10,nb10⟩,rfl⟩,rfl⟩ := hz10
     refine lgI Z<|lmP Z ?_
     refine lX [(0,0)] [] [0] Tryz.func35 (l01Below_e g code _ _ _ hc10) (⟨⟨0,rfl,rfl⟩,trivial⟩) (pins_cur) Z ?_
     intro xz11 oz11 hz11
     obtain ⟨i11,q11,hc11,⟨n11,⟨na11,nb11⟩,rfl⟩,rfl⟩ := hz11
     refine lgI Z<|lmP Z ?_
     refine lX [(0,0)] [] [0] Tryz.func35 (l01Below_e g code _ _ _ hc11) (⟨⟨0,rfl,rfl⟩,trivial⟩) (pins_cur) Z ?_
     intro xz12 oz12 hz12
     obtain ⟨i12,q12,hc12,⟨n12,⟨na12,nb12⟩,rfl⟩,rfl⟩ := hz12
     refine lbB Z<|lq (rd (x := .agg [vI _ _,vI _ _,vI _ _,vI _ _,vI _ _,vI _ _,vB _]) (rd_build Z ty.sa29 Z Z Z) Z)<|lst (zB 2007 ty.co29 ty.inf29 Z) Z<|nG<|aL<|lf 2 ty.F29_2 Z<|loI ty.kd3 Z ?_
     refine lhI rfl ⟨rfl,by decide⟩ ?_
     have ht3 := tmod3 (1 + n10)
     refine lgI Z<|lf 3 ty.F29_3 Z<|lst (zB 2007 ty.co3 ty.inf3 Z) Z<|lT [0,4,5,6,7] [0,50,2007] ?_
     refine nG ?_
     refine ⟨(_,_,_,_,_,_,_,_,_),(by refine ⟨by assumption,?_⟩;simp only [wfEvent,i64,ev7] at *;omega),trivial,⟨rfl,rfl,trivial⟩,rfl,rfl⟩
    ·intro h3
     refine aK<|gT ?_
     refine ⟨(_,_,_,_,_,_,_,_,_),(by refine ⟨by assumption,?_⟩;simp only [wfEvent,i64,ev7] at *;omega),trivial,⟨rfl,rfl,trivial⟩,rfl,rfl⟩
   ·intro ⟨iJ11,qJ11,ea11,eb11,ec11,ed11,ee11,ef11,eg11⟩ hJ11
    dsimp only
    obtain ⟨hcJ11,hwJ11⟩ := hJ11
    replace hcJ11 : CurOk code iJ11 := hcJ11
    unfold wfEvent i64 at hwJ11
    simp only [ev7] at hwJ11
    refine aL<|lmO Z<|loX (.agg [vI _ _,vI _ _,vI _ _,vI _ _,vI _ _,vI _ _,vB _]) ty.kd29 Z ?_
    refine lst (zS 2061 (rowsOf encEvent [⟨ea11,eb11,ec11,ed11,ee11,ef11,eg11⟩]) ty.el44 ty.ze29 rfl) Z<|lst (zP 50 ty.el44 ty.ze29 ty.by29 rfl (Src.own rfl rfl) (by have := hwL.2;simp [rowsOf];omega)) Z<|laO Z<|lN<|gB<|gT<|aL<|lmI Z<|lgI Z<|laI Z<|nG ?_
    refine ⟨(_,_,kL - 1,esL ++ [⟨ea11,eb11,ec11,ed11,ee11,ef11,eg11⟩]),⟨by assumption,(hwL.add (by unfold wfEvent i64;dsimp only;omega)).mono (by dsimp only;omega),by dsimp only;omega⟩,by dsimp only;omega,⟨(Eq.trans (b := int _) rfl (congrArg int (by dsimp only;omega))),rfl,trivial⟩,⟨rfl,(congrArg (AO.arr 29 7) (rowsOf_app encEvent _ [_]).symm),trivial⟩,rfl,rfl⟩
  ·intro h2
   refine aE<|eT<|eT<|eB<|gA<|lmO Z<|laO Z<|nG<|aR ?_
   refine end_xret (.own 50) [(0,curO g code _ _),(50,.arr 29 7 (rowsOf encEvent esL))] ?_ rfl ⟨rfl,rfl,trivial⟩
   exact ⟨_,_,_,hcL,⟨esL,hwL.mono (by omega),rfl,rfl⟩,rfl⟩

abbrev wRead (x : Book) (l : List Line) (c : Int) : AV := .rp [.v (.int .i64 x.tick),.v (.int .i64 x.next),.v (.int .i64 x.wallet),.lst 40 7 (rowsOf encChan x.chans),.lst 68 7 (rowsOf encHtlc x.htlcs),.lst 78 5 (rowsOf encCircle x.circles),.lst 120 3 (rowsOf encLine l),.v (.int .i64 c)]
def overB (x : Book) (e : Event) : Bool :=
  if x.next = 1125899906842624 then true
  else if e.kind = 1 then decide (1125899906842624 < x.wallet + e.amt)
  else if e.kind = 2 then decide (1125899906842624 < e.amt + e.fee)
  else if e.kind = 3 ∧ 0 ≤ chanAt x.chans e.ch then decide (1125899906842624 < x.wallet + (chanOr x.chans e.ch).loc - e.fee)
  else if e.kind = 8 then decide (x.tick = 1125899906842624)
  else false
def A50 (n : Int) : Prop := -1125899906842624 ≤ n ∧ n ≤ 1125899906842624
structure BookSm (x : Book) : Prop where
  tick : A50 x.tick
  next : A50 x.next
  wallet : A50 x.wallet
  chans : ∀ c ∈ x.chans,A50 c.loc ∧ A50 c.remote ∧ A50 c.score ∧ A50 c.base ∧ A50 c.ppm
  htlcs : ∀ h ∈ x.htlcs,A50 h.amtIn ∧ A50 h.amtOut ∧ 0 ≤ h.age ∧ h.age ≤ 1125899906842624 ∧ 0 ≤ h.amtOut
  circles : ∀ c ∈ x.circles,A50 c.amt ∧ A50 c.fee
  lc : x.chans.length ≤ 20
  lh : x.htlcs.length ≤ 60
  li : x.circles.length ≤ 20
structure EvSm (e : Event) : Prop where
  amt : A50 e.amt
  fee : A50 e.fee
theorem mem_of_get {α : Type} {l : List α} {i : Nat} {c : α} (h : l[i]? = some c) : c ∈ l := List.mem_of_getElem? h
theorem BookSm.hs {x : Book} (h : BookSm x) : SmallH x.htlcs := ⟨h.lh,fun y hy => ⟨(h.htlcs y hy).2.2.2.2,(h.htlcs y hy).2.1.2⟩⟩
def mapTo {α : Type} (f : α → α) (k : Nat) (l : List α) : List α := (l.take k).map f ++ l.drop k
theorem mapTo_zero {α : Type} (f : α → α) (l : List α) : mapTo f 0 l = l := by simp [mapTo]
theorem mapTo_all {α : Type} (f : α → α) (l : List α) : mapTo f l.length l = l.map f := by simp [mapTo]
theorem mapTo_len {α : Type} (f : α → α) (k : Nat) (l : List α) (h : k ≤ l.length) : (mapTo f k l).length = l.length := by simp [mapTo];omega
theorem mapTo_get {α : Type} (f : α → α) {k : Nat} {l : List α} (h : k < l.length) : (mapTo f k l)[k]? = some l[k] := by
  unfold mapTo
  rw [List.getElem?_append_right (by simp;omega)]
  simp only [List.length_map,List.length_take,Nat.min_eq_left (Nat.le_of_lt h),Nat.sub_self,List.getElem?_drop,Nat.add_zero]
  exact List.getElem?_eq_getElem h
theorem mapTo_set {α : Type} (f : α → α) {k : Nat} {l : List α} (h : k < l.length) : (mapTo f k l).set k (f l[k]) = mapTo f (k + 1) l := by
  unfold mapTo
  rw [List.set_append_right _ _ (by simp;omega)]
  simp only [List.length_map,List.length_take,Nat.min_eq_left (Nat.le_of_lt h),Nat.sub_self]
  rw [List.drop_eq_getElem_cons h,List.set_cons_zero,List.take_succ_eq_append_getElem h,List.map_append,List.append_assoc]
  rfl
theorem mapTo_skip {α : Type} (f : α → α) {k : Nat} {l : List α} (h : k < l.length) (hf : f l[k] = l[k]) : mapTo f k l = mapTo f (k + 1) l := by
  rw [← mapTo_set f h,hf]
  obtain ⟨h',e⟩ := List.getElem?_eq_some_iff.1 (mapTo_get f h)
  conv => rhs;rw [← e]
  exact (List.set_getElem_self h').symm
theorem ins_rows {α : Type} {enc : α → List Value} {l : List α} {c : α} {k : Nat} : ((((rowsOf enc l).drop 0).take (k - 0)) ++ rowsOf enc [c]) ++ (((rowsOf enc l).drop k).take ((rowsOf enc l).length - k)) = rowsOf enc (l.take k ++ [c] ++ l.drop k) := by
  rw [List.drop_zero,Nat.sub_zero,List.take_of_length_le (l := (rowsOf enc l).drop k) (by rw [List.length_drop];exact Nat.le_refl _),rows_take,rows_drop,rowsOf_app,rowsOf_app]
theorem del_rows {α : Type} {enc : α → List Value} {l : List α} {k : Nat} : (((rowsOf enc l).drop 0).take (k - 0)) ++ (((rowsOf enc l).drop (k + 1)).take ((rowsOf enc l).length - (k + 1))) = rowsOf enc (l.take k ++ l.drop (k + 1)) := by
  rw [List.drop_zero,Nat.sub_zero,List.take_of_length_le (l := (rowsOf enc l).drop (k + 1)) (by rw [List.length_drop];exact Nat.le_refl _),rows_take,rows_drop,rowsOf_app]
def ageH (h : Htlc) : Htlc := { h with age := min (h.age + 1) 1125899906842624 }
def fadeC (t : Int) (c : Chan) : Chan := if (t + 1).tmod 5 = 0 then { c with score := fade c.score } else c
def tickR (x : Book) : WR := ⟨{ x with tick := x.tick + 1,htlcs := x.htlcs.map ageH,chans := x.chans.map (fadeC x.tick) },[],0⟩
def posC (l : List Chan) (ch : Int) : Nat := l.findIdx fun d => !decide (d.id < ch)
def insC (l : List Chan) (c : Chan) : List Chan := l.take (posC l c.id) ++ [c] ++ l.drop (posC l c.id)
theorem posC_at {l : List Chan} {ch : Int} {k : Nat} (hk : k ≤ l.length) (h : ∀ j (h : j < l.length),j < k → l[j].id < ch) (h2 : ∀ h : k < l.length,¬ l[k].id < ch) : posC l ch = k := by
  unfold posC
  rcases Nat.lt_or_ge k l.length with q | q
  · rw [List.findIdx_eq q]
    refine ⟨by simpa using h2 q,fun j hj => by have := h j (by omega) hj;simpa using this⟩
  · have e : k = l.length := by omega
    subst e
    rw [List.findIdx_eq_length]
    intro x hx
    obtain ⟨j,hj,rfl⟩ := List.getElem_of_mem hx
    simpa using h j hj hj
theorem id_succ {l : List Chan} {ch : Int} {k : Nat} (hk : k < l.length) (hall : ∀ j (h : j < l.length),j < k → l[j].id < ch) (h2 : l[k].id < ch) : ∀ j (h : j < l.length),j < k + 1 → l[j].id < ch := fun j hj hlt => by
  rcases Nat.lt_or_ge j k with q | q
  · exact hall j hj q
  · have e1 : j = k := by omega
    subst e1;exact h2
def openC (x : Book) (e : Event) : Int := failC (decide (x.wallet < e.amt)) (failC (decide (0 ≤ chanAt x.chans e.ch) || decide ((20 : Int) ≤ (x.chans.length : Int))) 0 3) 4
def openR (x : Book) (e : Event) : WR := if openC x e = 0 then ⟨{ x with chans := insC x.chans ⟨e.ch,e.amt + e.fee,e.amt,e.fee,0,0,0⟩,wallet := x.wallet - e.amt },addL (addL [] 6 e.ch e.amt) 1 0 (-e.amt),0⟩ else ⟨x,[],openC x e⟩
theorem openR_no {x : Book} {e : Event} (h : openC x e ≠ 0) : openR x e = ⟨x,[],openC x e⟩ := if_neg h
theorem openR_yes {x : Book} {e : Event} (h : openC x e = 0) : openR x e = ⟨{ x with chans := insC x.chans ⟨e.ch,e.amt + e.fee,e.amt,e.fee,0,0,0⟩,wallet := x.wallet - e.amt },addL (addL [] 6 e.ch e.amt) 1 0 (-e.amt),0⟩ := if_pos h
theorem rangeA_of {n : Int} (h : A50 n) : rangeA n = true := inB_true.2 h
theorem rangeA_neg {n : Int} (h : A50 n) : rangeA (-n) = true := inB_true.2 (by unfold A50 at h;omega)
theorem over_e (x : Book) (e : Event) (sm : BookSm x) (es : EvSm e) : GC Tryz.prog 38 [bookV x,evV e] [] (boo (overB x e)) [] := by
 have hm : x.chans.length ≤ 1000000000 := by have := sm.lc;omega
 have hmh : x.htlcs.length ≤ 1000000000 := by have := sm.lh;omega
 have hmc : x.circles.length ≤ 1000000000 := by have := sm.li;omega
 refine gi 4 Tryz.func38 rfl Tryz.ntmps38 rfl ?_
 intro L O w0
 refine sL<|lst (zX 2002 Z) Z<|lst (zX 2003 Z) Z<|laZ Z<|nA<|loX (.agg [vI _ _,vI _ _,vI _ _,vL _ _ _,vL _ _ _,vL _ _ _]) ty.kd27 Z<|lf 2 ty.F29_2 Z<|loI ty.kd3 Z ?_
 rcases chan_find x.chans e.ch with ⟨hi,ho⟩ | ⟨i,c,hi,hc,ho,hid⟩
 ·skip
  refine lst (zL Tryz.func69 (chanAt_e x _ hm) Z) Z<|laI Z<|nG<|aS<|aB<|sL<|lf 1 ty.F27_1 Z<|loI ty.kd3 Z<|lbB Z<|laB Z<|nG ?_
  refine AW.cond rfl ?_ ?_
  ·intro h1
   refine sL<|laT Z<|nG<|aR<|rB<|rT ?_
   refine eBo trivial ?_
   unfold overB
   first
   | (simp_all [← chanAt_atI];done)
   | (simp_all [← chanAt_atI];intros;omega)
  ·intro h1
   refine sL<|lf 0 ty.F29_0 Z<|loI ty.kd3 Z<|lbB Z<|laB Z<|nG ?_
   refine AW.cond rfl ?_ ?_
   ·intro h2
    refine sL<|lf 2 ty.F27_2 Z<|loI ty.kd3 Z<|lf 4 ty.F29_4 Z<|loI ty.kd3 Z ?_
    refine lhI rfl ⟨rfl,fits_i64 (by have := sm.wallet;have := es.amt;have := es.fee;unfold A50 at *;unfold i64;omega)⟩<|lbB Z<|laB Z<|nG<|aR<|rB<|rT ?_
    refine eBo trivial ?_
    unfold overB
    first
    | (simp_all [← chanAt_atI];done)
    | (simp_all [← chanAt_atI];intros;omega)
   ·intro h2
    refine sL<|lf 0 ty.F29_0 Z<|loI ty.kd3 Z<|lbB Z<|laB Z<|nG ?_
    refine AW.cond rfl ?_ ?_
    ·intro h3
     refine sL<|lf 4 ty.F29_4 Z<|loI ty.kd3 Z<|lT [3,4,29] [2002,2003] ?_
     refine lf 5 ty.F29_5 Z<|loI ty.kd3 Z ?_
     refine lhI rfl ⟨rfl,fits_i64 (by have := sm.wallet;have := es.amt;have := es.fee;unfold A50 at *;unfold i64;omega)⟩<|lbB Z<|laB Z<|nG<|aR<|rB<|rT ?_
     refine eBo trivial ?_
     unfold overB
     first
     | (simp_all [← chanAt_atI];done)
     | (simp_all [← chanAt_atI];intros;omega)
    ·intro h3
     refine sL<|lf 0 ty.F29_0 Z<|loI ty.kd3 Z<|lbB Z<|lmB Z ?_
     refine AL.bool (t := 38) rfl ?_ ?_
     ·intro h4
      refine lmI Z<|lbB Z<|lsB 40 false rfl (by rw [← chanAt_atI,hi];simp)<|lkZ Z<|laZ Z<|nG<|aN Z<|sL<|lf 0 ty.F29_0 Z<|loI ty.kd3 Z<|lbB Z<|laB Z<|nG ?_
      refine AW.cond rfl ?_ ?_
      ·intro h5
       refine sL<|lf 0 ty.F27_0 Z<|loI ty.kd3 Z<|lbB Z<|laB Z<|nG<|aR<|rB<|rT ?_
       refine eBo trivial ?_
       unfold overB
       first
       | (simp_all [← chanAt_atI];done)
       | (simp_all [← chanAt_atI];intros;omega)
      ·intro h5
       refine aK<|gB<|gA<|laZ Z<|nG<|aR ?_
       refine eBo trivial ?_
       unfold overB
       first
       | (simp_all [← chanAt_atI];done)
       | (simp_all [← chanAt_atI];intros;omega)
     ·intro h4
      refine lno Z<|lno Z<|lkZ Z<|laZ Z<|nG<|aN Z<|sL<|lf 0 ty.F29_0 Z<|loI ty.kd3 Z<|lbB Z<|laB Z<|nG ?_
      refine AW.cond rfl ?_ ?_
      ·intro h6
       refine sL<|lf 0 ty.F27_0 Z<|loI ty.kd3 Z<|lT [4,60] [2002,2003] ?_
       refine lbB Z<|laB Z<|nG<|aR<|rB<|rT ?_
       refine eBo trivial ?_
       unfold overB
       first
       | (simp_all [← chanAt_atI];done)
       | (simp_all [← chanAt_atI];intros;omega)
      ·intro h6
       refine aK<|gB<|gA<|laZ Z<|nG<|aR ?_
       refine eBo trivial ?_
       unfold overB
       first
       | (simp_all [← chanAt_atI];done)
       | (simp_all [← chanAt_atI];intros;omega)
 ·have hcm := sm.chans c (mem_of_get hc)
  refine lst (zL Tryz.func69 (chanAt_e x _ hm) Z) Z<|laI Z<|nG<|aS<|aB<|sL<|lf 1 ty.F27_1 Z<|loI ty.kd3 Z<|lbB Z<|laB Z<|nG ?_
  refine AW.cond rfl ?_ ?_
  ·intro h7
   refine sL<|laT Z<|nG<|aR<|rB<|rT ?_
   refine eBo trivial ?_
   unfold overB
   first
   | (simp_all [← chanAt_atI];done)
   | (simp_all [← chanAt_atI];intros;omega)
  ·intro h7
   refine sL<|lf 0 ty.F29_0 Z<|loI ty.kd3 Z<|lbB Z<|laB Z<|nG ?_
   refine AW.cond rfl ?_ ?_
   ·intro h8
    refine sL<|lf 2 ty.F27_2 Z<|loI ty.kd3 Z<|lf 4 ty.F29_4 Z<|loI ty.kd3 Z ?_
    refine lhI rfl ⟨rfl,fits_i64 (by have := sm.wallet;have := es.amt;have := es.fee;unfold A50 at *;unfold i64;omega)⟩<|lbB Z<|laB Z<|nG<|aR<|rB<|rT ?_
    refine eBo trivial ?_
    unfold overB
    first
    | (simp_all [← chanAt_atI];done)
    | (simp_all [← chanAt_atI];intros;omega)
   ·intro h8
    refine sL<|lf 0 ty.F29_0 Z<|loI ty.kd3 Z<|lbB Z<|laB Z<|nG ?_
    refine AW.cond rfl ?_ ?_
    ·intro h9
     refine sL<|lf 4 ty.F29_4 Z<|loI ty.kd3 Z<|lf 5 ty.F29_5 Z<|loI ty.kd3 Z ?_
     refine lhI rfl ⟨rfl,fits_i64 (by have := sm.wallet;have := es.amt;have := es.fee;unfold A50 at *;unfold i64;omega)⟩<|lT [4,32] [2002,2003] ?_
     refine lbB Z<|laB Z<|nG<|aR<|rB<|rT ?_
     refine eBo trivial ?_
     unfold overB
     first
     | (simp_all [← chanAt_atI];done)
     | (simp_all [← chanAt_atI];intros;omega)
    ·intro h9
     refine sL<|lf 0 ty.F29_0 Z<|loI ty.kd3 Z<|lbB Z<|lmB Z ?_
     refine AL.bool (t := 38) rfl ?_ ?_
     ·intro h10
      refine lmI Z<|lbB Z<|lsB 40 true rfl (by rw [← chanAt_atI,hi];simp)<|lkT Z<|laT Z<|nG<|aY Z<|aS<|aG 13 []<|tq 0 (rf 2 ty.F27_2 rfl)<|tq 1 (roI ty.kd3 rfl)<|tq 2 (rf 3 ty.F27_3 rfl)<|tq 3 (roL ty.kd23 rfl)<|tq 4 (rmI rfl)<|tq 5 (rd (x := .rp _) (rd_iaddr_p (i := i) rfl ty.el23 rfl rfl ?hn1 (rows_some hc)) rfl) ?_
      case hn1 => rw [← chanAt_atI];exact hi
      refine tq 6 (rd (x := .rp _) (zfr ty.F40_2 Z) Z)<|tq 7 (rrI ty.kd3 Z) ?_
      refine tq 8 (rhI rfl ⟨rfl,fits_i64 (by have := hcm.1;have := sm.wallet;have := es.amt;have := es.fee;unfold A50 at *;unfold i64;omega)⟩)<|yq 9 (rf 5 ty.F29_5 rfl)<|yq 10 (roI ty.kd3 rfl) ?_
      refine yq 11 (rhI rfl ⟨rfl,fits_i64 (by have := hcm.1;have := sm.wallet;have := es.amt;have := es.fee;unfold A50 at *;unfold i64;omega)⟩)<|yq 12 (rbB rfl)<|yq 13 (raB rfl)<|gD<|gT<|aR<|rB<|rT ?_
      refine eBo trivial ?_
      unfold overB
      first
      | (simp_all [← chanAt_atI];done)
      | (simp_all [← chanAt_atI];intros;omega)
     ·intro h10
      refine lno Z<|lno Z<|lkZ Z<|laZ Z<|nG<|aN Z<|sL<|lf 0 ty.F29_0 Z<|loI ty.kd3 Z<|lbB Z<|laB Z<|lT [2,4,55] [2002,2003] ?_
      refine nG ?_
      refine AW.cond rfl ?_ ?_
      ·intro h11
       refine sL<|lf 0 ty.F27_0 Z<|loI ty.kd3 Z<|lbB Z<|laB Z<|nG<|aR<|rB<|rT ?_
       refine eBo trivial ?_
       unfold overB
       first
       | (simp_all [← chanAt_atI];done)
       | (simp_all [← chanAt_atI];intros;omega)
      ·intro h11
       refine aK<|gB<|gA<|laZ Z<|nG<|aR ?_
       refine eBo trivial ?_
       unfold overB
       first
       | (simp_all [← chanAt_atI];done)
       | (simp_all [← chanAt_atI];intros;omega)
theorem allowed_e (x : Book) (l : List Line) (c : Int) (frm to : Chan) (e : Event) (sm : SmallH x.htlcs) : GC Tryz.prog 100 [wRead x l c,chV frm,chV to,evV e] [] (int (roomV x.htlcs frm to e.to e.amt e.yes)) [] := by
 refine gi 8 Tryz.func100 rfl Tryz.ntmps100 rfl ?_
 intro L O w0
 refine sL<|lst (zX 2005 Z) Z<|lst (zX 2006 Z) Z<|lst (zX 2007 Z) Z<|laI Z<|nA<|laI Z<|laI Z<|laI Z<|laI Z<|nG<|aS<|sL<|lmX (.rp _) Z<|lq (rd (x := .rp _) (rd_nilc_rp Z Z) Z)<|lq (rd (x := .rp _) (zfr ty.F84_0 Z) Z)<|lq (rd (x := .rp _) (zfr ty.F27_4 Z) Z)<|lrL ty.kd24 Z<|lnI ty.sl24 Z<|lmI Z<|nG<|aB ?_
 refine aW [5,6,7,8,19,20] [2005,2006,2007] (D := Nat) (fun k => [(9,int (tot (hFew e.to) (x.htlcs.take k))),(10,int (tot (hOut e.to) (x.htlcs.take k))),(11,int (tot (hOneF e.to) (x.htlcs.take k))),(12,int (tot (hOne e.to) (x.htlcs.take k))),(21,int (k : Int))]) (fun k => []) (fun k => k ≤ x.htlcs.length) (fun k => x.htlcs.length - k) (0) (Nat.zero_le _) ⟨rfl,rfl,rfl,rfl,rfl,trivial⟩ trivial ?_
 intro k hI
 have b0 := sm.1
 have b1 := sm.few e.to k
 have b2 := sm.all e.to k
 have b3 := sm.oneF e.to k
 have b4 := sm.one e.to k
 refine sL<|lbB Z<|nG<|aS ?_
 refine AW.cond rfl ?_ ?_
 ·intro h1
  refine aK<|gT<|aS<|aB<|sL ?_
  have hk : k < x.htlcs.length := by simpa [length_rowsOf] using h1
  have b5 := sm.at hk
  refine li k ty.el24 Z (row_map hk)<|lrX (.agg [vI _ _,vI _ _,vI _ _,vI _ _,vI _ _,vB _,vI _ _]) ty.kd68 Z<|lst (zA 2014 ty.ze68 Z) Z<|lT [5,6,7,8,9,10,11,12,14,19,20,21,24] [2005,2006,2007,2014] ?_
  refine lst (zB 2014 ty.co68 ty.inf68 Z) Z<|nG<|aS<|sL<|lf 2 ty.F68_2 Z<|loI ty.kd3 Z<|lf 3 ty.F29_3 Z<|loI ty.kd3 Z<|lbB Z<|nG ?_
  refine AW.cond rfl ?_ ?_
  ·intro h2
   refine aE<|eT<|eB<|gT<|aL<|lgI Z<|lmI Z<|nG ?_
   refine ⟨k + 1,hk,by omega,⟨(congrArg int (tot_skip hk (by have h := h2;simp only [Bool.not_eq_true',decide_eq_false_iff_not,decide_eq_true_eq] at h;unfold hFew;simp [h])).symm),(congrArg int (tot_skip hk (by have h := h2;simp only [Bool.not_eq_true',decide_eq_false_iff_not,decide_eq_true_eq] at h;unfold hOut;simp [h])).symm),(congrArg int (tot_skip hk (by have h := h2;simp only [Bool.not_eq_true',decide_eq_false_iff_not,decide_eq_true_eq] at h;unfold hOneF;simp [h])).symm),(congrArg int (tot_skip hk (by have h := h2;simp only [Bool.not_eq_true',decide_eq_false_iff_not,decide_eq_true_eq] at h;unfold hOne;simp [h])).symm),(iq rfl),trivial⟩,trivial,rfl,rfl⟩
  ·intro h2
   refine aK<|gA<|lmI Z<|lf 4 ty.F68_4 Z<|loI ty.kd3 Z<|lgI Z<|laI Z<|nA<|lmI Z<|lgI Z<|laI Z<|nA<|lf 5 ty.F68_5 Z<|loB ty.kd4 Z<|luB Z<|nG ?_
   refine AW.cond rfl ?_ ?_
   ·intro h3
    refine sL<|lmI Z<|lf 4 ty.F68_4 Z<|loI ty.kd3 Z<|lgI Z<|laI Z<|nG<|aL<|lmI Z<|lgI Z<|laI Z<|lN<|gB<|gT<|aL<|lgI Z<|lmI Z<|nG ?_
    have he : x.htlcs[k].out = e.to := by simpa using h2
    have hkp : x.htlcs[k].kept = false := by simpa using h3
    refine ⟨k + 1,hk,by omega,⟨(Eq.trans (b := int _) rfl (congrArg int (tot_add hk (by unfold hFew;simp [he,hkp])))),(Eq.trans (b := int _) rfl (congrArg int (tot_add hk (by unfold hOut;simp [he,hkp])))),(Eq.trans (b := int _) rfl (congrArg int (tot_add hk (by unfold hOneF;simp [he,hkp])))),(Eq.trans (b := int _) rfl (congrArg int (tot_add hk (by unfold hOne;simp [he,hkp])))),(iq rfl),trivial⟩,trivial,rfl,rfl⟩
   ·intro h3
    refine aK<|gB<|gT<|aL<|lgI Z<|lT [5,6,7,8,9,10,11,12,19,20,21,45] [2005,2006,2007,2014] ?_
    refine lmI Z<|nG ?_
    have he : x.htlcs[k].out = e.to := by simpa using h2
    have hkp : x.htlcs[k].kept = true := by simpa using h3
    refine ⟨k + 1,hk,by omega,⟨(congrArg int (tot_skip hk (by unfold hFew;simp [he,hkp])).symm),(Eq.trans (b := int _) rfl (congrArg int (tot_add hk (by unfold hOut;simp [he,hkp])))),(congrArg int (tot_skip hk (by unfold hOneF;simp [he,hkp])).symm),(Eq.trans (b := int _) rfl (congrArg int (tot_add hk (by unfold hOne;simp [he,hkp])))),(iq rfl),trivial⟩,trivial,rfl,rfl⟩
 ·intro h1
  refine aE<|eT<|eT<|eB<|gT<|aS<|aG 14 []<|tq 0 (rf 1 ty.F40_1 Z)<|tq 1 (roI ty.kd3 Z)<|tq 2 (rmI Z)<|tq 3 (rmI Z)<|tq 4 (rmI Z)<|tq 5 (rmI Z)<|tq 6 (rf 4 ty.F29_4 Z)<|tq 7 (roI ty.kd3 Z)<|tq 8 (rf 6 ty.F40_6 Z)<|tq 9 (roI ty.kd3 Z)<|yq 10 (rf 6 ty.F29_6 Z)<|yq 11 (roB ty.kd4 Z)<|yst 12 Z (zL Tryz.func134 (standing_e _ _) Z)<|gX [8,47,48,49,50,51,53,58] [2005,2006,2007] ?_
  refine yst 13 Z (zL Tryz.func133 (allow_e _ _ _ _ _ _ _) Z)<|yq 14 (raI Z)<|gD<|gT<|aR ?_
  have hke : k = x.htlcs.length := by have h := h1;simp only [length_rowsOf,decide_eq_false_iff_not] at h;omega
  subst hke
  refine end_ret ?_ trivial
  refine congrArg (fun n => some (int n)) ?_
  unfold roomV
  rw [List.take_length]
theorem tick_e (g u : Value) (x : Book) (sm : BookSm x) : GC Tryz.prog 46 [.ptr 0 0 0] (wIn g u x [] 0) (.tup []) (wOut g (tickR x)) := by
 have bh := sm.lh
 have bc := sm.lc
 refine GC.intro (rs := []) Tryz.func46 rfl Tryz.ntmps46 (Nat.le_of_ble_eq_true rfl) trivial ?_
 intro L O w0
 refine AW.unpin 1 rfl ?_
 refine sL<|lmP Z<|lc Z<|lf 0 ty.F84_0 Z<|lf 0 ty.F27_0 Z<|loI ty.kd3 Z ?_
 refine lhI rfl ⟨rfl,fits_i64 (by have := sm.tick;unfold A50 at this;unfold i64;omega)⟩<|lc Z<|lf 0 ty.F84_0 Z<|lf 0 ty.F27_0 Z<|lst (zB 0 ty.co3 ty.inf3 rfl) Z<|nG<|aS<|sL<|lmP Z<|lc Z<|lf 0 ty.F84_0 Z<|lf 4 ty.F27_4 Z<|loO ty.kd24 Z<|lnI ty.sl24 Z<|lmI Z<|nG<|aB ?_
 refine aW [0,20] [0,1,3,4] (D := Nat) (fun k => [(21,int (k : Int))]) (fun k => [(2,hAr (mapTo ageH k x.htlcs))]) (fun k => k ≤ x.htlcs.length) (fun k => x.htlcs.length - k) (0) (Nat.zero_le _) ⟨rfl,trivial⟩ ⟨(congrArg hAr (mapTo_zero ageH x.htlcs).symm),trivial⟩ ?_
 intro k hI
 refine sL<|lbB Z<|nG<|aS ?_
 refine AW.cond rfl ?_ ?_
 ·intro h1
  refine aK<|gT<|aS<|aB<|sL<|lmI Z<|laI Z<|nA<|lmP Z<|lc Z<|lf 0 ty.F84_0 Z<|lf 4 ty.F27_4 Z<|loO ty.kd24 Z<|lmI Z ?_
  have hk : k < x.htlcs.length := by simpa [length_rowsOf] using h1
  have hhm := sm.htlcs _ (List.getElem_mem hk)
  refine lq (rj k ty.el24 rfl (by rw [length_rowsOf,mapTo_len _ _ _ (Nat.le_of_lt hk)];exact hk))<|laP Z<|nG<|aL<|lmP Z<|lmP Z<|lT [0,20,21,31,32] [0,1,2,3,4] ?_
  refine lc Z<|lf 6 ty.F68_6 Z<|lq (rd (x := vI _ _) (rd_load_arr Z ty.kd3 Z Z Z (rows_some (mapTo_get ageH hk)) Z) Z) ?_
  refine lhI rfl ⟨rfl,fits_i64 (by have := hhm.2.2.1;have := hhm.2.2.2.1;unfold i64;omega)⟩<|lq (rd (x := vI _ _) (rd_min rfl rfl) rfl)<|lc Z<|lf 6 ty.F68_6 Z<|lst (zQ 2 [.v (.int .i64 (min (x.htlcs[k].age + 1) 1125899906842624))] ty.co3 ty.inf3 rfl (rows_some (mapTo_get ageH hk))) Z<|lN<|gB<|gT ?_
  refine AW.obj 2 (hAr (mapTo ageH (k + 1) x.htlcs)) (Eq.trans (b := AO.arr 68 7 ((rowsOf encHtlc (mapTo ageH k x.htlcs)).set k ((encHtlc (ageH x.htlcs[k])).map PV.v))) rfl (congrArg (AO.arr 68 7) (rows_set.trans (congrArg (rowsOf encHtlc) (mapTo_set ageH hk))))) ?_
  refine aL<|lgI Z<|lmI Z<|nG ?_
  refine ⟨k + 1,hk,by omega,⟨(iq rfl),trivial⟩,⟨rfl,trivial⟩,rfl,rfl⟩
 ·intro h1
  refine aE<|eT<|eT<|eB<|gA<|lmP Z<|lc Z<|lf 0 ty.F84_0 Z<|lf 3 ty.F27_3 Z<|loO ty.kd23 Z<|lnI ty.sl23 Z<|lmI Z<|nG<|aB ?_
  have hkeh : k = x.htlcs.length := by have h := h1;simp only [length_rowsOf,decide_eq_false_iff_not] at h;omega
  refine AW.obj 2 (hAr (x.htlcs.map ageH)) (congrArg hAr (by rw [hkeh,mapTo_all])) ?_
  refine aW [0,46] [0,2,3,4] (D := Nat) (fun j => [(47,int (j : Int))]) (fun j => [(1,.arr 40 7 (rowsOf encChan (mapTo (fadeC x.tick) j x.chans)))]) (fun j => j ≤ x.chans.length) (fun j => x.chans.length - j) (0) (Nat.zero_le _) ⟨rfl,trivial⟩ ⟨(congrArg (fun l => AO.arr 40 7 (rowsOf encChan l)) (mapTo_zero (fadeC x.tick) x.chans).symm),trivial⟩ ?_
  intro j hI
  refine sL<|lbB Z<|nG<|aS ?_
  refine AW.cond rfl ?_ ?_
  ·intro h2
   refine aK<|gT<|aS<|aB<|sL<|lmI Z<|laI Z<|nA<|lmP Z<|lc Z<|lf 0 ty.F84_0 Z<|lf 3 ty.F27_3 Z<|loO ty.kd23 Z<|lmI Z ?_
   have hj : j < x.chans.length := by simpa [length_rowsOf] using h2
   have hcm := sm.chans _ (List.getElem_mem hj)
   refine lq (rj j ty.el23 rfl (by rw [length_rowsOf,mapTo_len _ _ _ (Nat.le_of_lt hj)];exact hj))<|laP Z<|nA<|lmP Z<|lc Z<|lT [0,5,46,47,58] [0,1,2,3,4] ?_
   refine lf 0 ty.F84_0 Z<|lf 0 ty.F27_0 Z<|loI ty.kd3 Z ?_
   refine lhI rfl ⟨rfl,by decide⟩<|lbB Z<|nG ?_
   refine AW.cond rfl ?_ ?_
   ·intro h3
    refine aL<|lmP Z<|lmP Z<|lc Z<|lf 6 ty.F40_6 Z<|lq (rd (x := vI _ _) (rd_load_arr Z ty.kd3 Z Z Z (rows_some (mapTo_get _ hj)) Z) Z)<|lst (zL Tryz.func104 (scFade_e _) Z) Z<|lc Z<|lf 6 ty.F40_6 Z<|lst (zQ 1 [.v (.int .i64 (fade x.chans[j].score))] ty.co3 ty.inf3 Z (rows_some (mapTo_get _ hj))) Z<|lT [0,46,47] [0,1,2,3,4] ?_
    refine lN<|gB<|gT ?_
    refine AW.obj 1 (.arr 40 7 (rowsOf encChan (mapTo (fadeC x.tick) (j + 1) x.chans))) (Eq.trans (b := AO.arr 40 7 ((rowsOf encChan (mapTo (fadeC x.tick) j x.chans)).set j ((encChan { x.chans[j] with score := fade x.chans[j].score }).map PV.v))) rfl (congrArg (AO.arr 40 7) (rows_set.trans (congrArg (rowsOf encChan) (by rw [← mapTo_set _ hj];unfold fadeC;rw [if_pos (by simpa using h3)]))))) ?_
    refine aL<|lgI Z<|lmI Z<|nG ?_
    refine ⟨j + 1,hj,by omega,⟨(iq rfl),trivial⟩,⟨rfl,trivial⟩,rfl,rfl⟩
   ·intro h3
    refine aK<|gB<|gT<|aL<|lgI Z<|lmI Z<|nG ?_
    refine ⟨j + 1,hj,by omega,⟨(iq rfl),trivial⟩,⟨(congrArg (fun l => AO.arr 40 7 (rowsOf encChan l)) (mapTo_skip (fadeC x.tick) hj (if_neg (by simpa using h3)))),trivial⟩,rfl,rfl⟩
  ·intro h2
   refine aE<|eT<|eT<|eB ?_
   refine end_go ?_ ⟨rfl,(congrArg (fun l => AO.arr 40 7 (rowsOf encChan l)) (by rw [show j = x.chans.length by have h := h2;simp only [length_rowsOf,decide_eq_false_iff_not] at h;omega,mapTo_all];rfl)),rfl,rfl,rfl,trivial⟩
   rfl
theorem open_e (g u : Value) (x : Book) (e : Event) (sm : BookSm x) (es : EvSm e) : GC Tryz.prog 41 [.ptr 0 0 0,evV e] (wIn g u x [] 0) (.tup []) (wOut g (openR x e)) := by
 have hm : x.chans.length ≤ 1000000000 := by have := sm.lc;omega
 have hmh : x.htlcs.length ≤ 1000000000 := by have := sm.lh;omega
 have hmc : x.circles.length ≤ 1000000000 := by have := sm.li;omega
 refine GC.intro (rs := []) Tryz.func41 rfl Tryz.ntmps41 (Nat.le_of_ble_eq_true rfl) trivial ?_
 intro L O w0
 refine AW.unpin 1 rfl ?_
 refine sL<|lst (zX 2003 Z) Z<|nG ?_
 refine aJ [0,3] [1,2,3,4,2003] (D := Unit) (fun jd => []) (fun jd => [(0,wBox g x.tick x.next x.wallet (failC (decide (0 ≤ chanAt x.chans e.ch) || decide ((20 : Int) ≤ (x.chans.length : Int))) 0 3))]) (fun jd => True) ?_ ?_
 ·refine aG 18 []<|tq 0 (rmP Z)<|tq 1 (rmP Z)<|tq 2 (rc Z)<|tq 3 (rf 0 ty.F84_0 Z)<|tq 4 (roX (.agg [vI _ _,vI _ _,vI _ _,.own _,.own _,.own _]) ty.kd27 Z)<|yq 5 (rf 2 ty.F29_2 Z)<|yq 6 (roI ty.kd3 Z)<|yst 7 Z (zL Tryz.func69 (chanAt_e x _ hm) Z)<|yq 8 (rbB Z)<|yq 9 (rmB Z) ?_
  refine AG.bool (t := 15) rfl ?_ ?_
  ·intro h1
   refine yno 10 Z<|yno 11 Z<|yno 12 Z<|yno 13 Z<|yno 14 Z<|yno 15 Z<|yno 16 Z<|yq 17 (rkT Z) ?_
   refine yl rfl (z5a Tryz.func95 (fail_e _ _ _ _ _ _ _ _ _ _ _ _ _ _ _ _ _ _ _ ) (⟨stays.box rfl,trivial⟩) rfl rfl)<|gT ?_
   refine ⟨(),trivial,trivial,⟨(Eq.trans (b := wBox g x.tick x.next x.wallet _) rfl (congrArg (wBox g x.tick x.next x.wallet) (by rw [show decide (0 ≤ chanAt x.chans e.ch) = true from h1];simp [length_rowsOf]))),trivial⟩,rfl,rfl⟩
  ·intro h1
   refine yq 10 (rmP Z)<|yq 11 (rc Z)<|yq 12 (rf 0 ty.F84_0 Z)<|yq 13 (rf 3 ty.F27_3 Z)<|yq 14 (roO ty.kd23 Z)<|yq 15 (rnI ty.sl23 Z)<|yq 16 (rbB Z)<|yq 17 (rkB Z) ?_
   refine yl rfl (z5a Tryz.func95 (fail_e _ _ _ _ _ _ _ _ _ _ _ _ _ _ _ _ _ _ _ ) (⟨stays.box rfl,trivial⟩) rfl rfl)<|gT ?_
   refine ⟨(),trivial,trivial,⟨(Eq.trans (b := wBox g x.tick x.next x.wallet _) rfl (congrArg (wBox g x.tick x.next x.wallet) (by rw [show decide (0 ≤ chanAt x.chans e.ch) = false from h1];simp [length_rowsOf]))),trivial⟩,rfl,rfl⟩
 ·intro jd hJ
  refine aS<|aG 9 []<|tq 0 (rmP Z)<|tq 1 (rmP Z)<|tq 2 (rc Z)<|tq 3 (rf 0 ty.F84_0 Z)<|tq 4 (rf 2 ty.F27_2 Z)<|tq 5 (roI ty.kd3 Z)<|yq 6 (rf 4 ty.F29_4 Z)<|yq 7 (roI ty.kd3 Z)<|yq 8 (rbB Z) ?_
  refine yl rfl (z5a Tryz.func95 (fail_e _ _ _ _ _ _ _ _ _ _ _ _ _ _ _ _ _ _ _ ) (⟨stays.box rfl,trivial⟩) rfl rfl)<|gT<|aS<|sL<|lmP Z<|lc Z<|lf 7 ty.F84_2 Z<|loI ty.kd3 Z<|lbB Z<|nG ?_
  refine AW.cond rfl ?_ ?_
  ·intro h2
   refine aR<|rT ?_
   have hc0 : openC x e ≠ 0 := by
     unfold openC
     simpa [length_rowsOf,← chanAt_atI] using h2
   rw [openR_no hc0]
   refine end_ret ?_ ⟨rfl,rfl,rfl,rfl,rfl,trivial⟩
   rfl
  ·intro h2
   refine aK<|gT<|aS ?_
   have hc0 : openC x e = 0 := by
     unfold openC
     simpa [length_rowsOf,← chanAt_atI] using h2
   refine aL<|laI Z<|nG<|aS<|aB ?_
   refine aW [0,3] [0,1,2,3,4,2003] (D := Nat) (fun k => [(4,int (k : Int))]) (fun k => []) (fun k => k ≤ x.chans.length ∧ ∀ j (h : j < x.chans.length),j < k → x.chans[j].id < e.ch) (fun k => x.chans.length - k) (0) (⟨Nat.zero_le _,fun j _ h => absurd h (by omega)⟩) ⟨rfl,trivial⟩ trivial ?_
   intro k hI
   obtain ⟨hkl,hall⟩ := hI
   refine aS<|aS<|aG 21 []<|tq 0 (rmI Z)<|yq 1 (rmP Z)<|yq 2 (rc Z)<|yq 3 (rf 0 ty.F84_0 Z)<|yq 4 (rf 3 ty.F27_3 Z)<|yq 5 (roO ty.kd23 Z)<|yq 6 (rnI ty.sl23 Z)<|yq 7 (rbB Z)<|yq 8 (rmB Z) ?_
   refine AG.bool (t := 48) rfl ?_ ?_
   ·intro h3
    refine tq 9 (rmP Z)<|tq 10 (rc Z)<|tq 11 (rf 0 ty.F84_0 Z)<|tq 12 (rf 3 ty.F27_3 Z)<|tq 13 (roO ty.kd23 Z)<|gX [0,3,4,48,53] [0,1,2,3,4,2003] ?_
    refine tq 14 (rmI rfl) ?_
    have hk : k < x.chans.length := by simpa [length_rowsOf] using h3
    refine tq 15 (rj k ty.el23 rfl (by rw [length_rowsOf];exact hk))<|tq 16 (rf 0 ty.F40_0 rfl)<|tq 17 (rd (x := vI _ _) (rd_load_arr rfl ty.kd3 rfl rfl rfl (row_map hk) rfl) rfl)<|yq 18 (rf 2 ty.F29_2 rfl)<|yq 19 (roI ty.kd3 rfl)<|yq 20 (rbB rfl)<|yq 21 (rkB rfl)<|gD<|gT ?_
    refine AW.cond rfl ?_ ?_
    ·intro h4
     refine aK<|gT<|aB<|aL<|lmI Z<|lgI Z<|laI Z<|lN<|gB<|gT ?_
     refine ⟨k + 1,⟨hk,id_succ hk hall (by simpa using h4)⟩,by omega,⟨(iq rfl),trivial⟩,trivial,rfl,rfl⟩
    ·intro h4
     refine aE<|eT<|eT<|eB<|gT<|aS ?_
     have hpos : posC x.chans e.ch = k := posC_at hkl hall (fun hlt => by first | (simp_all [length_rowsOf];done) | (simp_all [length_rowsOf];omega))
     refine aL<|lf 2 ty.F29_2 Z<|loI ty.kd3 Z<|lf 4 ty.F29_4 Z<|loI ty.kd3 Z<|lf 5 ty.F29_5 Z<|loI ty.kd3 Z ?_
     refine lhI rfl ⟨rfl,fits_i64 (by have := es.amt;have := es.fee;have := sm.wallet;unfold A50 at *;unfold i64;omega)⟩<|lf 4 ty.F29_4 Z<|loI ty.kd3 Z<|lf 5 ty.F29_5 Z<|loI ty.kd3 Z<|lq (rd (x := .agg [vI _ _,vI _ _,vI _ _,vI _ _,vI _ _,vI _ _,vI _ _]) (rd_build rfl ty.sa40 rfl rfl rfl) rfl)<|lst (zA 2005 ty.ze40 rfl) Z<|lT [0,3,4,5,75] [0,1,2,3,4,2003,2005] ?_
     refine lst (zB 2005 ty.co40 ty.inf40 Z) Z<|nG ?_
     refine aJ [0,3] [2,3,4,2003,2005] (D := Unit) (fun jd => []) (fun jd => [(2084,.arr 40 7 (rowsOf encChan (insC x.chans ⟨e.ch,e.amt + e.fee,e.amt,e.fee,0,0,0⟩))),(0,.box 84 (some g) [int x.tick,int x.next,int x.wallet,.own 2084,.own 2,.own 3,.own 4,int (openC x e)])]) (fun jd => True) ?_ ?_
     ·refine aG 23 [2084]<|tq 0 (rmP Z)<|tq 1 (rmP Z)<|tq 2 (rc Z)<|tq 3 (rf 0 ty.F84_0 Z)<|tq 4 (rf 3 ty.F27_3 Z)<|tq 5 (roO ty.kd23 Z)<|tq 6 (rmI Z) ?_
      refine tq 7 (rd (x := .sub _ _ _) (rd_slc_own (l := 0) (h := k) rfl ty.el23 rfl rfl rfl ⟨_,rfl⟩ (by omega) (by rw [length_rowsOf];exact hkl)) rfl)<|tq 9 (roX (.agg [vI _ _,vI _ _,vI _ _,vI _ _,vI _ _,vI _ _,vI _ _]) ty.kd40 rfl)<|tq 12 (rmP rfl)<|tq 13 (rc rfl)<|tq 14 (rf 0 ty.F84_0 rfl)<|tq 15 (rf 3 ty.F27_3 rfl)<|tq 16 (roO ty.kd23 rfl)<|tq 17 (rmI rfl) ?_
      refine tq 18 (rd (x := .sub _ _ _) (rd_slc_own (l := k) (h := _) rfl ty.el23 rfl rfl ⟨_,rfl⟩ rfl (by rw [length_rowsOf];exact hkl) (Nat.le_refl _)) rfl) ?_
      refine AG.two (i := 8) (j := 10) (by kernel_rfl) ?_ ?_
      ·refine AG1.st (i := 8) rfl (St.app0 2084 rfl rfl (by decide) ty.el23 ty.ze40 rfl (by decide) rfl (Src.sub rfl rfl) (by simp [rowsOf,maxLen] at *;omega) (Nat.le_trans (Nat.mul_le_mul_left _ ty.by40) (by simp [rowsOf] at *;omega))) (by decide) rfl ?_
       refine gX [0,3,76,84,85,94] [0,1,2,3,4,2003,2005,2084] ?_
       refine yst 10 rfl (zS 2086 (rowsOf encChan [⟨e.ch,e.amt + e.fee,e.amt,e.fee,0,0,0⟩]) ty.el23 ty.ze40 rfl)<|yst 11 rfl (zP 2084 ty.el23 ty.ze40 ty.by40 rfl (Src.own rfl rfl))<|yst 19 rfl (zP 2084 ty.el23 ty.ze40 ty.by40 rfl (Src.sub rfl rfl))<|yq 20 (rc rfl)<|yq 21 (rf 0 ty.F84_0 rfl)<|yq 22 (rf 3 ty.F27_3 rfl)<|yl rfl (zB 0 ty.co23 ty.inf23 rfl)<|gT ?_
       refine ⟨(),trivial,trivial,⟨(congrArg (AO.arr 40 7) (ins_rows.trans (congrArg (rowsOf encChan) (by unfold insC;rw [hpos])))),rfl,trivial⟩,rfl,rfl⟩
      ·refine AG1.st (i := 10) rfl (St.bslice 2086 (rows := rowsOf encChan [⟨e.ch,e.amt + e.fee,e.amt,e.fee,0,0,0⟩]) rfl rfl (by decide) ty.el23 ty.ze40 rfl rfl rfl rfl (by intro r hr;simp [rowsOf] at hr;subst hr;rfl) rfl (by decide) (by decide)) (by decide) rfl ?_
       refine yst 8 rfl (St.app0 2084 rfl rfl (by decide) ty.el23 ty.ze40 rfl (by decide) rfl (Src.sub rfl rfl) (by simp [rowsOf,maxLen] at *;omega) (Nat.le_trans (Nat.mul_le_mul_left _ ty.by40) (by simp [rowsOf] at *;omega)))<|yst 11 rfl (zP 2084 ty.el23 ty.ze40 ty.by40 rfl (Src.own rfl rfl))<|yst 19 rfl (zP 2084 ty.el23 ty.ze40 ty.by40 rfl (Src.sub rfl rfl))<|yq 20 (rc rfl)<|yq 21 (rf 0 ty.F84_0 rfl)<|yq 22 (rf 3 ty.F27_3 rfl)<|yl rfl (zB 0 ty.co23 ty.inf23 rfl)<|gT ?_
       refine ⟨(),trivial,trivial,⟨(congrArg (AO.arr 40 7) (ins_rows.trans (congrArg (rowsOf encChan) (by unfold insC;rw [hpos])))),rfl,trivial⟩,rfl,rfl⟩
     ·intro jd hJ
      refine aS ?_
      refine AW.swap 2084 1 ?_
      refine aT [0,3] [0,1,2,3,4,2003,2005] ?_
      refine aG 11 []<|tq 0 (rmP Z)<|tq 1 (rc Z)<|tq 2 (rf 0 ty.F84_0 Z)<|tq 3 (rf 2 ty.F27_2 Z)<|tq 4 (roI ty.kd3 Z)<|yq 5 (rf 4 ty.F29_4 Z)<|yq 6 (roI ty.kd3 Z) ?_
      refine yq 7 (rhI rfl ⟨rfl,fits_i64 (by have := es.amt;have := es.fee;have := sm.wallet;unfold A50 at *;unfold i64;omega)⟩)<|yq 8 (rc rfl)<|yq 9 (rf 0 ty.F84_0 rfl)<|yq 10 (rf 2 ty.F27_2 rfl)<|yl rfl (zB 0 ty.co3 ty.inf3 rfl)<|gA<|lmP Z<|lf 2 ty.F29_2 Z<|loI ty.kd3 Z<|lf 4 ty.F29_4 Z<|loI ty.kd3 rfl ?_
      refine lst (z5a Tryz.func40 (line_e _ _ _ _ _ _ _ _ _ _ _ _ _ _ ([]) 0 (LG.nil) (by decide) _ _ _ (Fresh.nil _ _) (rangeA_of es.amt)) (⟨stays.box rfl,trivial⟩) rfl rfl) Z<|lT [0,3] [0,1,2,3,4,2003,2005] ?_
      refine nG<|aL<|lmP Z<|lf 4 ty.F29_4 Z<|loI ty.kd3 Z<|lq (rd (x := vI _ _) (rd_un rfl rfl (fits_i64 (by have := es.amt;have := es.fee;have := sm.wallet;unfold A50 at *;unfold i64;omega))) rfl) ?_
      refine lst (z5a Tryz.func40 (line_e _ _ _ _ _ _ _ _ _ _ _ _ _ _ (addL [] 6 e.ch e.amt) 1 (LG.nil.add (rangeA_of es.amt)) (by decide) _ _ _ ((Fresh.nil _ _).add (.inl (by decide))) (rangeA_neg es.amt)) (⟨stays.box rfl,trivial⟩) rfl rfl) Z<|lN ?_
      rw [openR_yes hc0]
      refine end_go ?_ ⟨(Eq.trans (b := wBox g x.tick x.next (x.wallet - e.amt) _) rfl (congrArg (wBox g x.tick x.next (x.wallet - e.amt)) hc0)),rfl,rfl,rfl,rfl,trivial⟩
      rfl
   ·intro h3
    refine tno 9 Z<|tno 10 Z<|tno 11 Z<|tno 12 Z<|tno 13 Z<|tno 14 Z<|tno 15 Z<|tno 16 Z<|tno 17 Z<|yno 18 Z<|yno 19 Z<|yno 20 Z<|yq 21 (rkZ Z)<|gD<|gT<|aN Z<|aE<|eT<|eT<|eB<|gT<|aS ?_
    have hpos : posC x.chans e.ch = k := posC_at hkl hall (fun hlt => by first | (simp_all [length_rowsOf];done) | (simp_all [length_rowsOf];omega))
    refine aL<|lf 2 ty.F29_2 Z<|loI ty.kd3 Z<|lf 4 ty.F29_4 Z<|loI ty.kd3 Z<|lf 5 ty.F29_5 Z<|loI ty.kd3 Z ?_
    refine lhI rfl ⟨rfl,fits_i64 (by have := es.amt;have := es.fee;have := sm.wallet;unfold A50 at *;unfold i64;omega)⟩<|lf 4 ty.F29_4 Z<|loI ty.kd3 Z<|lf 5 ty.F29_5 Z<|loI ty.kd3 Z<|lq (rd (x := .agg [vI _ _,vI _ _,vI _ _,vI _ _,vI _ _,vI _ _,vI _ _]) (rd_build rfl ty.sa40 rfl rfl rfl) rfl)<|lst (zA 2005 ty.ze40 rfl) Z<|lT [0,3,4,5,75] [0,1,2,3,4,2003,2005] ?_
    refine lst (zB 2005 ty.co40 ty.inf40 Z) Z<|nG ?_
    refine aJ [0,3] [2,3,4,2003,2005] (D := Unit) (fun jd => []) (fun jd => [(2084,.arr 40 7 (rowsOf encChan (insC x.chans ⟨e.ch,e.amt + e.fee,e.amt,e.fee,0,0,0⟩))),(0,.box 84 (some g) [int x.tick,int x.next,int x.wallet,.own 2084,.own 2,.own 3,.own 4,int (openC x e)])]) (fun jd => True) ?_ ?_
    ·refine aG 23 [2084]<|tq 0 (rmP Z)<|tq 1 (rmP Z)<|tq 2 (rc Z)<|tq 3 (rf 0 ty.F84_0 Z)<|tq 4 (rf 3 ty.F27_3 Z)<|tq 5 (roO ty.kd23 Z)<|tq 6 (rmI Z) ?_
     refine tq 7 (rd (x := .sub _ _ _) (rd_slc_own (l := 0) (h := k) rfl ty.el23 rfl rfl rfl ⟨_,rfl⟩ (by omega) (by rw [length_rowsOf];exact hkl)) rfl)<|tq 9 (roX (.agg [vI _ _,vI _ _,vI _ _,vI _ _,vI _ _,vI _ _,vI _ _]) ty.kd40 rfl)<|tq 12 (rmP rfl)<|tq 13 (rc rfl)<|tq 14 (rf 0 ty.F84_0 rfl)<|tq 15 (rf 3 ty.F27_3 rfl)<|tq 16 (roO ty.kd23 rfl)<|tq 17 (rmI rfl) ?_
     refine tq 18 (rd (x := .sub _ _ _) (rd_slc_own (l := k) (h := _) rfl ty.el23 rfl rfl ⟨_,rfl⟩ rfl (by rw [length_rowsOf];exact hkl) (Nat.le_refl _)) rfl) ?_
     refine AG.two (i := 8) (j := 10) (by kernel_rfl) ?_ ?_
     ·refine AG1.st (i := 8) rfl (St.app0 2084 rfl rfl (by decide) ty.el23 ty.ze40 rfl (by decide) rfl (Src.sub rfl rfl) (by simp [rowsOf,maxLen] at *;omega) (Nat.le_trans (Nat.mul_le_mul_left _ ty.by40) (by simp [rowsOf] at *;omega))) (by decide) rfl ?_
      refine gX [0,3,76,84,85,94] [0,1,2,3,4,2003,2005,2084] ?_
      refine yst 10 rfl (zS 2086 (rowsOf encChan [⟨e.ch,e.amt + e.fee,e.amt,e.fee,0,0,0⟩]) ty.el23 ty.ze40 rfl)<|yst 11 rfl (zP 2084 ty.el23 ty.ze40 ty.by40 rfl (Src.own rfl rfl))<|yst 19 rfl (zP 2084 ty.el23 ty.ze40 ty.by40 rfl (Src.sub rfl rfl))<|yq 20 (rc rfl)<|yq 21 (rf 0 ty.F84_0 rfl)<|yq 22 (rf 3 ty.F27_3 rfl)<|yl rfl (zB 0 ty.co23 ty.inf23 rfl)<|gT ?_
      refine ⟨(),trivial,trivial,⟨(congrArg (AO.arr 40 7) (ins_rows.trans (congrArg (rowsOf encChan) (by unfold insC;rw [hpos])))),rfl,trivial⟩,rfl,rfl⟩
     ·refine AG1.st (i := 10) rfl (St.bslice 2086 (rows := rowsOf encChan [⟨e.ch,e.amt + e.fee,e.amt,e.fee,0,0,0⟩]) rfl rfl (by decide) ty.el23 ty.ze40 rfl rfl rfl rfl (by intro r hr;simp [rowsOf] at hr;subst hr;rfl) rfl (by decide) (by decide)) (by decide) rfl ?_
      refine yst 8 rfl (St.app0 2084 rfl rfl (by decide) ty.el23 ty.ze40 rfl (by decide) rfl (Src.sub rfl rfl) (by simp [rowsOf,maxLen] at *;omega) (Nat.le_trans (Nat.mul_le_mul_left _ ty.by40) (by simp [rowsOf] at *;omega)))<|yst 11 rfl (zP 2084 ty.el23 ty.ze40 ty.by40 rfl (Src.own rfl rfl))<|yst 19 rfl (zP 2084 ty.el23 ty.ze40 ty.by40 rfl (Src.sub rfl rfl))<|yq 20 (rc rfl)<|yq 21 (rf 0 ty.F84_0 rfl)<|yq 22 (rf 3 ty.F27_3 rfl)<|yl rfl (zB 0 ty.co23 ty.inf23 rfl)<|gT ?_
      refine ⟨(),trivial,trivial,⟨(congrArg (AO.arr 40 7) (ins_rows.trans (congrArg (rowsOf encChan) (by unfold insC;rw [hpos])))),rfl,trivial⟩,rfl,rfl⟩
    ·intro jd hJ
     refine aS ?_
     refine AW.swap 2084 1 ?_
     refine aT [0,3] [0,1,2,3,4,2003,2005] ?_
     refine aG 11 []<|tq 0 (rmP Z)<|tq 1 (rc Z)<|tq 2 (rf 0 ty.F84_0 Z)<|tq 3 (rf 2 ty.F27_2 Z)<|tq 4 (roI ty.kd3 Z)<|yq 5 (rf 4 ty.F29_4 Z)<|yq 6 (roI ty.kd3 Z) ?_
     refine yq 7 (rhI rfl ⟨rfl,fits_i64 (by have := es.amt;have := es.fee;have := sm.wallet;unfold A50 at *;unfold i64;omega)⟩)<|yq 8 (rc rfl)<|yq 9 (rf 0 ty.F84_0 rfl)<|yq 10 (rf 2 ty.F27_2 rfl)<|yl rfl (zB 0 ty.co3 ty.inf3 rfl)<|gA<|lmP Z<|lf 2 ty.F29_2 Z<|loI ty.kd3 Z<|lf 4 ty.F29_4 Z<|loI ty.kd3 rfl ?_
     refine lst (z5a Tryz.func40 (line_e _ _ _ _ _ _ _ _ _ _ _ _ _ _ ([]) 0 (LG.nil) (by decide) _ _ _ (Fresh.nil _ _) (rangeA_of es.amt)) (⟨stays.box rfl,trivial⟩) rfl rfl) Z<|lT [0,3] [0,1,2,3,4,2003,2005] ?_
     refine nG<|aL<|lmP Z<|lf 4 ty.F29_4 Z<|loI ty.kd3 Z<|lq (rd (x := vI _ _) (rd_un rfl rfl (fits_i64 (by have := es.amt;have := es.fee;have := sm.wallet;unfold A50 at *;unfold i64;omega))) rfl) ?_
     refine lst (z5a Tryz.func40 (line_e _ _ _ _ _ _ _ _ _ _ _ _ _ _ (addL [] 6 e.ch e.amt) 1 (LG.nil.add (rangeA_of es.amt)) (by decide) _ _ _ ((Fresh.nil _ _).add (.inl (by decide))) (rangeA_neg es.amt)) (⟨stays.box rfl,trivial⟩) rfl rfl) Z<|lN ?_
     rw [openR_yes hc0]
     refine end_go ?_ ⟨(Eq.trans (b := wBox g x.tick x.next (x.wallet - e.amt) _) rfl (congrArg (wBox g x.tick x.next (x.wallet - e.amt)) hc0)),rfl,rfl,rfl,rfl,trivial⟩
     rfl
end Go.Proofs.YtogkbcmfoalpiaaGreat

