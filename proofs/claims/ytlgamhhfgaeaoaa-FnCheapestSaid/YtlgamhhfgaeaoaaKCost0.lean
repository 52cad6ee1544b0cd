/- The cost of a flow, as a plain function. No program in sight. -/
import Derived.Test.YtlgamhhfgaeaoaaKFlow2
namespace Go.Proofs.Ytlgamhhfgaeaoaa
open Go.RowKit
set_option linter.unusedSimpArgs false
set_option linter.unusedVariables false
def costSum(l:List (Edge×Int)):Int:=(l.map fun p=>p.1.cost*p.2).sum
def cost(x:Graph)(f:List Int):Int:=if flowOk x f then costSum (x.edges.zip f)else 0
theorem costSum_snoc{l:List (Edge×Int)}{k:Nat}(hk:k<l.length):costSum (l.take (k+1))=costSum (l.take k)+l[k].1.cost*l[k].2:=by
 unfold costSum;rw[List.take_succ_eq_append_getElem hk,List.map_append,List.sum_append];simp
theorem mul_bd{a b A B:Int}(h1:-A≤a)(h2:a≤A)(h3:0≤b)(h4:b≤B)(hA:0≤A):-(A*B)≤a*b∧a*b≤A*B:=by
 have hAB:A*b≤A*B:=Int.mul_le_mul_of_nonneg_left h4 hA
 have h5:a*b≤A*b:=Int.mul_le_mul_of_nonneg_right h2 h3
 have h6:-A*b≤a*b:=Int.mul_le_mul_of_nonneg_right h1 h3
 rw[Int.neg_mul]at h6
 exact⟨by omega,by omega⟩
theorem costSum_bd:∀(l:List (Edge×Int)),(∀p∈l,-1000000≤p.1.cost∧p.1.cost≤1000000∧0≤p.2∧p.2≤1000000000)→-(1000000000000000*(l.length:Int))≤costSum l∧costSum l≤1000000000000000*(l.length:Int)
 |[],_=>by simp[costSum]
 |p::r,h=>by
  obtain⟨h1,h2,h3,h4⟩:=h p (by simp)
  have hp:=mul_bd h1 h2 h3 h4 (by omega)
  have hr:=costSum_bd r (fun q hq=>h q (by simp[hq]))
  have:costSum (p::r)=p.1.cost*p.2+costSum r:=by simp[costSum]
  rw[this,List.length_cons]
  omega
theorem flowOk_parts{x:Graph}{f:List Int}(h:flowOk x f=true):x.edges.length≤60∧f.length=x.edges.length∧
 ∀p∈x.edges.zip f,-1000000≤p.1.cost∧p.1.cost≤1000000∧0≤p.2∧p.2≤1000000000:=by
 unfold flowOk at h
 simp only[Bool.and_eq_true,decide_eq_true_eq]at h
 obtain⟨⟨⟨h1,h2⟩,h3⟩,_⟩:=h
 unfold graphOk at h1
 simp only[Bool.and_eq_true,decide_eq_true_eq]at h1
 refine⟨h1.1.2,h2,fun p hp=>?_⟩
 have a1:=edgeOk_iff.1 (List.all_eq_true.1 h1.2 _ (List.of_mem_zip hp).1)
 have a2:=inB_true.1 (List.all_eq_true.1 h3 p hp)
 omega
end Go.Proofs.Ytlgamhhfgaeaoaa
