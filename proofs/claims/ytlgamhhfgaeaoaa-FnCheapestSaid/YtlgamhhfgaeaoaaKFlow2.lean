/- FlowOk as a plain function. -/
import Derived.Test.YtlgamhhfgaeaoaaKFlow1
namespace Go.Proofs.Ytlgamhhfgaeaoaa
open Go.RowKit
set_option linter.unusedSimpArgs false
set_option linter.unusedVariables false
def stepSum(s:List Int)(p:Edge×Int):List Int:=
 let s1:=s.set p.1.frm.toNat (s.getD p.1.frm.toNat 0-p.2)
 s1.set p.1.to.toNat (s1.getD p.1.to.toNat 0+p.2)
def sumsOf(n:Nat)(l:List (Edge×Int)):List Int:=l.foldl stepSum (List.replicate n 0)
def flowIn(p:Edge×Int):Bool:=inB p.2 0 p.1.cap
def flowOk(x:Graph)(f:List Int):Bool:=
 graphOk x&&decide (f.length=x.edges.length)&&(x.edges.zip f).all flowIn&&(sumsOf x.n.toNat (x.edges.zip f)).all (fun n=>n==0)
theorem stepSum_length(s:List Int)(p:Edge×Int):(stepSum s p).length=s.length:=by simp[stepSum]
theorem foldSum_length:∀(l:List (Edge×Int)) (s:List Int),(l.foldl stepSum s).length=s.length
 |[],_=>rfl
 |p::r,s=>by rw[List.foldl_cons,foldSum_length r,stepSum_length]
theorem sumsOf_length(n:Nat)(l:List (Edge×Int)):(sumsOf n l).length=n:=by unfold sumsOf;rw[foldSum_length];simp
theorem sumsOf_snoc(n:Nat)(l:List (Edge×Int))(k:Nat)(hk:k<l.length):sumsOf n (l.take (k+1))=stepSum (sumsOf n (l.take k)) l[k]:=by
 unfold sumsOf;rw[List.take_succ_eq_append_getElem hk,List.foldl_append];rfl
def bdd(b:Int)(s:List Int):Prop:=∀i (h:i<s.length),-b≤s[i]∧s[i]≤b
theorem bdd_set{b c:Int}{s:List Int}(h:bdd b s)(i:Nat)(v:Int)(hbc:b≤c)(h1:-c≤v)(h2:v≤c):bdd c (s.set i v):=fun j hj=>by
 have hj':j<s.length:=by simpa using hj
 have hb:=h j hj'
 by_cases e:i=j
 ·subst e;simp only[List.getElem_set_self];exact⟨h1,h2⟩
 ·rw[List.getElem_set_ne e];exact⟨by omega,by omega⟩
theorem bdd_getD{b:Int}{s:List Int}(h:bdd b s)(hb:0≤b)(i:Nat):-b≤s.getD i 0∧s.getD i 0≤b:=by
 by_cases hi:i<s.length
 ·rw[List.getD_eq_getElem?_getD,List.getElem?_eq_getElem hi];exact h i hi
 ·rw[List.getD_eq_getElem?_getD,List.getElem?_eq_none (by omega)];exact⟨by simpa using hb,by simpa using hb⟩
theorem bdd_step{b:Int}{s:List Int}{p:Edge×Int}(h:bdd b s)(hb:0≤b)(h0:0≤p.2)(h1:p.2≤1000000000):bdd (b+2000000000) (stepSum s p):=by
 have g1:=bdd_getD h hb p.1.frm.toNat
 have h1':bdd (b+1000000000) (s.set p.1.frm.toNat (s.getD p.1.frm.toNat 0-p.2)):=bdd_set h _ _ (by omega) (by omega) (by omega)
 have g2:=bdd_getD h1' (by omega) p.1.to.toNat
 exact bdd_set h1' _ _ (by omega) (by omega) (by omega)
theorem bdd_fold:∀(l:List (Edge×Int)) (b:Int) (s:List Int),bdd b s→0≤b→(∀p∈l,0≤p.2∧p.2≤1000000000)→bdd (b+2000000000*l.length) (l.foldl stepSum s)
 |[],b,s,h,_,_=>by simpa using h
 |p::r,b,s,h,hb,hp=>by
  have hp0:=hp p (by simp)
  have:=bdd_fold r (b+2000000000) (stepSum s p) (bdd_step h hb hp0.1 hp0.2) (by omega) (fun q hq=>hp q (by simp[hq]))
  rw[List.foldl_cons]
  rw[show b+2000000000*((p::r).length:Int)=b+2000000000+2000000000*(r.length:Int)from by rw[List.length_cons];omega]
  exact this
theorem bdd_sums(n:Nat)(l:List (Edge×Int))(hp:∀p∈l,0≤p.2∧p.2≤1000000000):bdd (2000000000*l.length) (sumsOf n l):=by
 have h0:bdd 0 (List.replicate n 0):=fun i hi=>by simp
 have:=bdd_fold l 0 _ h0 (Int.le_refl _) hp
 simpa[sumsOf]using this
theorem all_take_succ'{α:Type}{p:α→Bool}{l:List α}{k:Nat}(hk:k<l.length):(l.take (k+1)).all p=((l.take k).all p&&p l[k]):=by
 rw[List.take_succ_eq_append_getElem hk,List.all_append];simp
theorem infoInts:(Try.prog.info? 3).map (fun i=>(i.zero,i.size,i.bytes))=some (some (.int .i64 0),1,8):=by kernel_rfl
theorem madeInts(n:Nat)(hn:n≤1048576)(w:World):(Instr.makeSlice 26 (.int .i64 (n:Int)) (.int .i64 (n:Int))).run Try.prog w =
 .ok (.slice (some ⟨w.heap.size,0,none⟩) n n) (w.alloc (.cells (madeCells #[.int .i64 0] n) 3)):=by
 obtain⟨i,hi,hz,hs,hb⟩:=info_parts infoInts
 have:=run_make (P:=Try.prog) w 26 3 i _ Try.underlying26 hi hz .i64 .i64 n n (by omega) (Int.le_refl _) (by rw[hb];omega) (by omega)
 simpa[hs,Value.cells]using this
end Go.Proofs.Ytlgamhhfgaeaoaa
