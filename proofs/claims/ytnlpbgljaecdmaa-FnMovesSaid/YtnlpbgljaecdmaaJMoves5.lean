/- Texts of the proof of FnMoves, joined: E24, Cur1, ET, ED1, EA1, EA2, EB, EA3, EA4, EA8. -/
import Derived.Test.YtnlpbgljaecdmaaJMoves4
import Derived.Test.YtnlpbgljaecdmaaJMoves3
import Derived.Test.YtnlpbgljaecdmaaKDiv2
import Derived.Test.YtnlpbgljaecdmaaKBook9
import Derived.Test.YtnlpbgljaecdmaaKAllowS
import Derived.Test.YtnlpbgljaecdmaaKScore1
namespace Go.Proofs.Ytnlpbgljaecdmaa
open Go.RowKit
set_option linter.unusedSimpArgs false
set_option linter.unusedVariables false
def flatR:AO→Prop
 |.arr e sz rows=>∀r∈rows,∀p∈r,∃v,p=PV.v v
 |_=>False
theorem GX.lent{P:Program}{f:FuncId}{args args':List AV}{ob0:List (Nat×AO)}{R:AV→List (Nat×AO)→Prop}(hc:GX P f args [] R)(hl:lendL (ofO ob0) args'=args)(h0:∀p∈ob0,arrO p.2=true)
 (hR:∀x ob1,R x ob1→ownA x=true∧(∀id∈ownN x,inO ob1 id=true)∧(∀p∈ob1,flatR p.2)∧(∀p∈ob0,inO ob1 p.1=false)) :
 GX P f args' ob0 fun x ob=>∃ob1,R x ob1∧ob=ob1++ob0:=by
 intro L w cs ρ fp hL hargs hob hdj hLf
 have hv:=RVL.lend (fun id=>⟨_,hob id⟩) args' hargs
 rw[hl]at hv
 refine Calls.mono (hc L0 w cs ρ0 (fun _=>[]) (fun _ q=>q.elim) hv (fun i=>rfl) (by simp) (by simp)) ?_
 rintro e w' ⟨x,ob1,hR1,v,ρ',fp',rfl,g1,g2,g3,g4,g5⟩
 obtain⟨hx,hn,h1,hd⟩:=hR x ob1 hR1
 have hnew:∀i,∀b∈fp' i,w.heap.size≤b:=fun i b hb=>by
  rcases(g5 i b hb).1 with⟨j,q⟩|q
  ·cases q
  ·exact q
 have hsame:∀b,b<w.heap.size→w'.heap[b]? = w.heap[b]?:=fun b hb=>g1.block b hb (by simp)
 generalize hρ2:(fun i=>if inO ob1 i=true then ρ' i else ρ i)=ρ2
 generalize hf2:(fun i=>if inO ob1 i=true then fp' i else fp i)=f2
 have eρ1:∀ {i},inO ob1 i=true→ρ2 i=ρ' i:=fun{i} h=>by rw[←hρ2];simp only[h,if_true]
 have eρ0:∀ {i},inO ob1 i=false→ρ2 i=ρ i:=fun{i} h=>by rw[←hρ2];simp[h]
 have ef1:∀ {i},inO ob1 i=true→f2 i=fp' i:=fun{i} h=>by rw[←hf2];simp only[h,if_true]
 have ef0:∀ {i},inO ob1 i=false→f2 i=fp i:=fun{i} h=>by rw[←hf2];simp[h]
 have eH1:∀ {i},inO ob1 i=true→ofO (ob1++ob0) i=ofO ob1 i:=fun{i} h=>by rw[ofO_app,if_pos h]
 have eH0:∀ {i},inO ob1 i=false→ofO (ob1++ob0) i=ofO ob0 i:=fun{i} h=>by rw[ofO_app,if_neg (by simp[h])]
 have hlive:∀b,b<w.heap.size→¬live L ρ (ofO ob0) b→¬live L ρ2 (ofO (ob1++ob0)) b:=by
  rintro b hb hn (hl|⟨i,q1,q2⟩)
  ·exact hn (.inl hl)
  ·rcases hi:inO ob1 i with _|_
   ·rw[eH0 hi]at q1;rw[eρ0 hi]at q2;exact hn (.inr ⟨i,q1,q2⟩)
   ·rw[eH1 hi]at q1;rw[eρ1 hi]at q2
    have:=hnew i b ((g3 i).top q1 q2)
    omega
 have E:Env L ρ ρ2 (ofO ob0) (ofO (ob1++ob0)) w w' (inO ob1):=⟨g1.size,fun b hb hn=>⟨hsame b hb,hlive b hb hn⟩,fun i hk hi=>by
  rw[eH0 hk]at hi ⊢
  exact⟨hi,eρ0 hk,rfl,rfl⟩⟩
 refine⟨x,ob1++ob0,⟨ob1,hR1,rfl⟩,v,ρ2,f2,rfl,⟨g1.os,g1.tape,g1.output,g1.size,fun b hb _=>hsame b hb,fun b o hb hlt=>?_⟩,?_,fun i=>?_,fun i j hij b hb hb'=>?_,fun i b hb=>?_⟩
 ·rcases Nat.lt_or_ge b w.heap.size with hb2|hb2
  ·rcases hb with⟨i,hi⟩|hb
   ·rw[World.frozen?_of_block (w:=w) (hsame b hb2)]
    exact(hob i).frozen b hi o
   ·omega
  ·exact g1.nf b o (.inr hb2) hlt
 ·refine RV.owned x hx g2 fun id hid=>?_
  obtain⟨o,q1,q2⟩:=ofO_mem (hn id hid)
  have hfl:=h1 _ q1
  refine⟨?_,eρ1 (hn id hid)⟩
  rw[q2]
  cases o with
  |arr e sz rows=>rfl
  |box T p c=>exact hfl.elim
  |gone=>exact hfl.elim
 ·rcases hi:inO ob1 i with _|_
  ·rw[eH0 hi,eρ0 hi,ef0 hi]
   have h:=(hob i).env E (fun b hb=>hsame b ((hob i).lt b hb))
   have ek:(ofO ob0 i).kil (inO ob1)=ofO ob0 i:=by
    rcases hj:inO ob0 i with _|_
    ·rw[ofO_out hj];rfl
    ·obtain⟨o,q1,q2⟩:=ofO_mem hj
     have:=h0 _ q1
     rw[q2]
     cases o with
     |arr e sz rows=>rfl
     |box T p c=>cases this
     |gone=>rfl
   rwa [ek]at h
  ·rw[eH1 hi,eρ1 hi,ef1 hi]
   obtain⟨o,q1,q2⟩:=ofO_mem hi
   have hfl:=h1 _ q1
   have h:=g3 i
   rw[q2]at h ⊢
   cases o with
   |arr e sz rows=>
    obtain⟨xs,fr,k1,k2,k3,k4,k5⟩:=h
    have hfr:=k1.flat_fp hfl
    subst hfr
    exact⟨xs,[],k1,by simp,k3,k4,k5⟩
   |box T p c=>exact hfl.elim
   |gone=>exact hfl.elim
 ·rcases hi:inO ob1 i with _|_<;>rcases hj:inO ob1 j with _|_
  ·rw[ef0 hi]at hb;rw[ef0 hj]at hb';exact hdj i j hij b hb hb'
  ·rw[ef0 hi]at hb;rw[ef1 hj]at hb'
   have:=(hob i).lt b hb
   have:=hnew j b hb'
   omega
  ·rw[ef1 hi]at hb;rw[ef0 hj]at hb'
   have:=(hob j).lt b hb'
   have:=hnew i b hb
   omega
  ·rw[ef1 hi]at hb;rw[ef1 hj]at hb';exact g4 i j hij b hb hb'
 ·rcases hi:inO ob1 i with _|_
  ·rw[ef0 hi]at hb;exact⟨.inl ⟨i,hb⟩,hLf i b hb⟩
  ·rw[ef1 hi]at hb
   have:=hnew i b hb
   exact⟨.inr this,fun hl=>by have:=hL b hl;omega⟩
theorem GX.same{P:Program}{f:FuncId}{args:List AV}{ob0:List (Nat×AO)}{R R':AV→List (Nat×AO)→Prop}(h:GX P f args ob0 R)(hR:∀x ob,R x ob→∃ob',R' x ob'∧ofO ob'=ofO ob):GX P f args ob0 R':=fun L w cs ρ fp h1 h2 h3 h4 h5=>
 Calls.mono (h L w cs ρ fp h1 h2 h3 h4 h5) fun e w' ⟨x,ob,q,r⟩=>by
  obtain⟨ob',q1,q2⟩:=hR x ob q
  exact⟨x,ob',q1,by rw[q2];exact r⟩
theorem inO_fam{F:List AO}{i:Nat}(h:i<1000000):inO (famL 1000000 F) i=false:=by
 cases e:inO (famL 1000000 F) i with
 |false=>rfl
 |true=>
  obtain⟨o,q,_⟩:=ofO_mem e
  obtain⟨m,_,q2⟩:=mem_famL q
  omega
theorem inO_app{l m:List (Nat×AO)}{i:Nat}:inO (l++m) i=(inO l i||inO m i):=by unfold inO;rw[List.map_append,List.contains_eq_any_beq,List.any_append,←List.contains_eq_any_beq,←List.contains_eq_any_beq]
theorem GN.lent{P:Program}{f:FuncId}{args args':List AV}{ob0:List (Nat×AO)}{R:AV→List (Nat×AO)→List AO→Prop}(hc:GN P f args [] [] R)(hl:lendL (ofO ob0) args'=args)(h0:(ob0.all fun p=>arrO p.2&&(lowO p.2&&Nat.blt p.1 1000000))=true)
 (hR:∀x l1 F1,R x l1 F1→ownA x=true∧(∀id∈ownN x,inO l1 id=true)∧(∀p∈l1,flatR p.2)∧(∀o∈F1,flatR o)∧(∀p∈ob0,inO l1 p.1=false)) :
 GN P f args' ob0 [] fun x l F=>∃l1,R x l1 F∧l=l1++ob0:=by
 have hs:smallO ob0=true:=List.all_eq_true.2 fun p hp=>by
  have:=List.all_eq_true.1 h0 p hp
  simp only[Bool.and_eq_true]at this
  exact this.2.2
 have hlo:(ob0.all fun p=>lowO p.2)=true:=List.all_eq_true.2 fun p hp=>by
  have:=List.all_eq_true.1 h0 p hp
  simp only[Bool.and_eq_true]at this
  exact this.2.1
 have hc':GX P f args [] _:=hc
 have h:=GX.lent (ob0:=ob0) hc' hl (fun p hp=>by
  have:=List.all_eq_true.1 h0 p hp
  simp only[Bool.and_eq_true]at this
  exact this.1) (fun x ob1 ⟨l1,F1,q1,q2,q3,q4,q5⟩=>by
  subst q4
  obtain⟨r1,r2,r3,r4,r5⟩:=hR x l1 F1 q5
  refine⟨r1,fun id hid=>by rw[inO_app,r2 id hid];rfl,fun p hp=>?_,fun p hp=>?_⟩
  ·rcases List.mem_append.1 hp with hp|hp
   ·exact r3 p hp
   ·have:∀(F:List AO) (n:Nat),p∈famL n F→p.2∈F:=by
     intro F
     induction F with
     |nil=>intro n h;cases h
     |cons o F ih=>
      intro n h
      rcases List.mem_cons.1 h with h|h
      ·rw[h];simp
      ·exact List.mem_cons_of_mem _ (ih _ h)
    exact r4 _ (this _ _ hp)
  ·rw[inO_app,r5 p hp,inO_fam (Nat.le_of_ble_eq_true (List.all_eq_true.1 hs p hp))];rfl)
 show GX P f args' (ob0++[]) _
 rw[List.append_nil]
 refine h.same fun x ob ⟨ob1,⟨l1,F1,q1,q2,q3,q4,q5⟩,q6⟩=>?_
 subst q4 q6
 simp only[Bool.and_eq_true]at q1
 have s1:smallO (l1++ob0)=true:=by unfold smallO at *;rw[List.all_append,q1.1,hs];rfl
 refine⟨(l1++ob0)++famL 1000000 F1,⟨l1++ob0,F1,?_,q2,q3,rfl,l1,q5,rfl⟩,?_⟩
 ·rw[s1,List.all_append,q1.2.1,hlo,q1.2.2];rfl
 ·funext i
  rcases lo_or_hi i with q|⟨m,rfl⟩
  ·rw[ofO_lo q,ofO_app,ofO_app,inO_app,inO_fam q,Bool.or_false,ofO_lo q]
  ·rw[ofO_hi s1,List.append_assoc,ofO_hi q1.1,ofO_app]
   split
   ·rfl
   ·rename_i z
    rw[ofO_out (by simpa using z)]
    have:inO ob0 (1000000+m)=false:=by
     cases e:inO ob0 (1000000+m)with
     |false=>rfl
     |true=>
      obtain⟨o,w1,_⟩:=ofO_mem e
      have:=List.all_eq_true.1 hs _ w1
      have:1000000+m<1000000:=Nat.le_of_ble_eq_true this
      omega
    rw[ofO_out this]
theorem exK{E l:List Nat}{X:Nat→Bool}(h:E=l)(h2:l.all X=true):∀id∈E,X id=true:=fun id hid=>by subst h;exact List.all_eq_true.1 h2 id hid

theorem bits_and_le(x:Int)(m:Nat)(hm:m<9223372036854775808):0≤bits BinOp.and IntKind.i64 x (m:Int)∧bits BinOp.and IntKind.i64 x (m:Int)≤m:=by
 have h1:(BitVec.ofInt 64 x &&& BitVec.ofInt 64 (m:Int)).toNat≤m:=by
  rw[BitVec.toNat_and]
  have h2:(BitVec.ofInt 64 (m:Int)).toNat=m:=by
   rw[BitVec.toNat_ofInt]
   omega
  rw[h2]
  exact Nat.and_le_right
 have h3:bits BinOp.and IntKind.i64 x (m:Int)=IntKind.i64.wrap ((BitVec.ofInt 64 x &&& BitVec.ofInt 64 (m:Int)).toNat:Int):=rfl
 rw[h3]
 generalize (BitVec.ofInt 64 x &&& BitVec.ofInt 64 (m:Int)).toNat=z at *
 have h4:IntKind.i64.wrap (z:Int)=z:=by
  simp[IntKind.wrap,IntKind.bits,IntKind.signed]
  omega
 rw[h4]
 omega
abbrev encU8(b:Int):List Value:=[.int .u8 b]
abbrev curO(g:Value)(code:List Int)(i:Nat)(h:Int):AO:=.box 62 (some g) [.p (.lst 5 1 (rowsOf encU8 code)),int (i:Int),int h]
def CurOk(code:List Int)(i:Nat):Prop:=i≤code.length∧code.length≤1048576
def DrR(g:Value)(code:List Int)(R:AV→Prop):AV→List (Nat×AO)→Prop:=fun x ob=>∃i h,CurOk code i∧R x∧ob=[(0,curO g code i h)]
def DrI(R:Int→Prop):AV→Prop:=fun x=>∃n,R n∧x=int n
theorem pins_cur{g:Value}{code:List Int}{i:Nat}{h:Int}{R:AV→Prop}:∀x ob1,DrR g code R x ob1→pins [(0,curO g code i h)] ob1 [0]:=fun x ob1 ⟨_,_,_,_,e⟩=>by
 subst e
 exact⟨stays.box (Eq.refl 3),trivial⟩
theorem and_bd(x:Int)(m:Nat)(hm:m<9223372036854775808):0≤bits .and .i64 x (m:Int)∧bits .and .i64 x (m:Int)≤m:=bits_and_le x m hm
theorem tmod_bd{n m:Int}(h0:0≤n)(hm:1≤m):0≤n.tmod m∧n.tmod m<m:=⟨Int.tmod_nonneg _ h0,Int.tmod_lt_of_pos _ (by omega)⟩
end Go.Proofs.Ytnlpbgljaecdmaa

namespace Go.Proofs.Ytnlpbgljaecdmaa.ty
open Go Go.Proofs Go.Proofs.Ytnlpbgljaecdmaa
theorem kd3:kindA Try.prog 3=some none:=by kernel_rfl
theorem co3:Try.prog.cellsOf 3=1:=by kernel_rfl
theorem by3:Try.prog.bytesOf 3≤512:=Nat.le_of_ble_eq_true (by kernel_rfl)
theorem inf3:(Try.prog.info? 3).isSome=true:=by kernel_rfl
theorem ik3:intKind Try.prog 3=some .i64:=by kernel_rfl
theorem ze3:zeroA Try.prog 3=some [.int .i64 0]:=by kernel_rfl
theorem kd4:kindA Try.prog 4=some none:=by kernel_rfl
theorem co4:Try.prog.cellsOf 4=1:=by kernel_rfl
theorem inf4:(Try.prog.info? 4).isSome=true:=by kernel_rfl
theorem ze4:zeroA Try.prog 4=some [.bool false]:=by kernel_rfl
theorem kd5:kindA Try.prog 5=some none:=by kernel_rfl
theorem ik5:intKind Try.prog 5=some .u8:=by kernel_rfl
theorem kd22:kindA Try.prog 22=some none:=by kernel_rfl
theorem el22:elA Try.prog 22=some (5,1):=by kernel_rfl
theorem sl22:isSlice Try.prog 22=true:=by kernel_rfl
theorem kd23:kindA Try.prog 23=some none:=by kernel_rfl
theorem co23:Try.prog.cellsOf 23=1:=by kernel_rfl
theorem inf23:(Try.prog.info? 23).isSome=true:=by kernel_rfl
theorem el23:elA Try.prog 23=some (57,7):=by kernel_rfl
theorem sl23:isSlice Try.prog 23=true:=by kernel_rfl
theorem kd24:kindA Try.prog 24=some none:=by kernel_rfl
theorem co24:Try.prog.cellsOf 24=1:=by kernel_rfl
theorem inf24:(Try.prog.info? 24).isSome=true:=by kernel_rfl
theorem el24:elA Try.prog 24=some (101,7):=by kernel_rfl
theorem sl24:isSlice Try.prog 24=true:=by kernel_rfl
theorem kd25:kindA Try.prog 25=some none:=by kernel_rfl
theorem co25:Try.prog.cellsOf 25=1:=by kernel_rfl
theorem inf25:(Try.prog.info? 25).isSome=true:=by kernel_rfl
theorem el25:elA Try.prog 25=some (103,5):=by kernel_rfl
theorem sl25:isSlice Try.prog 25=true:=by kernel_rfl
theorem kd27:kindA Try.prog 27=some (some 6):=by kernel_rfl
theorem co27:Try.prog.cellsOf 27=6:=by kernel_rfl
theorem inf27:(Try.prog.info? 27).isSome=true:=by kernel_rfl
theorem F27_0:FA Try.prog 27 0 0 3:=⟨by kernel_rfl,by rw[show Try.prog.cellsOf 3=1 by kernel_rfl];decide,by kernel_rfl⟩
theorem F27_1:FA Try.prog 27 1 1 3:=⟨by kernel_rfl,by rw[show Try.prog.cellsOf 3=1 by kernel_rfl];decide,by kernel_rfl⟩
theorem F27_2:FA Try.prog 27 2 2 3:=⟨by kernel_rfl,by rw[show Try.prog.cellsOf 3=1 by kernel_rfl];decide,by kernel_rfl⟩
theorem F27_3:FA Try.prog 27 3 3 23:=⟨by kernel_rfl,by rw[show Try.prog.cellsOf 23=1 by kernel_rfl];decide,by kernel_rfl⟩
theorem F27_4:FA Try.prog 27 4 4 24:=⟨by kernel_rfl,by rw[show Try.prog.cellsOf 24=1 by kernel_rfl];decide,by kernel_rfl⟩
theorem F27_5:FA Try.prog 27 5 5 25:=⟨by kernel_rfl,by rw[show Try.prog.cellsOf 25=1 by kernel_rfl];decide,by kernel_rfl⟩
theorem ze27:zeroA Try.prog 27=some [.int .i64 0,.int .i64 0,.int .i64 0,.slice none 0 0,.slice none 0 0,.slice none 0 0]:=by kernel_rfl
theorem sa27:structA Try.prog 27=some ([.int .i64 0,.int .i64 0,.int .i64 0,.slice none 0 0,.slice none 0 0,.slice none 0 0],[(0,1),(1,1),(2,1),(3,1),(4,1),(5,1)]):=by kernel_rfl
theorem el28:elA Try.prog 28=some (50,3):=by kernel_rfl
theorem sl28:isSlice Try.prog 28=true:=by kernel_rfl
theorem el31:elA Try.prog 31=some (52,4):=by kernel_rfl
theorem sl31:isSlice Try.prog 31=true:=by kernel_rfl
theorem kd34:kindA Try.prog 34=some none:=by kernel_rfl
theorem co34:Try.prog.cellsOf 34=1:=by kernel_rfl
theorem inf34:(Try.prog.info? 34).isSome=true:=by kernel_rfl
theorem el34:elA Try.prog 34=some (40,4):=by kernel_rfl
theorem sl34:isSlice Try.prog 34=true:=by kernel_rfl
theorem kd36:kindA Try.prog 36=some (some 2):=by kernel_rfl
theorem co36:Try.prog.cellsOf 36=2:=by kernel_rfl
theorem inf36:(Try.prog.info? 36).isSome=true:=by kernel_rfl
theorem F36_1:FA Try.prog 36 1 1 34:=⟨by kernel_rfl,by rw[show Try.prog.cellsOf 34=1 by kernel_rfl];decide,by kernel_rfl⟩
theorem ze36:zeroA Try.prog 36=some [.int .i64 0,.slice none 0 0]:=by kernel_rfl
theorem sa36:structA Try.prog 36=some ([.int .i64 0,.slice none 0 0],[(0,1),(1,1)]):=by kernel_rfl
theorem kd40:kindA Try.prog 40=some (some 4):=by kernel_rfl
theorem co40:Try.prog.cellsOf 40=4:=by kernel_rfl
theorem by40:Try.prog.bytesOf 40≤512:=Nat.le_of_ble_eq_true (by kernel_rfl)
theorem inf40:(Try.prog.info? 40).isSome=true:=by kernel_rfl
theorem F40_1:FA Try.prog 40 1 1 3:=⟨by kernel_rfl,by rw[show Try.prog.cellsOf 3=1 by kernel_rfl];decide,by kernel_rfl⟩
theorem F40_2:FA Try.prog 40 2 2 3:=⟨by kernel_rfl,by rw[show Try.prog.cellsOf 3=1 by kernel_rfl];decide,by kernel_rfl⟩
theorem ze40:zeroA Try.prog 40=some [.int .i64 0,.int .i64 0,.int .i64 0,.int .i64 0]:=by kernel_rfl
theorem sa40:structA Try.prog 40=some ([.int .i64 0,.int .i64 0,.int .i64 0,.int .i64 0],[(0,1),(1,1),(2,1),(3,1)]):=by kernel_rfl
theorem el46:elA Try.prog 46=some (3,1):=by kernel_rfl
theorem sl46:isSlice Try.prog 46=true:=by kernel_rfl
theorem kd50:kindA Try.prog 50=some (some 3):=by kernel_rfl
theorem co50:Try.prog.cellsOf 50=3:=by kernel_rfl
theorem by50:Try.prog.bytesOf 50≤512:=Nat.le_of_ble_eq_true (by kernel_rfl)
theorem inf50:(Try.prog.info? 50).isSome=true:=by kernel_rfl
theorem F50_0:FA Try.prog 50 0 0 3:=⟨by kernel_rfl,by rw[show Try.prog.cellsOf 3=1 by kernel_rfl];decide,by kernel_rfl⟩
theorem F50_1:FA Try.prog 50 1 1 3:=⟨by kernel_rfl,by rw[show Try.prog.cellsOf 3=1 by kernel_rfl];decide,by kernel_rfl⟩
theorem F50_2:FA Try.prog 50 2 2 3:=⟨by kernel_rfl,by rw[show Try.prog.cellsOf 3=1 by kernel_rfl];decide,by kernel_rfl⟩
theorem ze50:zeroA Try.prog 50=some [.int .i64 0,.int .i64 0,.int .i64 0]:=by kernel_rfl
theorem sa50:structA Try.prog 50=some ([.int .i64 0,.int .i64 0,.int .i64 0],[(0,1),(1,1),(2,1)]):=by kernel_rfl
theorem by52:Try.prog.bytesOf 52≤512:=Nat.le_of_ble_eq_true (by kernel_rfl)
theorem ze52:zeroA Try.prog 52=some [.int .i64 0,.int .i64 0,.int .i64 0,.int .i64 0]:=by kernel_rfl
theorem sa52:structA Try.prog 52=some ([.int .i64 0,.int .i64 0,.int .i64 0,.int .i64 0],[(0,1),(1,1),(2,1),(3,1)]):=by kernel_rfl
theorem kd57:kindA Try.prog 57=some (some 7):=by kernel_rfl
theorem co57:Try.prog.cellsOf 57=7:=by kernel_rfl
theorem by57:Try.prog.bytesOf 57≤512:=Nat.le_of_ble_eq_true (by kernel_rfl)
theorem inf57:(Try.prog.info? 57).isSome=true:=by kernel_rfl
theorem F57_0:FA Try.prog 57 0 0 3:=⟨by kernel_rfl,by rw[show Try.prog.cellsOf 3=1 by kernel_rfl];decide,by kernel_rfl⟩
theorem F57_1:FA Try.prog 57 1 1 3:=⟨by kernel_rfl,by rw[show Try.prog.cellsOf 3=1 by kernel_rfl];decide,by kernel_rfl⟩
theorem F57_2:FA Try.prog 57 2 2 3:=⟨by kernel_rfl,by rw[show Try.prog.cellsOf 3=1 by kernel_rfl];decide,by kernel_rfl⟩
theorem F57_3:FA Try.prog 57 3 3 3:=⟨by kernel_rfl,by rw[show Try.prog.cellsOf 3=1 by kernel_rfl];decide,by kernel_rfl⟩
theorem F57_4:FA Try.prog 57 4 4 3:=⟨by kernel_rfl,by rw[show Try.prog.cellsOf 3=1 by kernel_rfl];decide,by kernel_rfl⟩
theorem F57_5:FA Try.prog 57 5 5 3:=⟨by kernel_rfl,by rw[show Try.prog.cellsOf 3=1 by kernel_rfl];decide,by kernel_rfl⟩
theorem F57_6:FA Try.prog 57 6 6 3:=⟨by kernel_rfl,by rw[show Try.prog.cellsOf 3=1 by kernel_rfl];decide,by kernel_rfl⟩
theorem ze57:zeroA Try.prog 57=some [.int .i64 0,.int .i64 0,.int .i64 0,.int .i64 0,.int .i64 0,.int .i64 0,.int .i64 0]:=by kernel_rfl
theorem sa57:structA Try.prog 57=some ([.int .i64 0,.int .i64 0,.int .i64 0,.int .i64 0,.int .i64 0,.int .i64 0,.int .i64 0],[(0,1),(1,1),(2,1),(3,1),(4,1),(5,1),(6,1)]):=by kernel_rfl
theorem F62_0:FA Try.prog 62 0 0 22:=⟨by kernel_rfl,by rw[show Try.prog.cellsOf 22=1 by kernel_rfl];decide,by kernel_rfl⟩
theorem F62_1:FA Try.prog 62 1 1 3:=⟨by kernel_rfl,by rw[show Try.prog.cellsOf 3=1 by kernel_rfl];decide,by kernel_rfl⟩
theorem F62_2:FA Try.prog 62 2 2 3:=⟨by kernel_rfl,by rw[show Try.prog.cellsOf 3=1 by kernel_rfl];decide,by kernel_rfl⟩
theorem sa62:structA Try.prog 62=some ([.slice none 0 0,.int .i64 0,.int .i64 0],[(0,1),(1,1),(2,1)]):=by kernel_rfl
theorem el94:elA Try.prog 94=some (114,2):=by kernel_rfl
theorem el98:elA Try.prog 98=some (111,7):=by kernel_rfl
theorem sl98:isSlice Try.prog 98=true:=by kernel_rfl
theorem kd101:kindA Try.prog 101=some (some 7):=by kernel_rfl
theorem co101:Try.prog.cellsOf 101=7:=by kernel_rfl
theorem by101:Try.prog.bytesOf 101≤512:=Nat.le_of_ble_eq_true (by kernel_rfl)
theorem inf101:(Try.prog.info? 101).isSome=true:=by kernel_rfl
theorem F101_0:FA Try.prog 101 0 0 3:=⟨by kernel_rfl,by rw[show Try.prog.cellsOf 3=1 by kernel_rfl];decide,by kernel_rfl⟩
theorem F101_1:FA Try.prog 101 1 1 3:=⟨by kernel_rfl,by rw[show Try.prog.cellsOf 3=1 by kernel_rfl];decide,by kernel_rfl⟩
theorem F101_2:FA Try.prog 101 2 2 3:=⟨by kernel_rfl,by rw[show Try.prog.cellsOf 3=1 by kernel_rfl];decide,by kernel_rfl⟩
theorem F101_3:FA Try.prog 101 3 3 3:=⟨by kernel_rfl,by rw[show Try.prog.cellsOf 3=1 by kernel_rfl];decide,by kernel_rfl⟩
theorem F101_4:FA Try.prog 101 4 4 3:=⟨by kernel_rfl,by rw[show Try.prog.cellsOf 3=1 by kernel_rfl];decide,by kernel_rfl⟩
theorem F101_5:FA Try.prog 101 5 5 4:=⟨by kernel_rfl,by rw[show Try.prog.cellsOf 4=1 by kernel_rfl];decide,by kernel_rfl⟩
theorem F101_6:FA Try.prog 101 6 6 3:=⟨by kernel_rfl,by rw[show Try.prog.cellsOf 3=1 by kernel_rfl];decide,by kernel_rfl⟩
theorem ze101:zeroA Try.prog 101=some [.int .i64 0,.int .i64 0,.int .i64 0,.int .i64 0,.int .i64 0,.bool false,.int .i64 0]:=by kernel_rfl
theorem sa101:structA Try.prog 101=some ([.int .i64 0,.int .i64 0,.int .i64 0,.int .i64 0,.int .i64 0,.bool false,.int .i64 0],[(0,1),(1,1),(2,1),(3,1),(4,1),(5,1),(6,1)]):=by kernel_rfl
theorem kd103:kindA Try.prog 103=some (some 5):=by kernel_rfl
theorem co103:Try.prog.cellsOf 103=5:=by kernel_rfl
theorem by103:Try.prog.bytesOf 103≤512:=Nat.le_of_ble_eq_true (by kernel_rfl)
theorem inf103:(Try.prog.info? 103).isSome=true:=by kernel_rfl
theorem F103_0:FA Try.prog 103 0 0 3:=⟨by kernel_rfl,by rw[show Try.prog.cellsOf 3=1 by kernel_rfl];decide,by kernel_rfl⟩
theorem F103_1:FA Try.prog 103 1 1 3:=⟨by kernel_rfl,by rw[show Try.prog.cellsOf 3=1 by kernel_rfl];decide,by kernel_rfl⟩
theorem F103_2:FA Try.prog 103 2 2 3:=⟨by kernel_rfl,by rw[show Try.prog.cellsOf 3=1 by kernel_rfl];decide,by kernel_rfl⟩
theorem F103_3:FA Try.prog 103 3 3 3:=⟨by kernel_rfl,by rw[show Try.prog.cellsOf 3=1 by kernel_rfl];decide,by kernel_rfl⟩
theorem F103_4:FA Try.prog 103 4 4 3:=⟨by kernel_rfl,by rw[show Try.prog.cellsOf 3=1 by kernel_rfl];decide,by kernel_rfl⟩
theorem ze103:zeroA Try.prog 103=some [.int .i64 0,.int .i64 0,.int .i64 0,.int .i64 0,.int .i64 0]:=by kernel_rfl
theorem sa103:structA Try.prog 103=some ([.int .i64 0,.int .i64 0,.int .i64 0,.int .i64 0,.int .i64 0],[(0,1),(1,1),(2,1),(3,1),(4,1)]):=by kernel_rfl
theorem kd111:kindA Try.prog 111=some (some 7):=by kernel_rfl
theorem co111:Try.prog.cellsOf 111=7:=by kernel_rfl
theorem by111:Try.prog.bytesOf 111≤512:=Nat.le_of_ble_eq_true (by kernel_rfl)
theorem inf111:(Try.prog.info? 111).isSome=true:=by kernel_rfl
theorem F111_0:FA Try.prog 111 0 0 3:=⟨by kernel_rfl,by rw[show Try.prog.cellsOf 3=1 by kernel_rfl];decide,by kernel_rfl⟩
theorem F111_1:FA Try.prog 111 1 1 3:=⟨by kernel_rfl,by rw[show Try.prog.cellsOf 3=1 by kernel_rfl];decide,by kernel_rfl⟩
theorem F111_2:FA Try.prog 111 2 2 3:=⟨by kernel_rfl,by rw[show Try.prog.cellsOf 3=1 by kernel_rfl];decide,by kernel_rfl⟩
theorem F111_3:FA Try.prog 111 3 3 3:=⟨by kernel_rfl,by rw[show Try.prog.cellsOf 3=1 by kernel_rfl];decide,by kernel_rfl⟩
theorem F111_4:FA Try.prog 111 4 4 3:=⟨by kernel_rfl,by rw[show Try.prog.cellsOf 3=1 by kernel_rfl];decide,by kernel_rfl⟩
theorem F111_5:FA Try.prog 111 5 5 3:=⟨by kernel_rfl,by rw[show Try.prog.cellsOf 3=1 by kernel_rfl];decide,by kernel_rfl⟩
theorem F111_6:FA Try.prog 111 6 6 4:=⟨by kernel_rfl,by rw[show Try.prog.cellsOf 4=1 by kernel_rfl];decide,by kernel_rfl⟩
theorem ze111:zeroA Try.prog 111=some [.int .i64 0,.int .i64 0,.int .i64 0,.int .i64 0,.int .i64 0,.int .i64 0,.bool false]:=by kernel_rfl
theorem sa111:structA Try.prog 111=some ([.int .i64 0,.int .i64 0,.int .i64 0,.int .i64 0,.int .i64 0,.int .i64 0,.bool false],[(0,1),(1,1),(2,1),(3,1),(4,1),(5,1),(6,1)]):=by kernel_rfl
theorem kd112:kindA Try.prog 112=some none:=by kernel_rfl
theorem co112:Try.prog.cellsOf 112=1:=by kernel_rfl
theorem inf112:(Try.prog.info? 112).isSome=true:=by kernel_rfl
theorem el112:elA Try.prog 112=some (139,3):=by kernel_rfl
theorem sl112:isSlice Try.prog 112=true:=by kernel_rfl
theorem kd114:kindA Try.prog 114=some (some 2):=by kernel_rfl
theorem co114:Try.prog.cellsOf 114=2:=by kernel_rfl
theorem by114:Try.prog.bytesOf 114≤512:=Nat.le_of_ble_eq_true (by kernel_rfl)
theorem inf114:(Try.prog.info? 114).isSome=true:=by kernel_rfl
theorem F114_0:FA Try.prog 114 0 0 3:=⟨by kernel_rfl,by rw[show Try.prog.cellsOf 3=1 by kernel_rfl];decide,by kernel_rfl⟩
theorem ze114:zeroA Try.prog 114=some [.int .i64 0,.slice none 0 0]:=by kernel_rfl
theorem sa114:structA Try.prog 114=some ([.int .i64 0,.slice none 0 0],[(0,1),(1,1)]):=by kernel_rfl
theorem F125_0:FA Try.prog 125 0 0 27:=⟨by kernel_rfl,by rw[show Try.prog.cellsOf 27=6 by kernel_rfl];decide,by kernel_rfl⟩
theorem F125_1:FA Try.prog 125 1 6 112:=⟨by kernel_rfl,by rw[show Try.prog.cellsOf 112=1 by kernel_rfl];decide,by kernel_rfl⟩
theorem F125_2:FA Try.prog 125 2 7 3:=⟨by kernel_rfl,by rw[show Try.prog.cellsOf 3=1 by kernel_rfl];decide,by kernel_rfl⟩
theorem sa125:structA Try.prog 125=some ([.int .i64 0,.int .i64 0,.int .i64 0,.slice none 0 0,.slice none 0 0,.slice none 0 0,.slice none 0 0,.int .i64 0],[(0,6),(6,1),(7,1)]):=by kernel_rfl
theorem el132:elA Try.prog 132=some (4,1):=by kernel_rfl
theorem kd137:kindA Try.prog 137=some (some 2):=by kernel_rfl
theorem F137_0:FA Try.prog 137 0 0 3:=⟨by kernel_rfl,by rw[show Try.prog.cellsOf 3=1 by kernel_rfl];decide,by kernel_rfl⟩
theorem F137_1:FA Try.prog 137 1 1 3:=⟨by kernel_rfl,by rw[show Try.prog.cellsOf 3=1 by kernel_rfl];decide,by kernel_rfl⟩
theorem sa137:structA Try.prog 137=some ([.int .i64 0,.int .i64 0],[(0,1),(1,1)]):=by kernel_rfl
theorem kd139:kindA Try.prog 139=some (some 3):=by kernel_rfl
theorem co139:Try.prog.cellsOf 139=3:=by kernel_rfl
theorem by139:Try.prog.bytesOf 139≤512:=Nat.le_of_ble_eq_true (by kernel_rfl)
theorem inf139:(Try.prog.info? 139).isSome=true:=by kernel_rfl
theorem F139_0:FA Try.prog 139 0 0 137:=⟨by kernel_rfl,by rw[show Try.prog.cellsOf 137=2 by kernel_rfl];decide,by kernel_rfl⟩
theorem ze139:zeroA Try.prog 139=some [.int .i64 0,.int .i64 0,.int .i64 0]:=by kernel_rfl
theorem sa139:structA Try.prog 139=some ([.int .i64 0,.int .i64 0,.int .i64 0],[(0,2),(2,1)]):=by kernel_rfl
theorem sf137 : Try.prog.fieldsOf 137 = ([{ name := "Kind",type := 3,offset := 0,embedded := false,tag := "",pkgPath := "",byteOffset := 0 },{ name := "Ch",type := 3,offset := 1,embedded := false,tag := "",pkgPath := "",byteOffset := 8 }] : List Field).toArray := by unfold Program.fieldsOf;rw [Try.underlying137]
theorem su137:Try.prog.underlying 137=some (.struct (Try.prog.fieldsOf 137)):=by rw[sf137];exact Try.underlying137
theorem sh137:Try.prog.stoodInHeld 137=false:=by kernel_rfl
theorem sg137:Try.prog.eqGuardType Try.prog.depth 137=false:=by kernel_rfl
end Go.Proofs.Ytnlpbgljaecdmaa.ty

namespace Go.Proofs.Ytnlpbgljaecdmaa
open Go.RowKit
set_option maxHeartbeats 16000000
set_option maxRecDepth 100000
set_option linter.unusedSimpArgs false
set_option linter.unusedVariables false
theorem l01New_e(code:List Int)(hm:code.length≤1048576):GX Try.prog 9 [.p (.lst 5 1 (rowsOf encU8 code))] [] (fun x ob=>∃h,x=.ptr 31 0 0∧ob=[(31,.box 62 none [.p (.lst 5 1 (rowsOf encU8 code)),int ((0:Nat):Int),int h])]):=by
 refine GX.intro (rs:=[.tmp 2]) Try.func9 rfl Try.ntmps9 (Nat.le_of_ble_eq_true rfl) ⟨rfl,trivial⟩ ?_
 intro L O w0
 refine sL<|laV Z<|nA<|lmL Z<|lnI ty.sl22 Z ?_
 refine lhI rfl ⟨rfl,fits_i64 (by rw[length_rowsOf];unfold i64;omega)⟩<|laI Z<|nG<|aS<|sL<|laI Z<|nG<|aB ?_
 refine aW [0,2] [] (D:=Nat×Int) (fun d=>[(4,int (d.1:Int)),(3,int d.2)]) (fun d=>[]) (fun d=>d.1≤code.length) (fun d=>code.length-d.1) ((0,_)) (Nat.zero_le _) ⟨rfl,rfl,trivial⟩ trivial ?_
 intro ⟨j,q⟩ hI
 replace hI:j≤code.length:=hI
 refine aS<|sL<|lmI Z<|lmL Z<|lnI ty.sl22 Z<|lbB Z<|lmB Z ?_
 refine AL.bool (t:=12) rfl ?_ ?_
 ·intro h1
  refine lmI Z<|lbB Z<|lkB Z<|nG ?_
  refine AW.cond rfl ?_ ?_
  ·intro h2
   refine aK<|gT<|aS<|aB<|aL<|lmI Z<|lq (rd (x:=vI _ _) (rd_val Z Z Z (run_mulw Z) Z) Z)<|lmL Z<|lmI Z ?_
   have hj:j<code.length:=by have h:=h1;rw[length_rowsOf]at h;simp only[decide_eq_true_eq,Bool.and_eq_true]at h;omega
   refine li j ty.el22 Z (row_map hj)<|lrI ty.kd5 Z<|lq (rd (x:=vI _ _) (rd_conv Z ty.ik5 ty.ik3 Z) Z)<|lq (rd (x:=vI _ _) (rd_val Z Z Z (run_addw Z) Z) Z)<|lq (rd (x:=vI _ _) (rd_val Z Z Z (run_addw Z) Z) Z)<|lq (rd (x:=vI _ _) (rd_val Z Z Z (run_and Z) Z) Z)<|laI Z<|lN<|gB<|gT<|aL<|lmI Z<|lgI Z<|laI Z<|nG ?_
   refine⟨(j+1,_),hj,by show code.length-(j+1)<code.length-j;omega,⟨(iq rfl),rfl,trivial⟩,trivial,rfl,rfl⟩
  ·intro h2
   refine aE<|eT<|eT<|eB<|gA<|lmL Z<|lmI Z<|lT [2,28,29] [] ?_
   refine lq (rd (x:=.agg [vL _ _ _,vI _ _,vI _ _]) (rd_build Z ty.sa62 Z Z Z) Z)<|lst (zX 31 Z) Z<|laP Z<|nG<|aR ?_
   refine end_xret (.ptr 31 0 0) [(31,.box 62 none [.p (.lst 5 1 (rowsOf encU8 code)),int ((0:Nat):Int),int q])] ?_ rfl ⟨rfl,trivial⟩
   exact⟨_,rfl,rfl⟩
 ·intro h1
  refine lno Z<|lno Z<|lkZ Z<|nG<|aN Z<|aE<|eT<|eT<|eB<|gA<|lmL Z<|lmI Z<|lq (rd (x:=.agg [vL _ _ _,vI _ _,vI _ _]) (rd_build Z ty.sa62 Z Z Z) Z)<|lst (zX 31 Z) Z<|laP Z<|nG<|aR ?_
  refine end_xret (.ptr 31 0 0) [(31,.box 62 none [.p (.lst 5 1 (rowsOf encU8 code)),int ((0:Nat):Int),int q])] ?_ rfl ⟨rfl,trivial⟩
  exact⟨_,rfl,rfl⟩
theorem l01Byte_e(g:Value)(code:List Int)(i:Nat)(h:Int)(hc:CurOk code i):GX Try.prog 39 [.ptr 0 0 0] [(0,curO g code i h)] (DrR g code (DrI fun n=>0≤n∧n≤255)):=by
 refine GX.intro (rs:=[.tmp 2]) Try.func39 rfl Try.ntmps39 (Nat.le_of_ble_eq_true rfl) ⟨rfl,trivial⟩ ?_
 intro L O w0
 refine sL<|laI Z<|nA<|lmP Z<|lmP Z<|lc Z<|lf 2 ty.F62_2 Z<|loI ty.kd3 Z<|lq (rd (x:=vI _ _) (rd_val Z Z Z (run_mulw Z) Z) Z)<|lq (rd (x:=vI _ _) (rd_val Z Z Z (run_addw Z) Z) Z)<|lc Z<|lf 2 ty.F62_2 Z<|lst (zB 0 ty.co3 ty.inf3 Z) Z<|nG<|aS<|aF []<|pq 0 (qmP Z)<|pq 1 (qc Z)<|pq 2 (qf 2 ty.F62_2 Z)<|sq 3 (roI ty.kd3 Z) ?_
 refine sq 4 (rhI rfl ⟨rfl,by decide,by decide⟩)<|vq 5 (rmP rfl)<|vq 6 (rc rfl)<|vq 7 (rf 2 ty.F62_2 rfl)<|vq 8 (roI ty.kd3 rfl) ?_
 refine vq 9 (rhI rfl ⟨rfl,by decide,by decide⟩)<|vq 10 (rd (x:=vI _ _) (rd_val rfl rfl rfl (run_xor rfl) rfl) rfl)<|vq 11 (rd (x:=vI _ _) (rd_val rfl rfl rfl (run_and rfl) rfl) rfl)<|vq 12 (raI rfl)<|fD<|gT<|aS<|aS<|aF []<|pq 0 (qmP rfl)<|pq 1 (qc rfl)<|pq 2 (qf 1 ty.F62_1 rfl)<|sq 3 (roI ty.kd3 rfl)<|vq 4 (rmP rfl)<|vq 5 (rc rfl)<|fT [0,2,3,28,30] [0] ?_
 refine vq 6 (rf 0 ty.F62_0 Z)<|vq 7 (roL ty.kd22 Z)<|vq 8 (rnI ty.sl22 Z)<|vq 9 (rbB Z)<|fD<|gT ?_
 refine AW.cond rfl ?_ ?_
 ·intro h1
  refine aS<|aF []<|pq 0 (qmX (vI _ _) Z)<|pq 1 (qmP Z)<|pq 2 (qc Z)<|pq 3 (qf 0 ty.F62_0 Z)<|sq 4 (roL ty.kd22 Z)<|vq 5 (rmP Z)<|vq 6 (rc Z)<|vq 7 (rf 1 ty.F62_1 Z)<|vq 8 (roI ty.kd3 Z) ?_
  have hi:i<code.length:=by have h:=h1;rw[length_rowsOf]at h;simp only[decide_eq_true_eq]at h;omega
  refine vq 9 (ri i ty.el22 Z (row_map hi))<|vq 10 (rrI ty.kd5 Z)<|vq 11 (rd (x:=vI _ _) (rd_conv Z ty.ik5 ty.ik3 Z) Z)<|vq 12 (rd (x:=vI _ _) (rd_val Z Z Z (run_addw Z) Z) Z)<|vq 13 (rd (x:=vI _ _) (rd_val Z Z Z (run_and Z) Z) Z)<|vq 14 (raI Z)<|fD<|gT<|aL<|lmP Z<|lmP Z<|lc Z<|lf 1 ty.F62_1 Z<|loI ty.kd3 Z ?_
  refine lhI rfl ⟨rfl,fits_i64 (by unfold i64;have:=hc.2;omega)⟩<|lc Z<|lf 1 ty.F62_1 Z<|lst (zB 0 ty.co3 ty.inf3 rfl) Z<|lT [2,3] [0] ?_
  refine nA<|lmI Z<|laI Z<|nG<|aR ?_
  refine end_xret (int _) [(0,curO g code (i+1) _)] ?_ rfl ⟨(congrArg (fun z:Int=>AO.box 62 (some g) [.p (.lst 5 1 (rowsOf encU8 code)),int z,int _]) (by omega)),trivial⟩
  exact⟨i+1,_,⟨hi,hc.2⟩,⟨_,and_bd _ 255 (by decide),rfl⟩,rfl⟩
 ·intro h1
  refine aK<|gA<|lmI Z<|laI Z<|nG<|aR ?_
  refine end_xret (int _) [(0,curO g code i _)] ?_ rfl ⟨rfl,trivial⟩
  exact⟨i,_,hc,⟨_,and_bd _ 255 (by decide),rfl⟩,rfl⟩
theorem l01Below_e(g:Value)(code:List Int)(i:Nat)(h m:Int)(hc:CurOk code i):GX Try.prog 20 [.ptr 0 0 0,int m] [(0,curO g code i h)] (DrR g code (DrI fun n=>0≤n∧(n<m∨m≤0∧n=0))):=by
 refine GX.intro (rs:=[.tmp 4]) Try.func20 rfl Try.ntmps20 (Nat.le_of_ble_eq_true rfl) ⟨rfl,trivial⟩ ?_
 intro L O w0
 refine sL<|laI Z<|nG<|aS<|sL<|lmI Z<|lbB Z<|nG ?_
 refine AW.cond rfl ?_ ?_
 ·intro h1
  refine sL<|laI Z<|nG<|aR<|rT ?_
  have hm0:m≤0:=by have h:=h1;simpa using h
  refine end_xret (int 0) [(0,curO g code i h)] ?_ rfl ⟨rfl,trivial⟩
  exact⟨i,h,hc,⟨0,⟨by omega,.inr ⟨hm0,rfl⟩⟩,rfl⟩,rfl⟩
 ·intro h1
  refine aK<|gT<|aS<|sL<|lmI Z<|lbB Z<|nG ?_
  refine AW.cond rfl ?_ ?_
  ·intro h2
   refine sL<|lmP Z ?_
   refine lX [(0,0)] [] [0] Try.func39 (l01Byte_e g code _ _ hc) (⟨⟨0,rfl,rfl⟩,trivial⟩) (pins_cur) Z ?_
   intro xz1 oz1 hz1
   obtain⟨i1,q1,hc1,⟨n1,⟨na1,nb1⟩,rfl⟩,rfl⟩:=hz1
   refine lmI rfl ?_
   refine lhI rfl ⟨rfl,by have h:=h1;simp only[decide_eq_false_iff_not]at h;omega⟩<|laI Z<|nG<|aR<|rT ?_
   have hm1:1≤m:=by have h:=h1;simp only[decide_eq_false_iff_not]at h;omega
   obtain⟨z1,z2⟩:=tmod_bd (n:=n1) (m:=m) (by omega) hm1
   refine end_xret (int (n1.tmod m)) [(0,curO g code i1 q1)] ?_ rfl ⟨rfl,trivial⟩
   exact⟨i1,q1,hc1,⟨_,⟨z1,.inl z2⟩,rfl⟩,rfl⟩
  ·intro h2
   refine aK<|gA<|lmP Z ?_
   refine lX [(0,0)] [] [0] Try.func39 (l01Byte_e g code _ _ hc) (⟨⟨0,rfl,rfl⟩,trivial⟩) (pins_cur) Z ?_
   intro xz2 oz2 hz2
   obtain⟨i2,q2,hc2,⟨n2,⟨na2,nb2⟩,rfl⟩,rfl⟩:=hz2
   refine laI Z<|nA<|lmP Z ?_
   refine lX [(0,0)] [] [0] Try.func39 (l01Byte_e g code _ _ hc2) (⟨⟨0,rfl,rfl⟩,trivial⟩) (pins_cur) Z ?_
   intro xz3 oz3 hz3
   obtain⟨i3,q3,hc3,⟨n3,⟨na3,nb3⟩,rfl⟩,rfl⟩:=hz3
   refine lT [0,1,4,5,20] [0] ?_
   refine laI Z<|nA<|lmP Z ?_
   refine lX [(0,0)] [] [0] Try.func39 (l01Byte_e g code _ _ hc3) (⟨⟨0,rfl,rfl⟩,trivial⟩) (pins_cur) Z ?_
   intro xz4 oz4 hz4
   obtain⟨i4,q4,hc4,⟨n4,⟨na4,nb4⟩,rfl⟩,rfl⟩:=hz4
   refine laI Z<|nA<|lmP Z ?_
   refine lX [(0,0)] [] [0] Try.func39 (l01Byte_e g code _ _ hc4) (⟨⟨0,rfl,rfl⟩,trivial⟩) (pins_cur) Z ?_
   intro xz5 oz5 hz5
   obtain⟨i5,q5,hc5,⟨n5,⟨na5,nb5⟩,rfl⟩,rfl⟩:=hz5
   refine laI Z<|nA<|lmI Z<|lgI Z<|lmI Z<|lgI Z<|lgI Z<|lmI Z<|lgI Z<|lgI Z<|lmI Z<|lgI Z<|lmI Z ?_
   refine lhI rfl ⟨rfl,by have h:=h1;simp only[decide_eq_false_iff_not]at h;omega⟩<|laI Z<|nG<|aR ?_
   have hm1:1≤m:=by have h:=h1;simp only[decide_eq_false_iff_not]at h;omega
   obtain⟨z1,z2⟩:=tmod_bd (n:=(n2*16777216+n3*65536+n4*256+n5)) (m:=m) (by omega) hm1
   refine end_xret (int ((n2*16777216+n3*65536+n4*256+n5).tmod m)) [(0,curO g code i5 q5)] ?_ rfl ⟨rfl,trivial⟩
   exact⟨i5,q5,hc5,⟨_,⟨z1,.inl z2⟩,rfl⟩,rfl⟩
theorem shl_bd{n:Int}(h0:0≤n)(h1:n<51):0<1*(2:Int) ^ n.toNat∧1*(2:Int) ^ n.toNat≤1125899906842624:=by
 obtain⟨k,rfl⟩:=Int.eq_ofNat_of_zero_le h0
 have hk:k<51:=by omega
 have e:((k:Int)).toNat=k:=Int.toNat_natCast k
 rw[e,Int.one_mul]
 refine⟨Int.pow_pos (by decide),?_⟩
 have h2:(2:Nat) ^ k≤2 ^ 50:=Nat.pow_le_pow_right (by decide) (by omega)
 have h3:((2 ^ k:Nat):Int)≤((2 ^ 50:Nat):Int):=Int.ofNat_le.2 h2
 rw[Int.natCast_pow]at h3
 have h4:((2 ^ 50:Nat):Int)=1125899906842624:=by decide
 omega
theorem l01Raw_e(g:Value)(code:List Int)(i:Nat)(h:Int)(hc:CurOk code i):GX Try.prog 21 [.ptr 0 0 0] [(0,curO g code i h)] (DrR g code (DrI i64)):=by
 refine GX.intro (rs:=[.tmp 2]) Try.func21 rfl Try.ntmps21 (Nat.le_of_ble_eq_true rfl) ⟨rfl,trivial⟩ ?_
 intro L O w0
 refine sL<|laI Z<|nA<|lmP Z ?_
 refine lX [(0,0)] [] [0] Try.func20 (l01Below_e g code _ _ _ hc) (⟨⟨0,rfl,rfl⟩,trivial⟩) (pins_cur) Z ?_
 intro xz1 oz1 hz1
 obtain⟨i1,q1,hc1,⟨n1,⟨na1,nb1⟩,rfl⟩,rfl⟩:=hz1
 refine laI Z<|nG<|aS<|sL<|lmI Z<|lbB Z<|nG ?_
 refine AW.cond rfl ?_ ?_
 ·intro h1
  refine sL<|lmP Z ?_
  refine lX [(0,0)] [] [0] Try.func20 (l01Below_e g code _ _ _ hc1) (⟨⟨0,rfl,rfl⟩,trivial⟩) (pins_cur) Z ?_
  intro xz2 oz2 hz2
  obtain⟨i2,q2,hc2,⟨n2,⟨na2,nb2⟩,rfl⟩,rfl⟩:=hz2
  refine lgI Z<|laI Z<|nG<|aR<|rT ?_
  refine end_xret (int _) [(0,curO g code i2 q2)] ?_ rfl ⟨rfl,trivial⟩
  exact⟨i2,q2,hc2,⟨_,by unfold i64;omega,rfl⟩,rfl⟩
 ·intro h1
  refine aK<|gT<|aS<|sL<|lmI Z<|lbB Z<|nG ?_
  refine AW.cond rfl ?_ ?_
  ·intro h2
   refine sL<|lmP Z ?_
   refine lX [(0,0)] [] [0] Try.func20 (l01Below_e g code _ _ _ hc1) (⟨⟨0,rfl,rfl⟩,trivial⟩) (pins_cur) Z ?_
   intro xz3 oz3 hz3
   obtain⟨i3,q3,hc3,⟨n3,⟨na3,nb3⟩,rfl⟩,rfl⟩:=hz3
   refine lT [0,2,3,14] [0] ?_
   refine lgI Z<|laI Z<|nG<|aR<|rT ?_
   refine end_xret (int _) [(0,curO g code i3 q3)] ?_ rfl ⟨rfl,trivial⟩
   exact⟨i3,q3,hc3,⟨_,by unfold i64;omega,rfl⟩,rfl⟩
  ·intro h2
   refine aK<|gT<|aS<|sL<|lmI Z<|lbB Z<|nG ?_
   refine AW.cond rfl ?_ ?_
   ·intro h3
    refine sL<|lmP Z ?_
    refine lX [(0,0)] [] [0] Try.func20 (l01Below_e g code _ _ _ hc1) (⟨⟨0,rfl,rfl⟩,trivial⟩) (pins_cur) Z ?_
    intro xz4 oz4 hz4
    obtain⟨i4,q4,hc4,⟨n4,⟨na4,nb4⟩,rfl⟩,rfl⟩:=hz4
    refine lgI Z<|laI Z<|nG<|aR<|rT ?_
    refine end_xret (int _) [(0,curO g code i4 q4)] ?_ rfl ⟨rfl,trivial⟩
    exact⟨i4,q4,hc4,⟨_,by unfold i64;omega,rfl⟩,rfl⟩
   ·intro h3
    refine aK<|gT<|aS<|sL<|lmI Z<|lbB Z<|nG ?_
    refine AW.cond rfl ?_ ?_
    ·intro h4
     refine sL<|lmP Z ?_
     refine lX [(0,0)] [] [0] Try.func20 (l01Below_e g code _ _ _ hc1) (⟨⟨0,rfl,rfl⟩,trivial⟩) (pins_cur) Z ?_
     intro xz5 oz5 hz5
     obtain⟨i5,q5,hc5,⟨n5,⟨na5,nb5⟩,rfl⟩,rfl⟩:=hz5
     refine lgI Z<|laI Z<|nG<|aR<|rT ?_
     refine end_xret (int _) [(0,curO g code i5 q5)] ?_ rfl ⟨rfl,trivial⟩
     exact⟨i5,q5,hc5,⟨_,by unfold i64;omega,rfl⟩,rfl⟩
    ·intro h4
     refine aK<|gT<|aS<|sL<|lmI Z<|lbB Z<|nG ?_
     refine AW.cond rfl ?_ ?_
     ·intro h5
      refine sL<|lmP Z ?_
      refine lX [(0,0)] [] [0] Try.func20 (l01Below_e g code _ _ _ hc1) (⟨⟨0,rfl,rfl⟩,trivial⟩) (pins_cur) Z ?_
      intro xz6 oz6 hz6
      obtain⟨i6,q6,hc6,⟨n6,⟨na6,nb6⟩,rfl⟩,rfl⟩:=hz6
      refine lT [0,2,3,29] [0] ?_
      refine lgI Z<|laI Z<|nG<|aR<|rT ?_
      refine end_xret (int _) [(0,curO g code i6 q6)] ?_ rfl ⟨rfl,trivial⟩
      exact⟨i6,q6,hc6,⟨_,by unfold i64;omega,rfl⟩,rfl⟩
     ·intro h5
      refine aK<|gT<|aS<|sL<|lmI Z<|lbB Z<|nG ?_
      refine AW.cond rfl ?_ ?_
      ·intro h6
       refine sL<|lmP Z ?_
       refine lX [(0,0)] [] [0] Try.func20 (l01Below_e g code _ _ _ hc1) (⟨⟨0,rfl,rfl⟩,trivial⟩) (pins_cur) Z ?_
       intro xz7 oz7 hz7
       obtain⟨i7,q7,hc7,⟨n7,⟨na7,nb7⟩,rfl⟩,rfl⟩:=hz7
       refine lgI Z<|laI Z<|nG<|aR<|rT ?_
       refine end_xret (int _) [(0,curO g code i7 q7)] ?_ rfl ⟨rfl,trivial⟩
       exact⟨i7,q7,hc7,⟨_,by unfold i64;omega,rfl⟩,rfl⟩
      ·intro h6
       refine aK<|gT<|aS<|sL<|lmI Z<|lbB Z<|nG ?_
       refine AW.cond rfl ?_ ?_
       ·intro h7
        refine sL<|lmP Z ?_
        refine lX [(0,0)] [] [0] Try.func20 (l01Below_e g code _ _ _ hc1) (⟨⟨0,rfl,rfl⟩,trivial⟩) (pins_cur) Z ?_
        intro xz8 oz8 hz8
        obtain⟨i8,q8,hc8,⟨n8,⟨na8,nb8⟩,rfl⟩,rfl⟩:=hz8
        obtain⟨hs1,hs2⟩:=shl_bd (n:=n8) na8 (by omega)
        refine lhI rfl ⟨rfl,na8,by omega,by show IntKind.i64.wrap _=_;exact fits_i64 (by unfold i64;omega)⟩<|laI Z<|nG<|aR<|rT ?_
        refine end_xret (int _) [(0,curO g code i8 q8)] ?_ rfl ⟨rfl,trivial⟩
        exact⟨i8,q8,hc8,⟨_,by unfold i64;omega,rfl⟩,rfl⟩
       ·intro h7
        refine aK<|gA<|lmP Z ?_
        refine lX [(0,0)] [] [0] Try.func20 (l01Below_e g code _ _ _ hc1) (⟨⟨0,rfl,rfl⟩,trivial⟩) (pins_cur) Z ?_
        intro xz9 oz9 hz9
        obtain⟨i9,q9,hc9,⟨n9,⟨na9,nb9⟩,rfl⟩,rfl⟩:=hz9
        refine lT [0,2,42] [0] ?_
        refine lmP rfl ?_
        refine lX [(0,0)] [] [0] Try.func20 (l01Below_e g code _ _ _ hc9) (⟨⟨0,rfl,rfl⟩,trivial⟩) (pins_cur) Z ?_
        intro xz10 oz10 hz10
        obtain⟨i10,q10,hc10,⟨n10,⟨na10,nb10⟩,rfl⟩,rfl⟩:=hz10
        have hm1:0≤n9*n10:=Int.mul_nonneg na9 na10
        have hm2:n9*n10≤1000000*1000000:=Int.mul_le_mul (by omega) (by omega) na10 (by decide)
        refine lgI Z<|laI Z<|nG<|aR ?_
        refine end_xret (int _) [(0,curO g code i10 q10)] ?_ rfl ⟨rfl,trivial⟩
        exact⟨i10,q10,hc10,⟨_,by unfold i64;omega,rfl⟩,rfl⟩

def lessA(a b:Acc):Bool:=decide (a.kind<b.kind)||((a.kind==b.kind)&&decide (a.ch<b.ch))
def rangeA(n:Int):Bool:=inB n (-1125899906842624) 1125899906842624
theorem dec_beq(x y:Int):decide (x=y)=(x==y):=by by_cases h:x=y<;>simp[h]
theorem rowsOf_app{α:Type}(enc:α→List Value)(xs ys:List α):rowsOf enc (xs++ys)=rowsOf enc xs++rowsOf enc ys:=List.map_append

abbrev u64(n:Int):AV:=.p (.v (.int .u64 n))
theorem samtOk_e(n:Int):GC Try.prog 46 [int n] [] (boo (amtOk n)) []:=GC.of_vals (r:=.bool (amtOk n)) (RV.v_mk rfl) rfl fun w=>(spec_AmtOk_c n w).mono fun e w' h=>⟨h.1,h.2▸Grow.refl _⟩
def addOk(a b:Int):Bool:=amtOk a&&amtOk b&&amtOk (a+b)
def addV(a b:Int):Int:=if addOk a b then a+b else 0
theorem addV_no{a b:Int}(h:addOk a b=false):addV a b=0:=by unfold addV;rw[h];rfl
theorem addV_yes{a b:Int}(h:addOk a b=true):addV a b=a+b:=by unfold addV;rw[h];rfl
def feeQ(ppm n:Int):Int:=if 0<n*ppm%1000000 then n*ppm/1000000+1 else n*ppm/1000000
def feeIn(ppm n:Int):Bool:=amtOk n&&inB ppm 0 1000000
def feeOk(base ppm n:Int):Bool:=feeIn ppm n&&addOk base (feeQ ppm n)
def feeV(base ppm n:Int):Int:=if feeIn ppm n then addV base (feeQ ppm n)else 0
theorem fee_no{base ppm n:Int}(h:feeIn ppm n=false):feeOk base ppm n=false∧feeV base ppm n=0:=by unfold feeOk feeV;rw[h];exact⟨rfl,rfl⟩
theorem fee_yes{base ppm n:Int}(h:feeIn ppm n=true):feeOk base ppm n=addOk base (feeQ ppm n)∧feeV base ppm n=addV base (feeQ ppm n):=by unfold feeOk feeV;rw[h];exact⟨rfl,rfl⟩
theorem mil_le{n ppm:Int}(n0:0≤n)(p0:0≤ppm)(p1:ppm≤1000000):0≤n*ppm∧n*ppm≤n*1000000:=⟨Int.mul_nonneg n0 p0,Int.mul_le_mul_of_nonneg_left p1 n0⟩
theorem wrap64_eq(n:Int):IntKind.u64.wrap n=n%18446744073709551616:=by simp[IntKind.wrap,IntKind.signed,IntKind.bits]
theorem hw(a b c:Int):IntKind.u64.wrap (IntKind.u64.wrap (IntKind.u64.wrap a+b)-IntKind.u64.wrap c)=(a+b-c)%18446744073709551616:=by
 rw[wrap64_eq,wrap64_eq,wrap64_eq,wrap64_eq];omega
theorem in_div{ppm n:Int}(h:feeIn ppm n=true):0≤n∧n≤1125899906842624∧0≤ppm∧ppm≤1000000∧n*ppm/1000000≤n∧0≤n*ppm/1000000:=by
 unfold feeIn at h
 rw[Bool.and_eq_true,amtOk_true,inB_true]at h
 have:=mil_le h.1.1 h.2.1 h.2.2
 generalize n*ppm=p at *
 omega
theorem feeQ_hi{ppm n:Int}(h:0<n*ppm%1000000):feeQ ppm n=n*ppm/1000000+1:=if_pos h
theorem feeQ_lo{ppm n:Int}(h:¬0<n*ppm%1000000):feeQ ppm n=n*ppm/1000000:=if_neg h
theorem sdiv_e(a b:Int)(h:feeIn b a=true):GC Try.prog 64 [int a,int b,int 1000000] [] (.tup [int (a*b/1000000),int (a*b%1000000),boo true]) []:=
 GC.of_vals (r:=.tuple #[.int .i64 (a*b/1000000),.int .i64 (a*b%1000000),.bool true]) (RV.tupv (cs:=[.int .i64 (a*b/1000000),.int .i64 (a*b%1000000),.bool true]) rfl rfl) rfl fun w=>by
  have h2:=in_div h
  refine(spec_l01Div_c a b 1000000 w (by omega) (by omega) (by omega) (by omega) (by omega) (by omega)).mono ?_
  rintro e w' ⟨rfl,rfl⟩
  exact⟨by unfold divRes;rw[if_pos (by omega)],Grow.refl _⟩
theorem saddAmt_e(a b:Int):GC Try.prog 77 [int a,int b] [] (.tup [int (addV a b),boo (addOk a b)]) []:=by
 refine GC.intro (rs:=[.tmp 4,.tmp 5]) Try.func77 rfl Try.ntmps77 (Nat.le_of_ble_eq_true rfl) ⟨rfl,rfl,trivial⟩ ?_
 intro L O w0
 refine sL<|laI Z<|laZ Z<|nG<|aS<|sL<|lmI Z<|lst (zL Try.func46 (samtOk_e _) Z) Z<|luB Z<|lmB Z ?_
 refine AL.bool (t:=9) rfl ?_ ?_
 ·intro h1
  refine lno Z<|lno Z<|lno Z<|lkT Z<|lmT Z<|lno Z<|lno Z<|lno Z<|lno Z<|lno Z<|lkT Z<|nG<|aY Z<|sL<|laI Z<|laZ Z<|nG<|aR<|rT ?_
  refine end_ret ?_ trivial
  unfold addV addOk
  simp_all
  try rfl
 ·intro h1
  refine lmI Z<|lst (zL Try.func46 (samtOk_e _) Z) Z<|luB Z<|lkB Z<|lmB Z ?_
  refine AL.bool (t:=14) rfl ?_ ?_
  ·intro h2
   refine lno Z<|lno Z<|lno Z<|lno Z<|lno Z<|lkT Z<|nG<|aY Z<|sL<|laI Z<|laZ Z<|nG<|aR<|rT ?_
   refine end_ret ?_ trivial
   unfold addV addOk
   simp_all
   try rfl
  ·intro h2
   refine lmI Z<|lmI Z ?_
   have ha:=amtOk_true.1 (by simpa using h1:amtOk a=true)
   have hb:=amtOk_true.1 (by simpa using h2:amtOk b=true)
   refine lgI Z<|lst (zL Try.func46 (samtOk_e _) Z) Z<|lT [0,1,4,5,14,18] [] ?_
   refine luB Z<|lkB Z<|nG ?_
   refine AW.cond rfl ?_ ?_
   ·intro h3
    refine sL<|laI Z<|laZ Z<|nG<|aR<|rT ?_
    refine end_ret ?_ trivial
    unfold addV addOk
    simp_all
    try rfl
   ·intro h3
    refine aK<|gA<|lmI Z<|lmI Z<|lgI Z<|laI Z<|laT Z<|nG<|aR ?_
    refine end_ret ?_ trivial
    unfold addV addOk
    simp_all
    try rfl
theorem sfee_e(base ppm n:Int):GC Try.prog 98 [int base,int ppm,int n,boo true] [] (.tup [int (feeV base ppm n),boo (feeOk base ppm n)]) []:=by
 refine GC.intro (rs:=[.tmp 8,.tmp 9]) Try.func98 rfl Try.ntmps98 (Nat.le_of_ble_eq_true rfl) ⟨rfl,rfl,trivial⟩ ?_
 intro L O w0
 refine sL<|laI Z<|laZ Z<|nG<|aS<|sL<|lmI Z<|lst (zL Try.func46 (samtOk_e _) Z) Z<|luB Z<|lmB Z ?_
 refine AL.bool (t:=16) rfl ?_ ?_
 ·intro h1
  refine lno Z<|lno Z<|lno Z<|lkT Z<|lmT Z<|lno Z<|lno Z<|lkT Z<|lmT Z<|lno Z<|lno Z<|lkT Z<|nG<|aY Z<|sL<|laI Z<|laZ Z<|nG<|aR<|rT ?_
  refine end_ret ?_ trivial
  first
  |(rw[(fee_yes hin).1,(fee_yes hin).2,feeQ_hi (by simpa using h1)];rfl)
  |(rw[(fee_yes hin).1,(fee_yes hin).2,feeQ_lo (by simpa using h1)];rfl)
  |(have hb0:amtOk base=false:=by simpa using h1
    have hf:feeOk base ppm n=false∧feeV base ppm n=0:=by unfold feeOk feeV addV addOk;simp[hb0]
    rw[hf.1,hf.2];rfl)
  |(have hf:feeIn ppm n=false:=by
     rcases hq:feeIn ppm n with _|_
     ·rfl
     ·have h:=in_div hq;have h2:amtOk n=true:=amtOk_true.2 ⟨h.1,h.2.1⟩;simp_all<;>omega
    rw[(fee_no hf).1,(fee_no hf).2];rfl)
 ·intro h1
  refine lmI Z<|lst (zL Try.func46 (samtOk_e _) Z) Z<|lT [0,1,2,3,8,9,16,18] [] ?_
  refine luB Z<|lkB Z<|lmB Z ?_
  refine AL.bool (t:=21) rfl ?_ ?_
  ·intro h2
   refine lno Z<|lno Z<|lkT Z<|lmT Z<|lno Z<|lno Z<|lkT Z<|nG<|aY Z<|sL<|laI Z<|laZ Z<|nG<|aR<|rT ?_
   refine end_ret ?_ trivial
   first
   |(rw[(fee_yes hin).1,(fee_yes hin).2,feeQ_hi (by simpa using h2)];rfl)
   |(rw[(fee_yes hin).1,(fee_yes hin).2,feeQ_lo (by simpa using h2)];rfl)
   |(have hb0:amtOk base=false:=by simpa using h1
     have hf:feeOk base ppm n=false∧feeV base ppm n=0:=by unfold feeOk feeV addV addOk;simp[hb0]
     rw[hf.1,hf.2];rfl)
   |(have hf:feeIn ppm n=false:=by
      rcases hq:feeIn ppm n with _|_
      ·rfl
      ·have h:=in_div hq;have h2:amtOk n=true:=amtOk_true.2 ⟨h.1,h.2.1⟩;simp_all<;>omega
     rw[(fee_no hf).1,(fee_no hf).2];rfl)
  ·intro h2
   refine lmI Z<|lbB Z<|lkB Z<|lmB Z ?_
   refine AL.bool (t:=25) rfl ?_ ?_
   ·intro h3
    refine lno Z<|lno Z<|lkT Z<|nG<|aY Z<|sL<|laI Z<|laZ Z<|nG<|aR<|rT ?_
    refine end_ret ?_ trivial
    first
    |(rw[(fee_yes hin).1,(fee_yes hin).2,feeQ_hi (by simpa using h3)];rfl)
    |(rw[(fee_yes hin).1,(fee_yes hin).2,feeQ_lo (by simpa using h3)];rfl)
    |(have hb0:amtOk base=false:=by simpa using h1
      have hf:feeOk base ppm n=false∧feeV base ppm n=0:=by unfold feeOk feeV addV addOk;simp[hb0]
      rw[hf.1,hf.2];rfl)
    |(have hf:feeIn ppm n=false:=by
       rcases hq:feeIn ppm n with _|_
       ·rfl
       ·have h:=in_div hq;have h2:amtOk n=true:=amtOk_true.2 ⟨h.1,h.2.1⟩;simp_all<;>omega
      rw[(fee_no hf).1,(fee_no hf).2];rfl)
   ·intro h3
    refine lmI Z<|lbB Z<|lkB Z<|nG ?_
    refine AW.cond rfl ?_ ?_
    ·intro h4
     refine sL<|laI Z<|laZ Z<|nG<|aR<|rT ?_
     refine end_ret ?_ trivial
     first
     |(rw[(fee_yes hin).1,(fee_yes hin).2,feeQ_hi (by simpa using h4)];rfl)
     |(rw[(fee_yes hin).1,(fee_yes hin).2,feeQ_lo (by simpa using h4)];rfl)
     |(have hb0:amtOk base=false:=by simpa using h1
       have hf:feeOk base ppm n=false∧feeV base ppm n=0:=by unfold feeOk feeV addV addOk;simp[hb0]
       rw[hf.1,hf.2];rfl)
     |(have hf:feeIn ppm n=false:=by
        rcases hq:feeIn ppm n with _|_
        ·rfl
        ·have h:=in_div hq;have h2:amtOk n=true:=amtOk_true.2 ⟨h.1,h.2.1⟩;simp_all<;>omega
       rw[(fee_no hf).1,(fee_no hf).2];rfl)
    ·intro h4
     refine aK<|gA ?_
     have hin:feeIn ppm n=true:=by
      unfold feeIn inB
      simp_all
     have hb:=in_div hin
     refine lmI Z<|lmI Z<|lst (zL Try.func64 (sdiv_e n ppm hin) Z) Z<|lT [0,3,8,9,32] [] ?_
     refine lmX (.tup [vI _ _,vI _ _,vB true]) Z<|lxI Z<|lxI Z<|lxX (vB true) Z<|laI Z<|laI Z<|laT Z<|nG<|aS<|sL<|lmT Z<|luZ Z<|nG<|aN Z<|aK<|gT<|aS<|sL<|lmT Z<|lmT Z<|lmI Z<|lbB Z<|lkB Z<|nG ?_
     refine AW.cond rfl ?_ ?_
     ·intro h5
      refine aL<|lmI Z<|lgI Z<|laI Z<|nA<|lmI Z<|lmI Z<|lst (zL Try.func77 (saddAmt_e _ _) Z) Z<|lT [8,9,47] [] ?_
      refine lxI Z<|lxB Z<|laI Z<|laB Z<|nG<|aR ?_
      refine end_ret ?_ trivial
      first
      |(rw[(fee_yes hin).1,(fee_yes hin).2,feeQ_hi (by simpa using h5)];rfl)
      |(rw[(fee_yes hin).1,(fee_yes hin).2,feeQ_lo (by simpa using h5)];rfl)
      |(have hb0:amtOk base=false:=by simpa using h1
        have hf:feeOk base ppm n=false∧feeV base ppm n=0:=by unfold feeOk feeV addV addOk;simp[hb0]
        rw[hf.1,hf.2];rfl)
      |(have hf:feeIn ppm n=false:=by
         rcases hq:feeIn ppm n with _|_
         ·rfl
         ·have h:=in_div hq;have h2:amtOk n=true:=amtOk_true.2 ⟨h.1,h.2.1⟩;simp_all<;>omega
        rw[(fee_no hf).1,(fee_no hf).2];rfl)
     ·intro h5
      refine aK<|gA<|lmI Z<|lmI Z<|lst (zL Try.func77 (saddAmt_e _ _) Z) Z<|lxI Z<|lxB Z<|laI Z<|laB Z<|nG<|aR ?_
      refine end_ret ?_ trivial
      first
      |(rw[(fee_yes hin).1,(fee_yes hin).2,feeQ_hi (by simpa using h5)];rfl)
      |(rw[(fee_yes hin).1,(fee_yes hin).2,feeQ_lo (by simpa using h5)];rfl)
      |(have hb0:amtOk base=false:=by simpa using h1
        have hf:feeOk base ppm n=false∧feeV base ppm n=0:=by unfold feeOk feeV addV addOk;simp[hb0]
        rw[hf.1,hf.2];rfl)
      |(have hf:feeIn ppm n=false:=by
         rcases hq:feeIn ppm n with _|_
         ·rfl
         ·have h:=in_div hq;have h2:amtOk n=true:=amtOk_true.2 ⟨h.1,h.2.1⟩;simp_all<;>omega
        rw[(fee_no hf).1,(fee_no hf).2];rfl)
theorem sfeeUp_e(base ppm n:Int):GC Try.prog 91 [int base,int ppm,int n] [] (.tup [int (feeV base ppm n),boo (feeOk base ppm n)]) []:=by
 refine GC.intro (rs:=[.tmp 6,.tmp 7]) Try.func91 rfl Try.ntmps91 (Nat.le_of_ble_eq_true rfl) ⟨rfl,rfl,trivial⟩ ?_
 intro L O w0
 refine sL<|laI Z<|laZ Z<|nA<|lmI Z<|lmI Z<|lmI Z<|lst (zL Try.func98 (sfee_e _ _ _) Z) Z<|lxI Z<|lxB Z<|laI Z<|laB Z<|nG<|aR ?_
 refine end_ret ?_ trivial
 rfl

def bookV(x:Book):AV:=.agg [.p (.v (.int .i64 x.tick)),.p (.v (.int .i64 x.next)),.p (.v (.int .i64 x.wallet)),.p (.lst 57 7 (rowsOf encChan x.chans)),.p (.lst 101 7 (rowsOf encHtlc x.htlcs)),.p (.lst 103 5 (rowsOf encCircle x.circles))]
structure BookWf(x:Book):Prop where
 chans:∀c∈x.chans,wfChan c
 htlcs:∀c∈x.htlcs,wfHtlc c
 circles:∀c∈x.circles,wfCircle c
 len:x.chans.length≤1048576
theorem SlR.form{α:Type}{sz:Nat}{rep:World→Nat→Nat→List Value→α→Prop}{w:World}{lo hi:Nat}{v:Value}{xs:List α}(h:SlR sz rep w lo hi v xs):∃a c,v=.slice a xs.length c:=by
 obtain⟨a,c,rfl,_⟩:=h
 exact⟨a,c,rfl⟩
theorem bookArg{L:Nat→Prop}{ρ:Nat→Value}{H:Nat→AO}{x:Book}{w:World}{c:Value}(h:RV L ρ H w (bookV x) c)(hw:BookWf x) :
 ∃a0 c0 a1 c1 a2 c2,c=.agg #[.int .i64 x.tick,.int .i64 x.next,.int .i64 x.wallet,.slice a0 x.chans.length c0,.slice a1 x.htlcs.length c1,.slice a2 x.circles.length c2]∧
  SlR 7 repChan w 0 w.heap.size (.slice a0 x.chans.length c0) x.chans∧SlR 7 repHtlc w 0 w.heap.size (.slice a1 x.htlcs.length c1) x.htlcs∧SlR 5 repCircle w 0 w.heap.size (.slice a2 x.circles.length c2) x.circles:=by
 unfold bookV at h
 rw[RV]at h
 obtain⟨cs,rfl,h⟩:=h
 simp only[RVL]at h
 obtain⟨v0,r0,rfl,h0,v1,r1,rfl,h1,v2,r2,rfl,h2,v3,r3,rfl,h3,v4,r4,rfl,h4,v5,r5,rfl,h5,rfl⟩:=h
 have s3:=h3.slr (rep:=repChan) (fun x=>rfl) (fun c hc=>⟨rfl,hw.chans c hc⟩)
 have s4:=h4.slr (rep:=repHtlc) (fun x=>rfl) (fun c hc=>⟨rfl,hw.htlcs c hc⟩)
 have s5:=h5.slr (rep:=repCircle) (fun x=>rfl) (fun c hc=>⟨rfl,hw.circles c hc⟩)
 obtain⟨a0,c0,rfl⟩:=s3.form
 obtain⟨a1,c1,rfl⟩:=s4.form
 obtain⟨a2,c2,rfl⟩:=s5.form
 exact⟨a0,c0,a1,c1,a2,c2,by rw[h0.v_eq,h1.v_eq,h2.v_eq],s3,s4,s5⟩
theorem GC.of_old{P:Program}{f:FuncId}{args:List AV}{x:AV}{r:Value}(ho:∀ {L:Nat→Prop} {ρ:Nat→Value} {w:World},RV L ρ (ofO []) w x r)
 (h:∀(L:Nat→Prop) (ρ:Nat→Value) (w:World) (cs:List Value),RVL L ρ (ofO []) w args cs→Calls P f cs.toArray w fun e w'=>e=.returned r∧Grow w w'):GC P f args [] x []:=by
 intro L w cs ρ fp hL hargs hob hdj hLf
 refine Calls.mono (h L ρ w cs hargs) ?_
 rintro e w' ⟨rfl,g⟩
 refine⟨x,[],⟨rfl,rfl⟩,r,ρ,fun _=>[],rfl,⟨g.below.os,g.below.tape,g.below.output,g.size,fun b hb _=>g.below.block b hb,fun b o hb hlt=>?_⟩,ho,fun i=>rfl,by simp,by simp⟩
 rcases hb with⟨i,hi⟩|hb
 ·have:=(hob i).only hi
  cases this.1
 ·exact g.nf b o hb hlt
theorem RVL.two{L:Nat→Prop}{ρ:Nat→Value}{H:Nat→AO}{w:World}{x y:AV}{cs:List Value}(h:RVL L ρ H w [x,y] cs):∃c d,cs=[c,d]∧RV L ρ H w x c∧RV L ρ H w y d:=by
 simp only[RVL]at h
 obtain⟨c,r,rfl,h1,d,r',rfl,h2,rfl⟩:=h
 exact⟨c,d,rfl,h1,h2⟩
theorem RVL.sole{L:Nat→Prop}{ρ:Nat→Value}{H:Nat→AO}{w:World}{x:AV}{cs:List Value}(h:RVL L ρ H w [x] cs):∃c,cs=[c]∧RV L ρ H w x c:=by
 simp only[RVL]at h
 obtain⟨c,r,rfl,h1,rfl⟩:=h
 exact⟨c,rfl,h1⟩
theorem spec_BookOk_e(x:Book)(hw:BookWf x):GC Try.prog 44 [bookV x] [] (boo (bookOk x)) []:=GC.of_old (RV.v_mk rfl) fun L ρ w cs h=>by
 obtain⟨c,rfl,hc⟩:=h.sole
 obtain⟨a0,c0,a1,c1,a2,c2,rfl,s0,s1,s2⟩:=bookArg hc hw
 exact spec_BookOk_c x _ _ _ _ _ _ w s0 s1 s2 hw.len
theorem impl_chanAt_e(x:Book)(ch:Int)(hw:BookWf x):GC Try.prog 18 [bookV x,int ch] [] (int (chanAt x.chans ch)) []:=GC.of_old (RV.v_mk rfl) fun L ρ w cs h=>by
 obtain⟨c,d,rfl,hc,hd⟩:=h.two
 obtain⟨a0,c0,a1,c1,a2,c2,rfl,s0,s1,s2⟩:=bookArg hc hw
 rw[hd.v_eq]
 exact impl_chanAt_c x _ _ _ _ _ _ ch w s0 hw.len
theorem spec_At_e(x:Book)(ch:Int)(hw:BookWf x):GC Try.prog 29 [bookV x,int ch] [] (int (chanAt x.chans ch)) []:=GC.of_old (RV.v_mk rfl) fun L ρ w cs h=>by
 obtain⟨c,d,rfl,hc,hd⟩:=h.two
 obtain⟨a0,c0,a1,c1,a2,c2,rfl,s0,s1,s2⟩:=bookArg hc hw
 rw[hd.v_eq]
 exact spec_At_c x _ _ _ _ _ _ ch w s0 hw.len

def atI{α:Type}(p:α→Bool)(l:List α):Int:=match l.findIdx? p with|some i=>(i:Int)|none=>-1
theorem atI_at{α:Type}{p:α→Bool}{l:List α}{k:Nat}(hk:k<l.length)(h:∀j (h:j<l.length),j<k→p l[j]=false)(h2:p l[k]=true):atI p l=(k:Int):=by
 unfold atI
 rw[List.findIdx?_eq_some_iff_getElem.2 ⟨hk,h2,fun j hj=>by simp[h j (by omega) hj]⟩]
theorem atI_no{α:Type}{p:α→Bool}{l:List α}(h:∀j (h:j<l.length),p l[j]=false):atI p l=-1:=by
 unfold atI
 rw[List.findIdx?_eq_none_iff.2 (fun x hx=>by
  obtain⟨j,hj,rfl⟩:=List.getElem_of_mem hx
  exact h j hj)]
theorem atI_cases{α:Type}(p:α→Bool)(l:List α):atI p l=-1∨∃k,∃h:k<l.length,atI p l=(k:Int)∧p l[k]=true:=by
 unfold atI
 cases h:l.findIdx? p with
 |none=>exact .inl rfl
 |some i=>
  obtain⟨h1,h2,_⟩:=List.findIdx?_eq_some_iff_getElem.1 h
  exact .inr ⟨i,h1,rfl,by simpa using h2⟩
theorem all_succ{α:Type}{p:α→Bool}{l:List α}{k:Nat}(hk:k<l.length)(h:∀j (h:j<l.length),j<k→p l[j]=false)(h2:p l[k]=false):∀j (h:j<l.length),j<k+1→p l[j]=false:=fun j hj hlt=>by
 rcases Nat.lt_or_ge j k with q|q
 ·exact h j hj q
 ·have:j=k:=by omega
  subst this;exact h2
theorem any_no{α:Type}{p:α→Bool}{l:List α}(h:∀j (h:j<l.length),p l[j]=false):l.any p=false:=by
 rw[List.any_eq_false]
 intro x hx
 obtain⟨j,hj,rfl⟩:=List.getElem_of_mem hx
 simp[h j hj]
theorem any_yes{α:Type}{p:α→Bool}{l:List α}{k:Nat}(hk:k<l.length)(h:p l[k]=true):l.any p=true:=List.any_eq_true.2 ⟨_,List.getElem_mem hk,h⟩
def htlcAt(l:List Htlc)(key:Int):Int:=atI (fun h=>h.key==key) l
def circleAt(l:List Circle)(key:Int):Int:=atI (fun h=>h.key==key) l
theorem chanAt_atI(l:List Chan)(ch:Int):chanAt l ch=atI (fun c=>c.id==ch) l:=rfl
def hUses(ch:Int)(h:Htlc):Bool:=h.inn==ch||h.out==ch
def cUses(ch:Int)(c:Circle):Bool:=c.frm==ch||c.to==ch
def usedB(x:Book)(ch:Int):Bool:=x.htlcs.any (hUses ch)||x.circles.any (cUses ch)
def knownB(x:Book)(key:Int):Bool:=decide (0≤htlcAt x.htlcs key)||decide (0≤circleAt x.circles key)
def hFew(ch:Int)(h:Htlc):Int:=if h.out=ch∧h.kept=false then h.amtOut else 0
def hOne(ch:Int)(h:Htlc):Int:=if h.out=ch then 1 else 0
def hOneF(ch:Int)(h:Htlc):Int:=if h.out=ch∧h.kept=false then 1 else 0
def standing(n:Int)(g:Bool):Bool:=scoreOk n&&decide (20≤n)&&g
def roomV(l:List Htlc)(frm to:Chan)(ch amt:Int)(yes:Bool):Int:=allow to.size (tot (hFew ch) l) (tot (hOut ch) l) (tot (hOneF ch) l) (tot (hOne ch) l) amt (standing frm.score yes)
def clampV(n lo hi:Int):Int:=if n<lo then lo else if hi<n then hi else n
def SmallH(l:List Htlc):Prop:=l.length≤60∧∀h∈l,0≤h.amtOut∧h.amtOut≤1125899906842624
theorem SmallH.at{l:List Htlc}(s:SmallH l){k:Nat}(hk:k<l.length):0≤l[k].amtOut∧l[k].amtOut≤1125899906842624:=s.2 _ (List.getElem_mem hk)
theorem SmallH.few{l:List Htlc}(s:SmallH l)(ch:Int)(k:Nat):0≤tot (hFew ch) (l.take k)∧tot (hFew ch) (l.take k)≤60*1125899906842624:=tot_lim 60 (by decide) (fun h hh=>by have:=s.2 h hh;unfold hFew;split<;>omega) s.1 k
theorem SmallH.all{l:List Htlc}(s:SmallH l)(ch:Int)(k:Nat):0≤tot (hOut ch) (l.take k)∧tot (hOut ch) (l.take k)≤60*1125899906842624:=tot_lim 60 (by decide) (fun h hh=>by have:=s.2 h hh;unfold hOut;split<;>omega) s.1 k
theorem SmallH.one{l:List Htlc}(s:SmallH l)(ch:Int)(k:Nat):0≤tot (hOne ch) (l.take k)∧tot (hOne ch) (l.take k)≤60*1:=tot_lim 60 (by decide) (fun h hh=>by unfold hOne;split<;>omega) s.1 k
theorem SmallH.oneF{l:List Htlc}(s:SmallH l)(ch:Int)(k:Nat):0≤tot (hOneF ch) (l.take k)∧tot (hOneF ch) (l.take k)≤60*1:=tot_lim 60 (by decide) (fun h hh=>by unfold hOneF;split<;>omega) s.1 k
theorem tot_skip{α:Type}{f:α→Int}{l:List α}{k:Nat}(hk:k<l.length)(h:f l[k]=0):tot f (l.take (k+1))=tot f (l.take k):=by rw[tot_succ f l hk,h];omega
theorem tot_add{α:Type}{f:α→Int}{l:List α}{k:Nat}{n:Int}(hk:k<l.length)(h:f l[k]=n):tot f (l.take k)+n=tot f (l.take (k+1)):=by rw[tot_succ f l hk,h]
theorem sAt_e(x:Book)(ch:Int)(hm:x.chans.length≤1000000000):GC Try.prog 29 [bookV x,int ch] [] (int (atI (fun c=>c.id==ch) x.chans)) []:=by
 refine gi 4 Try.func29 rfl Try.ntmps29 rfl ?_
 intro L O w0
 refine sL<|lst (zX 2002 Z) Z<|laI Z<|nG<|aS<|sL<|lf 3 ty.F27_3 Z<|loL ty.kd23 Z<|lnI ty.sl23 Z<|lmI Z<|nG<|aB ?_
 refine aW [1,2,4,8] [2002] (D:=Nat) (fun k=>[(9,int (k:Int))]) (fun k=>[]) (fun k=>k≤x.chans.length∧∀j (h:j<x.chans.length),j<k→(fun c=>c.id==ch) x.chans[j]=false) (fun k=>x.chans.length-k) (0) (⟨Nat.zero_le _,fun j _ h=>absurd h (by omega)⟩) ⟨rfl,trivial⟩ trivial ?_
 intro k hI
 obtain⟨hkl,hall⟩:=hI
 refine sL<|lbB Z<|nG<|aS ?_
 refine AW.cond rfl ?_ ?_
 ·intro h1
  refine aK<|gT<|aS<|aB<|sL<|lmI Z<|laI Z<|nA<|lf 3 ty.F27_3 Z<|loL ty.kd23 Z<|lmI Z ?_
  have hk:k<x.chans.length:=by simpa[length_rowsOf]using h1
  refine li k ty.el23 Z (row_map hk)<|lq (rd (x:=.rp _) (zfr ty.F57_0 Z) Z)<|lrI ty.kd3 Z<|lmI Z<|lbB Z<|nG ?_
  refine AW.cond rfl ?_ ?_
  ·intro h2
   refine sL<|lmI Z<|laI Z<|nG<|aR<|rB<|rT<|rT<|rB<|rT ?_
   refine end_ret ?_ trivial
   refine congrArg (fun n=>some (int n)) ?_
   exact(atI_at hk hall (by simpa using h2)).symm
  ·intro h2
   refine aK<|gB<|gT<|aL<|lgI Z<|lmI Z<|nG ?_
   refine⟨k+1,⟨hk,all_succ (p:=(fun c=>c.id==ch)) hk hall (by simpa using h2)⟩,by omega,⟨(iq rfl),trivial⟩,trivial,rfl,rfl⟩
 ·intro h1
  refine aE<|eT<|eT<|eB<|gA<|laI Z<|nG<|aR ?_
  refine end_ret ?_ trivial
  refine congrArg (fun n=>some (int n)) ?_
  exact(atI_no fun j hj=>hall j hj (by have h:=h1;simp only[length_rowsOf,decide_eq_false_iff_not]at h;omega)).symm
theorem sused_e(x:Book)(ch:Int)(hmh:x.htlcs.length≤1000000000)(hmc:x.circles.length≤1000000000):GC Try.prog 90 [bookV x,int ch] [] (boo (usedB x ch)) []:=by
 refine gi 4 Try.func90 rfl Try.ntmps90 rfl ?_
 intro L O w0
 refine sL<|lst (zX 2002 Z) Z<|laZ Z<|nG<|aS<|sL<|lf 4 ty.F27_4 Z<|loL ty.kd24 Z<|lnI ty.sl24 Z<|lmI Z<|nG<|aB ?_
 refine aW [1,2,4,10,11] [2002] (D:=Nat) (fun k=>[(12,int (k:Int))]) (fun k=>[]) (fun k=>k≤x.htlcs.length∧∀j (h:j<x.htlcs.length),j<k→hUses ch x.htlcs[j]=false) (fun k=>x.htlcs.length-k) (0) (⟨Nat.zero_le _,fun j _ h=>absurd h (by omega)⟩) ⟨rfl,trivial⟩ trivial ?_
 intro k hI
 obtain⟨hkl,hall⟩:=hI
 refine sL<|lbB Z<|nG<|aS ?_
 refine AW.cond rfl ?_ ?_
 ·intro h1
  refine aK<|gT<|aS<|aB<|sL ?_
  have hk:k<x.htlcs.length:=by simpa[length_rowsOf]using h1
  refine li k ty.el24 Z (row_map hk)<|lrX (.agg [vI _ _,vI _ _,vI _ _,vI _ _,vI _ _,vB _,vI _ _]) ty.kd101 Z<|lst (zA 2006 ty.ze101 Z) Z<|lst (zB 2006 ty.co101 ty.inf101 Z) Z<|nA<|lf 1 ty.F101_1 Z<|loI ty.kd3 Z<|lmI Z<|lbB Z<|lmB Z ?_
  refine AL.bool (t:=20) rfl ?_ ?_
  ·intro h2
   refine lno Z<|lno Z<|lno Z<|lno Z<|lkT Z<|nG<|aY Z<|sL<|laT Z<|nG<|aR<|rB<|rT<|rT<|rB<|rT ?_
   refine eBo trivial ?_
   unfold usedB
   rw[any_yes (p:=hUses ch) hk (by unfold hUses;simp_all)];rfl
  ·intro h2
   refine lf 2 ty.F101_2 Z<|loI ty.kd3 Z<|lmI Z<|lbB Z<|lkB Z<|nG ?_
   refine AW.cond rfl ?_ ?_
   ·intro h3
    refine sL<|laT Z<|nG<|aR<|rB<|rT<|rT<|rB<|rT ?_
    refine eBo trivial ?_
    unfold usedB
    rw[any_yes (p:=hUses ch) hk (by unfold hUses;simp_all)];rfl
   ·intro h3
    refine aK<|gB<|gT<|aL<|lgI Z<|lmI Z<|nG ?_
    refine⟨k+1,⟨hk,all_succ (p:=hUses ch) hk hall (by unfold hUses;simp_all)⟩,by omega,⟨(iq rfl),trivial⟩,trivial,rfl,rfl⟩
 ·intro h1
  refine aE<|eT<|eT<|eB<|gT<|aS<|sL<|lf 5 ty.F27_5 Z<|loL ty.kd25 Z<|lnI ty.sl25 Z<|lmI Z<|lT [1,4,28,29,30] [2002] ?_
  refine nG<|aB ?_
  have hno:x.htlcs.any (hUses ch)=false:=any_no fun j hj=>hall j hj (by have h:=h1;simp only[length_rowsOf,decide_eq_false_iff_not]at h;omega)
  clear hall hkl
  refine aW [1,4,28,29] [2002] (D:=Nat) (fun k=>[(30,int (k:Int))]) (fun k=>[]) (fun k=>k≤x.circles.length∧∀j (h:j<x.circles.length),j<k→cUses ch x.circles[j]=false) (fun k=>x.circles.length-k) (0) (⟨Nat.zero_le _,fun j _ h=>absurd h (by omega)⟩) ⟨rfl,trivial⟩ trivial ?_
  intro k hI
  obtain⟨hkl,hall⟩:=hI
  refine sL<|lbB Z<|nG<|aS ?_
  refine AW.cond rfl ?_ ?_
  ·intro h4
   refine aK<|gT<|aS<|aB<|sL ?_
   have hk:k<x.circles.length:=by simpa[length_rowsOf]using h4
   refine li k ty.el25 Z (row_map hk)<|lrX (.agg [vI _ _,vI _ _,vI _ _,vI _ _,vI _ _]) ty.kd103 Z<|lst (zA 2008 ty.ze103 Z) Z<|lst (zB 2008 ty.co103 ty.inf103 Z) Z<|nA<|lf 1 ty.F103_1 Z<|loI ty.kd3 Z<|lmI Z<|lbB Z<|lmB Z ?_
   refine AL.bool (t:=38) rfl ?_ ?_
   ·intro h5
    refine lno Z<|lno Z<|lno Z<|lno Z<|lkT Z<|nG<|aY Z<|sL<|laT Z<|nG<|aR<|rB<|rT<|rT<|rB<|rT ?_
    refine eBo trivial ?_
    unfold usedB
    rw[any_yes (p:=cUses ch) hk (by unfold cUses;simp_all),Bool.or_true]
   ·intro h5
    refine lf 2 ty.F103_2 Z<|loI ty.kd3 Z<|lmI Z<|lbB Z<|lkB Z<|nG ?_
    refine AW.cond rfl ?_ ?_
    ·intro h6
     refine sL<|laT Z<|nG<|aR<|rB<|rT<|rT<|rB<|rT ?_
     refine eBo trivial ?_
     unfold usedB
     rw[any_yes (p:=cUses ch) hk (by unfold cUses;simp_all),Bool.or_true]
    ·intro h6
     refine aK<|gB<|gT<|aL<|lgI Z<|lmI Z<|nG ?_
     refine⟨k+1,⟨hk,all_succ (p:=cUses ch) hk hall (by unfold cUses;simp_all)⟩,by omega,⟨(iq rfl),trivial⟩,trivial,rfl,rfl⟩
  ·intro h4
   refine aE<|eT<|eT<|eB<|gA<|laZ Z<|nG<|aR ?_
   refine eBo trivial ?_
   unfold usedB
   rw[hno,any_no (p:=cUses ch) fun j hj=>hall j hj (by have h:=h4;simp only[length_rowsOf,decide_eq_false_iff_not]at h;omega)];rfl
theorem stwo_e(x:Book)(a b:Int)(hm:x.chans.length≤1000000000):GC Try.prog 45 [bookV x,int a,int b] [] (boo (two x.chans a b)) []:=by
 refine gi 6 Try.func45 rfl Try.ntmps45 rfl ?_
 intro L O w0
 refine sL<|lst (zX 2003 Z) Z<|laZ Z<|nA<|lmI Z<|lmI Z<|lbB Z<|lmB Z ?_
 refine AL.bool (t:=10) rfl ?_ ?_
 ·intro h1
  refine loX (.agg [vI _ _,vI _ _,vI _ _,vL _ _ _,vL _ _ _,vL _ _ _]) ty.kd27 Z<|lmI Z<|lst (zL Try.func29 (sAt_e x _ hm) Z) Z<|lbB Z<|lkB Z<|lmB Z ?_
  refine AL.bool (t:=16) rfl ?_ ?_
  ·intro h2
   refine loX (.agg [vI _ _,vI _ _,vI _ _,vL _ _ _,vL _ _ _,vL _ _ _]) ty.kd27 Z<|lmI Z<|lst (zL Try.func29 (sAt_e x _ hm) Z) Z<|lT [6,16,19] [2003] ?_
   refine lbB Z<|lkB Z<|laB Z<|nG<|aR ?_
   refine eBo trivial ?_
   unfold two
   rw[chanAt_atI,chanAt_atI]
   first|(simp_all;done)|(simp_all;intros;omega)
  ·intro h2
   refine lno Z<|lno Z<|lno Z<|lno Z<|lkZ Z<|laZ Z<|nG<|aR ?_
   refine eBo trivial ?_
   unfold two
   rw[chanAt_atI,chanAt_atI]
   first|(simp_all;done)|(simp_all;intros;omega)
 ·intro h1
  refine lno Z<|lno Z<|lno Z<|lno Z<|lkZ Z<|lmZ Z<|lno Z<|lno Z<|lno Z<|lno Z<|lkZ Z<|laZ Z<|nG<|aR ?_
  refine eBo trivial ?_
  unfold two
  rw[chanAt_atI,chanAt_atI]
  first|(simp_all;done)|(simp_all;intros;omega)
theorem sallow_e(a b c d e f:Int)(g:Bool):GC Try.prog 99 [int a,int b,int c,int d,int e,int f,boo g] [] (int (allow a b c d e f g)) []:=GC.of_vals (r:=.int .i64 (allow a b c d e f g)) (RV.v_mk rfl) rfl fun w=>spec_Allow_c a b c d e f g w
theorem sscoreOk_e(n:Int):GC Try.prog 61 [int n] [] (boo (scoreOk n)) []:=GC.of_vals (r:=.bool (scoreOk n)) (RV.v_mk rfl) rfl fun w=>(spec_ScoreOk_c n w).mono fun e w' h=>⟨h.1,h.2▸Grow.refl _⟩
theorem scoreOk_iff{n:Int}:scoreOk n=true↔-100≤n∧n≤100:=inB_true
theorem sclamp_e(n lo hi:Int):GC Try.prog 48 [int n,int lo,int hi] [] (int (clampV n lo hi)) []:=by
 refine gi 6 Try.func48 rfl Try.ntmps48 rfl ?_
 intro L O w0
 refine sL<|laI Z<|nG<|aS<|sL<|lmI Z<|lmI Z<|lbB Z<|nG ?_
 refine AW.cond rfl ?_ ?_
 ·intro h1
  refine sL<|lmI Z<|laI Z<|nG<|aR<|rT ?_
  refine end_ret ?_ trivial
  refine congrArg (fun n=>some (int n)) ?_
  unfold clampV
  simp only[decide_eq_true_eq,decide_eq_false_iff_not]at *
  (repeat' split)<;>omega
 ·intro h1
  refine aK<|gT<|aS<|sL<|lmI Z<|lmI Z<|lbB Z<|nG ?_
  refine AW.cond rfl ?_ ?_
  ·intro h2
   refine sL<|lmI Z<|laI Z<|nG<|aR<|rT ?_
   refine end_ret ?_ trivial
   refine congrArg (fun n=>some (int n)) ?_
   unfold clampV
   simp only[decide_eq_true_eq,decide_eq_false_iff_not]at *
   (repeat' split)<;>omega
  ·intro h2
   refine aK<|gA<|lmI Z<|laI Z<|nG<|aR ?_
   refine end_ret ?_ trivial
   refine congrArg (fun n=>some (int n)) ?_
   unfold clampV
   simp only[decide_eq_true_eq,decide_eq_false_iff_not]at *
   (repeat' split)<;>omega
theorem sstanding_e(n:Int)(g:Bool):GC Try.prog 100 [int n,boo g] [] (boo (standing n g)) []:=by
 refine gi 4 Try.func100 rfl Try.ntmps100 rfl ?_
 intro L O w0
 refine sL<|laZ Z<|nA<|lmI Z<|lst (zL Try.func61 (sscoreOk_e _) Z) Z<|lmB Z ?_
 refine AL.bool (t:=7) rfl ?_ ?_
 ·intro h1
  refine lmI Z<|lbB Z<|lkB Z<|lmB Z ?_
  refine AL.bool (t:=11) rfl ?_ ?_
  ·intro h2
   refine lmB Z<|lkB Z<|laB Z<|nG<|aR ?_
   refine eBo trivial ?_
   unfold standing
   first|(simp_all;done)|(simp_all;intros;omega)
  ·intro h2
   refine lno Z<|lkZ Z<|laZ Z<|nG<|aR ?_
   refine eBo trivial ?_
   unfold standing
   first|(simp_all;done)|(simp_all;intros;omega)
 ·intro h1
  refine lno Z<|lno Z<|lkZ Z<|lmZ Z<|lno Z<|lkZ Z<|laZ Z<|nG<|aR ?_
  refine eBo trivial ?_
  unfold standing
  first|(simp_all;done)|(simp_all;intros;omega)
theorem sscUp_e(n:Int):GC Try.prog 94 [int n] [] (int (scoreUp n)) []:=by
 refine gi 2 Try.func94 rfl Try.ntmps94 rfl ?_
 intro L O w0
 refine sL<|laI Z<|nG<|aS<|sL<|lmI Z<|lst (zL Try.func61 (sscoreOk_e _) Z) Z<|luB Z<|nG ?_
 refine AW.cond rfl ?_ ?_
 ·intro h1
  refine sL<|laI Z<|nG<|aR<|rT ?_
  refine end_ret ?_ trivial
  refine congrArg (fun n=>some (int n)) ?_
  unfold scoreUp
  have hs:¬(-100≤n∧n≤100):=fun q=>by rw[scoreOk_iff.2 q]at h1;cases h1
  rw[if_neg hs]
 ·intro h1
  refine aK<|gA<|lmI Z ?_
  refine lhI rfl ⟨rfl,fits_i64 (by have hs:=scoreOk_iff.1 (by simpa using h1:scoreOk n=true);unfold i64;omega)⟩<|lst (zL Try.func48 (sclamp_e _ _ _) rfl) Z<|laI Z<|nG<|aR ?_
  refine end_ret ?_ trivial
  refine congrArg (fun n=>some (int n)) ?_
  unfold scoreUp
  try unfold clampV
  have hs:=scoreOk_iff.1 (by simpa using h1:scoreOk n=true)
  rw[if_pos hs]
  try simp only[decide_eq_true_eq,decide_eq_false_iff_not]at *
  (repeat' split)<;>omega
theorem sscDown_e(n:Int):GC Try.prog 95 [int n] [] (int (scoreDown n)) []:=by
 refine gi 2 Try.func95 rfl Try.ntmps95 rfl ?_
 intro L O w0
 refine sL<|laI Z<|nG<|aS<|sL<|lmI Z<|lst (zL Try.func61 (sscoreOk_e _) Z) Z<|luB Z<|nG ?_
 refine AW.cond rfl ?_ ?_
 ·intro h1
  refine sL<|laI Z<|nG<|aR<|rT ?_
  refine end_ret ?_ trivial
  refine congrArg (fun n=>some (int n)) ?_
  unfold scoreDown
  have hs:¬(-100≤n∧n≤100):=fun q=>by rw[scoreOk_iff.2 q]at h1;cases h1
  rw[if_neg hs]
 ·intro h1
  refine aK<|gA<|lmI Z ?_
  refine lhI rfl ⟨rfl,fits_i64 (by have hs:=scoreOk_iff.1 (by simpa using h1:scoreOk n=true);unfold i64;omega)⟩<|lst (zL Try.func48 (sclamp_e _ _ _) rfl) Z<|laI Z<|nG<|aR ?_
  refine end_ret ?_ trivial
  refine congrArg (fun n=>some (int n)) ?_
  unfold scoreDown
  try unfold clampV
  have hs:=scoreOk_iff.1 (by simpa using h1:scoreOk n=true)
  rw[if_pos hs]
  try simp only[decide_eq_true_eq,decide_eq_false_iff_not]at *
  (repeat' split)<;>omega
theorem sscFade_e(n:Int):GC Try.prog 96 [int n] [] (int (fade n)) []:=by
 refine gi 2 Try.func96 rfl Try.ntmps96 rfl ?_
 intro L O w0
 refine sL<|laI Z<|nG<|aS<|sL<|lmI Z<|lst (zL Try.func61 (sscoreOk_e _) Z) Z<|luB Z<|lmB Z ?_
 refine AL.bool (t:=6) rfl ?_ ?_
 ·intro h1
  refine lno Z<|lno Z<|lkT Z<|nG<|aY Z<|sL<|laI Z<|nG<|aR<|rT ?_
  refine end_ret ?_ trivial
  refine congrArg (fun n=>some (int n)) ?_
  unfold fade
  have hs:¬(-100≤n∧n≤100):=fun q=>by rw[scoreOk_iff.2 q]at h1;cases h1
  rw[if_neg hs]
 ·intro h1
  refine lmI Z<|lbB Z<|lkB Z<|nG ?_
  refine AW.cond rfl ?_ ?_
  ·intro h2
   refine sL<|laI Z<|nG<|aR<|rT ?_
   refine end_ret ?_ trivial
   refine congrArg (fun n=>some (int n)) ?_
   unfold fade
   try unfold clampV
   have hs:=scoreOk_iff.1 (by simpa using h1:scoreOk n=true)
   rw[if_pos hs]
   try simp only[decide_eq_true_eq,decide_eq_false_iff_not]at *
   (repeat' split)<;>omega
  ·intro h2
   refine aK<|gT<|aS<|sL<|lmI Z<|lbB Z<|nG ?_
   refine AW.cond rfl ?_ ?_
   ·intro h3
    refine sL<|lmI Z ?_
    refine lhI rfl ⟨rfl,fits_i64 (by have hs:=scoreOk_iff.1 (by simpa using h1:scoreOk n=true);unfold i64;omega)⟩<|laI Z<|nG<|aR<|rT ?_
    refine end_ret ?_ trivial
    refine congrArg (fun n=>some (int n)) ?_
    unfold fade
    try unfold clampV
    have hs:=scoreOk_iff.1 (by simpa using h1:scoreOk n=true)
    rw[if_pos hs]
    try simp only[decide_eq_true_eq,decide_eq_false_iff_not]at *
    (repeat' split)<;>omega
   ·intro h3
    refine aK<|gA<|lmI Z ?_
    refine lhI rfl ⟨rfl,fits_i64 (by have hs:=scoreOk_iff.1 (by simpa using h1:scoreOk n=true);unfold i64;omega)⟩<|laI Z<|nG<|aR ?_
    refine end_ret ?_ trivial
    refine congrArg (fun n=>some (int n)) ?_
    unfold fade
    try unfold clampV
    have hs:=scoreOk_iff.1 (by simpa using h1:scoreOk n=true)
    rw[if_pos hs]
    try simp only[decide_eq_true_eq,decide_eq_false_iff_not]at *
    (repeat' split)<;>omega
theorem sroom_e(x:Book)(frm to:Chan)(amt:Int)(yes:Bool)(sm:SmallH x.htlcs):GC Try.prog 92 [bookV x,.agg [int frm.id,int frm.size,int frm.loc,int frm.remote,int frm.base,int frm.ppm,int frm.score],.agg [int to.id,int to.size,int to.loc,int to.remote,int to.base,int to.ppm,int to.score],int amt,boo yes] [] (int (roomV x.htlcs frm to to.id amt yes)) []:=by
 refine gi 10 Try.func92 rfl Try.ntmps92 rfl ?_
 intro L O w0
 refine sL<|lst (zX 2005 Z) Z<|lst (zX 2006 Z) Z<|lst (zX 2007 Z) Z<|laI Z<|nA<|laI Z<|nA<|laI Z<|nA<|laI Z<|nA<|laI Z<|nG<|aS<|aS ?_
 refine aL<|lf 4 ty.F27_4 Z<|loL ty.kd24 Z<|lnI ty.sl24 Z<|lmI Z<|nG<|aB ?_
 refine aW [3,4,6,7,10,18,19] [2005,2006,2007] (D:=Nat) (fun k=>[(11,int (tot (hFew to.id) (x.htlcs.take k))),(12,int (tot (hOut to.id) (x.htlcs.take k))),(13,int (tot (hOneF to.id) (x.htlcs.take k))),(14,int (tot (hOne to.id) (x.htlcs.take k))),(20,int (k:Int))]) (fun k=>[]) (fun k=>k≤x.htlcs.length) (fun k=>x.htlcs.length-k) (0) (Nat.zero_le _) ⟨rfl,rfl,rfl,rfl,rfl,trivial⟩ trivial ?_
 intro k hI
 have b0:=sm.1
 have b1:=sm.few to.id k
 have b2:=sm.all to.id k
 have b3:=sm.oneF to.id k
 have b4:=sm.one to.id k
 refine sL<|lbB Z<|nG<|aS ?_
 refine AW.cond rfl ?_ ?_
 ·intro h1
  refine aK<|gT<|aS<|aB<|sL ?_
  have hk:k<x.htlcs.length:=by simpa[length_rowsOf]using h1
  have b5:=sm.at hk
  refine li k ty.el24 Z (row_map hk)<|lrX (.agg [vI _ _,vI _ _,vI _ _,vI _ _,vI _ _,vB _,vI _ _]) ty.kd101 Z<|lst (zA 2016 ty.ze101 Z) Z<|lT [3,4,6,7,10,11,12,13,14,16,18,19,20,23] [2005,2006,2007,2016] ?_
  refine lst (zB 2016 ty.co101 ty.inf101 Z) Z<|nG<|aS<|sL<|lf 2 ty.F101_2 Z<|loI ty.kd3 Z<|lf 0 ty.F57_0 Z<|loI ty.kd3 Z<|lbB Z<|nG ?_
  refine AW.cond rfl ?_ ?_
  ·intro h2
   refine aE<|eT<|eB<|gT<|aL<|lgI Z<|lmI Z<|nG ?_
   refine⟨k+1,hk,by omega,⟨(congrArg int (tot_skip hk (by have h:=h2;simp only[Bool.not_eq_true',decide_eq_false_iff_not,decide_eq_true_eq]at h;unfold hFew;simp[h])).symm),(congrArg int (tot_skip hk (by have h:=h2;simp only[Bool.not_eq_true',decide_eq_false_iff_not,decide_eq_true_eq]at h;unfold hOut;simp[h])).symm),(congrArg int (tot_skip hk (by have h:=h2;simp only[Bool.not_eq_true',decide_eq_false_iff_not,decide_eq_true_eq]at h;unfold hOneF;simp[h])).symm),(congrArg int (tot_skip hk (by have h:=h2;simp only[Bool.not_eq_true',decide_eq_false_iff_not,decide_eq_true_eq]at h;unfold hOne;simp[h])).symm),(iq rfl),trivial⟩,trivial,rfl,rfl⟩
  ·intro h2
   refine aK<|gA<|lmI Z<|lf 4 ty.F101_4 Z<|loI ty.kd3 Z<|lgI Z<|laI Z<|nA<|lmI Z<|lgI Z<|laI Z<|nA<|lf 5 ty.F101_5 Z<|loB ty.kd4 Z<|luB Z<|nG ?_
   refine AW.cond rfl ?_ ?_
   ·intro h3
    refine sL<|lmI Z<|lf 4 ty.F101_4 Z<|loI ty.kd3 Z<|lgI Z<|laI Z<|nG<|aL<|lmI Z<|lgI Z<|laI Z<|lN<|gB<|gT<|aL<|lgI Z<|lmI Z<|nG ?_
    have he:x.htlcs[k].out=to.id:=by simpa using h2
    have hkp:x.htlcs[k].kept=false:=by simpa using h3
    refine⟨k+1,hk,by omega,⟨(Eq.trans (b:=int _) rfl (congrArg int (tot_add hk (by unfold hFew;simp[he,hkp])))),(Eq.trans (b:=int _) rfl (congrArg int (tot_add hk (by unfold hOut;simp[he,hkp])))),(Eq.trans (b:=int _) rfl (congrArg int (tot_add hk (by unfold hOneF;simp[he,hkp])))),(Eq.trans (b:=int _) rfl (congrArg int (tot_add hk (by unfold hOne;simp[he,hkp])))),(iq rfl),trivial⟩,trivial,rfl,rfl⟩
   ·intro h3
    refine aK<|gB<|gT<|aL<|lgI Z<|lT [3,4,6,7,10,11,12,13,14,18,19,20,44] [2005,2006,2007,2016] ?_
    refine lmI Z<|nG ?_
    have he:x.htlcs[k].out=to.id:=by simpa using h2
    have hkp:x.htlcs[k].kept=true:=by simpa using h3
    refine⟨k+1,hk,by omega,⟨(congrArg int (tot_skip hk (by unfold hFew;simp[he,hkp])).symm),(Eq.trans (b:=int _) rfl (congrArg int (tot_add hk (by unfold hOut;simp[he,hkp])))),(congrArg int (tot_skip hk (by unfold hOneF;simp[he,hkp])).symm),(Eq.trans (b:=int _) rfl (congrArg int (tot_add hk (by unfold hOne;simp[he,hkp])))),(iq rfl),trivial⟩,trivial,rfl,rfl⟩
 ·intro h1
  refine aE<|eT<|eT<|eB<|gT<|aS<|aG 12 []<|tq 0 (rf 1 ty.F57_1 Z)<|tq 1 (roI ty.kd3 Z)<|tq 2 (rmI Z)<|tq 3 (rmI Z)<|tq 4 (rmI Z)<|tq 5 (rmI Z)<|tq 6 (rmI Z)<|tq 7 (rf 6 ty.F57_6 Z)<|tq 8 (roI ty.kd3 Z)<|yq 9 (rmB Z)<|yst 10 Z (zL Try.func100 (sstanding_e _ _) Z)<|yst 11 Z (zL Try.func99 (sallow_e _ _ _ _ _ _ _) Z)<|yq 12 (raI Z)<|gD<|gT<|aR ?_
  refine end_ret ?_ trivial
  refine congrArg (fun n=>some (int n)) ?_
  have hke:k=x.htlcs.length:=by have h:=h1;simp only[length_rowsOf,decide_eq_false_iff_not]at h;omega
  subst hke
  unfold roomV
  rw[List.take_length]

def insL:List Line→Line→List Line
 |[],x=>[x]
 |y::l,x=>if lessA y.acc x.acc then y::insL l x else x::y::l
def addL(l:List Line)(k c n:Int):List Line:=if n=0 then l else insL l ⟨⟨k,c⟩,n⟩
theorem mem_insL{y x:Line}:∀ {l:List Line},y∈insL l x→y∈l∨y=x
 |[],h=>by simp[insL]at h;exact .inr h
 |z::l,h=>by
  unfold insL at h
  split at h
  ·rcases List.mem_cons.1 h with h|h
   ·exact .inl (by simp[h])
   ·rcases mem_insL h with h|h
    ·exact .inl (by simp[h])
    ·exact .inr h
  ·rcases List.mem_cons.1 h with h|h
   ·exact .inr h
   ·exact .inl h
theorem insL_length(x:Line):∀(l:List Line),(insL l x).length=l.length+1
 |[]=>rfl
 |z::l=>by unfold insL;split<;>simp[insL_length x l]
theorem mem_addL{y:Line}{l:List Line}{k c n:Int}(h:y∈addL l k c n):y∈l∨(y.acc.kind=k∧y.acc.ch=c∧y.amt=n):=by
 unfold addL at h
 split at h
 ·exact .inl h
 ·rcases mem_insL h with h|rfl
  ·exact .inl h
  ·exact .inr ⟨rfl,rfl,rfl⟩
structure LG(l:List Line)(m:Nat):Prop where
 len:l.length≤m
 rng:∀y∈l,rangeA y.amt=true
def Fresh(l:List Line)(k c:Int):Prop:=∀y∈l,¬(y.acc.kind=k∧y.acc.ch=c)
theorem LG.nil:LG [] 0:=⟨Nat.le_refl _,by simp⟩
theorem LG.add{l:List Line}{m:Nat}{k c n:Int}(h:LG l m)(hn:rangeA n=true):LG (addL l k c n) (m+1):=by
 refine⟨?_,fun y hy=>?_⟩
 ·unfold addL
  split
  ·have:=h.len;omega
  ·rw[insL_length];have:=h.len;omega
 ·rcases mem_addL hy with q|q
  ·exact h.rng y q
  ·rw[q.2.2];exact hn
theorem Fresh.nil(k c:Int):Fresh [] k c:=by simp[Fresh]
theorem Fresh.add{l:List Line}{k c k' c' n:Int}(h:Fresh l k c)(hd:k'≠k∨c'≠c):Fresh (addL l k' c' n) k c:=fun y hy q=>by
 rcases mem_addL hy with r|r
 ·exact h y r q
 ·omega
def failC(is:Bool)(c k:Int):Int:=if is&&(c==0)then k else c
theorem failC_old{is:Bool}{c k:Int}(h:c≠0):failC is c k=c:=by unfold failC;simp[h]
abbrev hAr(l:List Htlc):AO:=.arr 101 7 (rowsOf encHtlc l)
abbrev iAr(l:List Circle):AO:=.arr 103 5 (rowsOf encCircle l)
abbrev lAr(l:List Line):AO:=.arr 139 3 (rowsOf encLine l)
theorem rows_some{α:Type}{enc:α→List Value}{l:List α}{i:Nat}{c:α}(h:l[i]? = some c):(rowsOf enc l)[i]? = some ((enc c).map PV.v):=by unfold rowsOf;rw[List.getElem?_map,h];rfl
theorem rows_set{α:Type}{enc:α→List Value}{l:List α}{i:Nat}{c:α}:(rowsOf enc l).set i ((enc c).map PV.v)=rowsOf enc (l.set i c):=by unfold rowsOf;rw[List.map_set]
theorem addL_zero{l:List Line}{k c n:Int}(h:n=0):addL l k c n=l:=if_pos h
theorem addL_pos{l:List Line}{k c n:Int}(h:¬n=0):addL l k c n=insL l ⟨⟨k,c⟩,n⟩:=if_neg h
structure WR where
 b:Book
 l:List Line
 c:Int
abbrev evV(e:Event):AV:=.agg [int e.kind,int e.key,int e.ch,int e.to,int e.amt,int e.fee,boo e.yes]
def zeroChan:Chan:=⟨0,0,0,0,0,0,0⟩
def chanOr(l:List Chan)(ch:Int):Chan:=(l.find? fun c=>c.id==ch).getD zeroChan
theorem chan_find(l:List Chan)(ch:Int):(chanAt l ch=-1∧chanOr l ch=zeroChan)∨∃(i:Nat) (c:Chan),chanAt l ch=(i:Int)∧l[i]? = some c∧chanOr l ch=c∧c.id=ch:=by
 unfold chanAt chanOr
 cases h:l.findIdx? (fun c=>c.id==ch)with
 |none=>
  refine .inl ⟨rfl,?_⟩
  have:l.find? (fun c=>c.id==ch)=none:=by
   rw[List.find?_eq_none]
   intro x hx
   have:=List.findIdx?_eq_none_iff.1 h x hx
   simpa using this
  rw[this];rfl
 |some i=>
  obtain⟨h1,h2,h3⟩:=List.findIdx?_eq_some_iff_getElem.1 h
  refine .inr ⟨i,l[i],rfl,List.getElem?_eq_getElem h1,?_,by simpa using h2⟩
  have:l.find? (fun c=>c.id==ch)=some l[i]:=by
   rw[List.find?_eq_some_iff_getElem]
   exact⟨h2,i,h1,rfl,fun j hj=>by simpa using h3 j hj⟩
  rw[this];rfl
theorem failC_keep{b:Bool}{c k:Int}(h:c≠0):failC b c k≠0:=by rw[failC_old h];exact h
theorem failC_set{c k:Int}(h:k≠0):failC true c k≠0:=by
 unfold failC
 by_cases q:c=0
 ·simp[q,h]
 ·simp[q]

def encBool(b:Bool):List Value:=[.bool b]
def hK(k:Int):Bool:=!decide (k=1∨k=2∨k=3∨k=4∨k=8)
def hC(k:Int):Bool:=decide (k=2∨k=3∨k=4∨k=5∨k=9)
def hT(k:Int):Bool:=decide (k=5∨k=9)
def hA(k:Int):Bool:=decide (k=1∨k=2∨k=4∨k=5∨k=9)
def hF(k:Int):Bool:=decide (k=2∨k=3∨k=4∨k=9)
def hY(k:Int):Bool:=decide (k=5)
def fieldB(has:Bool)(n lo hi:Int):Bool:=if has then inB n lo hi else n==0
def eventOk(e:Event):Bool:=inB e.kind 1 11&&fieldB (hK e.kind) e.key 1 1000000&&fieldB (hC e.kind) e.ch 1 99&&fieldB (hT e.kind) e.to 1 99&&!(hT e.kind&&e.ch==e.to) &&
 fieldB (hA e.kind) e.amt (if e.kind=4 then 0 else 1) 1125899906842624&&fieldB (hF e.kind) e.fee 0 (if e.kind=4 then 1000000 else 1125899906842624)&&(hY e.kind||!e.yes)
theorem evAmt{e:Event}(h:eventOk e=true):amtOk e.amt=true∧amtOk e.fee=true:=by
 unfold eventOk at h
 simp only[Bool.and_eq_true]at h
 obtain⟨⟨⟨_,h1⟩,h2⟩,_⟩:=h
 rw[amtOk_true,amtOk_true]
 unfold fieldB at h1 h2
 constructor
 ·split at h1
  ·have:=inB_true.1 h1
   split at this<;>omega
  ·simp at h1;omega
 ·split at h2
  ·have:=inB_true.1 h2
   split at this<;>omega
  ·simp at h2;omega
theorem evNone{e:Event}(h:¬(1≤e.kind∧e.kind≤11)):eventOk e=false:=by
 unfold eventOk
 rw[show inB e.kind 1 11=false from by rw[inB_false];omega]
 rfl
theorem sfield_e(has:Bool)(n lo hi:Int):GC Try.prog 88 [boo has,int n,int lo,int hi] [] (boo (fieldB has n lo hi)) []:=by
 refine gi 8 Try.func88 rfl Try.ntmps88 rfl ?_
 intro L O w0
 refine sL<|laZ Z<|nG<|aS<|sL<|lmB Z<|luB Z<|nG ?_
 refine AW.cond rfl ?_ ?_
 ·intro h1
  refine sL<|lmI Z<|lbB Z<|laB Z<|nG<|aR<|rT ?_
  refine eBo trivial ?_
  unfold fieldB inB
  first|(simp_all;done)|(simp_all[dec_beq];done)|(simp_all;intros;omega)
 ·intro h1
  refine aK<|gA<|lmI Z<|lmI Z<|lbB Z<|lmB Z ?_
  refine AL.bool (t:=16) rfl ?_ ?_
  ·intro h2
   refine lmI Z<|lmI Z<|lbB Z<|lkB Z<|laB Z<|nG<|aR ?_
   refine eBo trivial ?_
   unfold fieldB inB
   first|(simp_all;done)|(simp_all[dec_beq];done)|(simp_all;intros;omega)
  ·intro h2
   refine lno Z<|lno Z<|lno Z<|lkZ Z<|laZ Z<|nG<|aR ?_
   refine eBo trivial ?_
   unfold fieldB inB
   first|(simp_all;done)|(simp_all[dec_beq];done)|(simp_all;intros;omega)
theorem shas_e(k:Int):GC Try.prog 86 [int k] [] (.own 60) [(60,.arr 4 1 (rowsOf encBool [hK k,hC k,hT k,hA k,hF k,hY k]))]:=by
 refine gi 2 Try.func86 rfl Try.ntmps86 rfl ?_
 intro L O w0
 refine sL<|laV Z<|nG<|aS<|sL<|lmI Z<|nG<|aB<|sL<|lbB Z<|laB Z<|nG ?_
 refine AW.cond rfl ?_ ?_
 ·intro h1
  refine sL<|lst (zS 60 (rowsOf encBool [false,false,false,true,false,false]) ty.el132 ty.ze4 rfl (by intro r hr;simp only[rowsOf,encBool,List.map_cons,List.map_nil,List.mem_cons,List.not_mem_nil,or_false]at hr;rcases hr with h|h|h|h|h|h<;>(subst h;rfl))) Z<|laO Z<|nG<|aR<|rB<|rT ?_
  refine end_ret ?_ ⟨(congrArg (fun l=>AO.arr 4 1 (rowsOf encBool l)) (by unfold hK hC hT hA hF hY;simp_all)),trivial⟩
  rfl
 ·intro h1
  refine aS<|sL<|lbB Z<|laB Z<|nG ?_
  refine AW.cond rfl ?_ ?_
  ·intro h2
   refine asB 7 true rfl h2<|aK<|gT<|aY Z<|sL<|lst (zS 60 (rowsOf encBool [false,true,false,true,true,false]) ty.el132 ty.ze4 rfl (by intro r hr;simp only[rowsOf,encBool,List.map_cons,List.map_nil,List.mem_cons,List.not_mem_nil,or_false]at hr;rcases hr with h|h|h|h|h|h<;>(subst h;rfl))) Z<|laO Z<|nG<|aR<|rB<|rT ?_
   refine end_ret ?_ ⟨(congrArg (fun l=>AO.arr 4 1 (rowsOf encBool l)) (by unfold hK hC hT hA hF hY;simp_all)),trivial⟩
   rfl
  ·intro h2
   refine asB 7 false Z h2<|aL<|lbB Z<|laB Z<|nG ?_
   refine AW.cond rfl ?_ ?_
   ·intro h3
    refine sL<|lst (zS 60 (rowsOf encBool [false,true,false,true,true,false]) ty.el132 ty.ze4 rfl (by intro r hr;simp only[rowsOf,encBool,List.map_cons,List.map_nil,List.mem_cons,List.not_mem_nil,or_false]at hr;rcases hr with h|h|h|h|h|h<;>(subst h;rfl))) Z<|laO Z<|nG<|aR<|rB<|rT ?_
    refine end_ret ?_ ⟨(congrArg (fun l=>AO.arr 4 1 (rowsOf encBool l)) (by unfold hK hC hT hA hF hY;simp_all)),trivial⟩
    rfl
   ·intro h3
    refine sL<|lbB Z<|laB Z<|nG ?_
    refine AW.cond rfl ?_ ?_
    ·intro h4
     refine sL<|lst (zS 60 (rowsOf encBool [false,true,false,false,true,false]) ty.el132 ty.ze4 rfl (by intro r hr;simp only[rowsOf,encBool,List.map_cons,List.map_nil,List.mem_cons,List.not_mem_nil,or_false]at hr;rcases hr with h|h|h|h|h|h<;>(subst h;rfl))) Z<|lT [2,13] [60] ?_
     refine laO Z<|nG<|aR<|rB<|rT ?_
     refine end_ret ?_ ⟨(congrArg (fun l=>AO.arr 4 1 (rowsOf encBool l)) (by unfold hK hC hT hA hF hY;simp_all)),trivial⟩
     rfl
    ·intro h4
     refine sL<|lbB Z<|laB Z<|nG ?_
     refine AW.cond rfl ?_ ?_
     ·intro h5
      refine sL<|lst (zS 60 (rowsOf encBool [true,true,true,true,false,true]) ty.el132 ty.ze4 rfl (by intro r hr;simp only[rowsOf,encBool,List.map_cons,List.map_nil,List.mem_cons,List.not_mem_nil,or_false]at hr;rcases hr with h|h|h|h|h|h<;>(subst h;rfl))) Z<|laO Z<|nG<|aR<|rB<|rT ?_
      refine end_ret ?_ ⟨(congrArg (fun l=>AO.arr 4 1 (rowsOf encBool l)) (by unfold hK hC hT hA hF hY;simp_all)),trivial⟩
      rfl
     ·intro h5
      refine sL<|lbB Z<|laB Z<|nG ?_
      refine AW.cond rfl ?_ ?_
      ·intro h6
       refine sL<|lst (zS 60 (rowsOf encBool [true,true,true,true,true,false]) ty.el132 ty.ze4 rfl (by intro r hr;simp only[rowsOf,encBool,List.map_cons,List.map_nil,List.mem_cons,List.not_mem_nil,or_false]at hr;rcases hr with h|h|h|h|h|h<;>(subst h;rfl))) Z<|laO Z<|nG<|aR<|rB<|rT ?_
       refine end_ret ?_ ⟨(congrArg (fun l=>AO.arr 4 1 (rowsOf encBool l)) (by unfold hK hC hT hA hF hY;simp_all)),trivial⟩
       rfl
      ·intro h6
       refine sL<|lbB Z<|laB Z<|nG ?_
       refine AW.cond rfl ?_ ?_
       ·intro h7
        refine sL<|lst (zS 60 (rowsOf encBool [false,false,false,false,false,false]) ty.el132 ty.ze4 rfl (by intro r hr;simp only[rowsOf,encBool,List.map_cons,List.map_nil,List.mem_cons,List.not_mem_nil,or_false]at hr;rcases hr with h|h|h|h|h|h<;>(subst h;rfl))) Z<|laO Z<|nG<|aR<|rB<|rT ?_
        refine end_ret ?_ ⟨(congrArg (fun l=>AO.arr 4 1 (rowsOf encBool l)) (by unfold hK hC hT hA hF hY;simp_all)),trivial⟩
        rfl
       ·intro h7
        refine aK<|gB<|gA<|lst (zS 60 (rowsOf encBool [true,false,false,false,false,false]) ty.el132 ty.ze4 rfl (by intro r hr;simp only[rowsOf,encBool,List.map_cons,List.map_nil,List.mem_cons,List.not_mem_nil,or_false]at hr;rcases hr with h|h|h|h|h|h<;>(subst h;rfl))) Z<|lT [2,23] [60] ?_
        refine laO Z<|nG<|aR ?_
        refine end_ret ?_ ⟨(congrArg (fun l=>AO.arr 4 1 (rowsOf encBool l)) (by unfold hK hC hT hA hF hY;simp_all)),trivial⟩
        rfl
theorem seventOk_e(e:Event):GC Try.prog 75 [evV e] [] (boo (eventOk e)) []:=by
 refine gi 2 Try.func75 rfl Try.ntmps75 rfl ?_
 intro L O w0
 refine sL<|lst (zX 2001 Z) Z<|laZ Z<|nG<|aS<|sL<|lf 0 ty.F111_0 Z<|loI ty.kd3 Z<|lbB Z<|lmB Z ?_
 refine AL.bool (t:=9) rfl ?_ ?_
 ·intro h1
  refine lno Z<|lno Z<|lno Z<|lkT Z<|nG<|aY Z<|sL<|laZ Z<|nG<|aR<|rT ?_
  refine eBo trivial ?_
  unfold eventOk
  first
  |(simp_all;done)
  |(simp_all[inB];done)
  |(simp_all[inB];intros;omega)
 ·intro h1
  refine lf 0 ty.F111_0 Z<|loI ty.kd3 Z<|lbB Z<|lkB Z<|nG ?_
  refine AW.cond rfl ?_ ?_
  ·intro h2
   refine sL<|laZ Z<|nG<|aR<|rT ?_
   refine eBo trivial ?_
   unfold eventOk
   first
   |(simp_all;done)
   |(simp_all[inB];done)
   |(simp_all[inB];intros;omega)
  ·intro h2
   refine aK<|gA<|lf 0 ty.F111_0 Z<|loI ty.kd3 Z<|lst (zC [(60,60)] [60] [] Try.func86 (shas_e _) (trivial) Z Z) Z<|lT [1,2,16] [60,2001] ?_
   refine laO Z<|nA<|laI Z<|nA<|laI Z<|nG ?_
   refine aJ [1,2,3] [60,2001] (D:=Unit) (fun jd=>[(4,int (if e.kind=4 then 0 else 1)),(5,int (if e.kind=4 then 1000000 else 1125899906842624))]) (fun jd=>[]) (fun jd=>True) ?_ ?_
   ·refine sL<|lf 0 ty.F111_0 Z<|loI ty.kd3 Z<|lbB Z<|nG ?_
    refine AW.cond rfl ?_ ?_
    ·intro h3
     refine sL<|laI Z<|nG<|aL<|laI Z<|nG ?_
     refine⟨(),trivial,⟨(Eq.trans (b:=int _) rfl (congrArg int (by rw[if_pos (by simpa using h3)]))),(Eq.trans (b:=int _) rfl (congrArg int (by rw[if_pos (by simpa using h3)]))),trivial⟩,trivial,rfl,rfl⟩
    ·intro h3
     refine aK<|gT ?_
     refine⟨(),trivial,⟨(Eq.trans (b:=int _) rfl (congrArg int (by rw[if_neg (by simpa using h3)]))),(Eq.trans (b:=int _) rfl (congrArg int (by rw[if_neg (by simpa using h3)]))),trivial⟩,trivial,rfl,rfl⟩
   ·intro jd hJ
    refine aS<|aS<|aG 36 []<|tq 0 (rmO rfl)<|tq 1 (rj 0 ty.el132 rfl (by show 0<6;decide))<|tq 2 (rd (x:=vB _) (rd_load_arr rfl ty.kd4 rfl rfl rfl (rfl) rfl) rfl)<|yq 3 (rf 1 ty.F111_1 rfl)<|yq 4 (roI ty.kd3 rfl)<|yst 5 rfl (zL Try.func88 (sfield_e _ _ _ _) rfl)<|yq 6 (ruB rfl)<|yq 7 (rmB rfl) ?_
    refine AG.bool (t:=27) rfl ?_ ?_
    ·intro h4
     refine tno 8 Z<|tno 9 Z<|tno 10 Z<|yno 11 Z<|yno 12 Z<|yno 13 Z<|yno 14 Z<|yq 15 (rkT Z)<|yq 16 (rmT Z)<|tno 17 Z<|tno 18 Z<|tno 19 Z<|yno 20 Z<|yno 21 Z<|yno 22 Z<|yno 23 Z<|yq 24 (rkT Z)<|yq 25 (rmT Z)<|yno 26 Z<|yno 27 Z<|yno 28 Z<|yno 29 Z<|tno 30 Z<|tno 31 Z<|yno 32 Z<|yno 33 Z<|yno 34 Z<|yno 35 Z<|yq 36 (rkT Z)<|gD ?_
     refine gT<|aY Z<|sL<|laZ Z<|nG<|aR<|rT ?_
     refine eBo trivial ?_
     unfold eventOk
     first
     |(simp_all;done)
     |(simp_all[inB];done)
     |(simp_all[inB];intros;omega)
    ·intro h4
     refine tq 8 (rmO rfl)<|tq 9 (rj 1 ty.el132 rfl (by show 1<6;decide))<|tq 10 (rd (x:=vB _) (rd_load_arr rfl ty.kd4 rfl rfl rfl (rfl) rfl) rfl)<|yq 11 (rf 2 ty.F111_2 rfl)<|yq 12 (roI ty.kd3 rfl)<|yst 13 rfl (zL Try.func88 (sfield_e _ _ _ _) rfl)<|gX [1,2,3,4,5,27,33] [60,2001] ?_
     refine yq 14 (ruB Z)<|yq 15 (rkB Z)<|yq 16 (rmB Z) ?_
     refine AG.bool (t:=36) rfl ?_ ?_
     ·intro h5
      refine tno 17 Z<|tno 18 Z<|tno 19 Z<|yno 20 Z<|yno 21 Z<|yno 22 Z<|yno 23 Z<|yq 24 (rkT Z)<|yq 25 (rmT Z)<|yno 26 Z<|yno 27 Z<|yno 28 Z<|yno 29 Z<|tno 30 Z<|tno 31 Z<|yno 32 Z<|yno 33 Z<|yno 34 Z<|yno 35 Z<|yq 36 (rkT Z)<|gD<|gT<|aY Z<|sL<|laZ Z<|nG<|aR<|rT ?_
      refine eBo trivial ?_
      unfold eventOk
      first
      |(simp_all;done)
      |(simp_all[inB];done)
      |(simp_all[inB];intros;omega)
     ·intro h5
      refine tq 17 (rmO rfl)<|tq 18 (rj 2 ty.el132 rfl (by show 2<6;decide))<|tq 19 (rd (x:=vB _) (rd_load_arr rfl ty.kd4 rfl rfl rfl (rfl) rfl) rfl)<|yq 20 (rf 3 ty.F111_3 rfl)<|yq 21 (roI ty.kd3 rfl)<|yst 22 rfl (zL Try.func88 (sfield_e _ _ _ _) rfl)<|yq 23 (ruB rfl)<|yq 24 (rkB rfl)<|yq 25 (rmB rfl) ?_
      refine AG.bool (t:=45) rfl ?_ ?_
      ·intro h6
       refine yno 26 Z<|yno 27 Z<|yno 28 Z<|yno 29 Z<|tno 30 Z<|tno 31 Z<|yno 32 Z<|yno 33 Z<|yno 34 Z<|yno 35 Z<|yq 36 (rkT Z)<|gD<|gT<|aY Z<|sL<|laZ Z<|nG<|aR<|rT ?_
       refine eBo trivial ?_
       unfold eventOk
       first
       |(simp_all;done)
       |(simp_all[inB];done)
       |(simp_all[inB];intros;omega)
      ·intro h6
       refine yq 26 (rmO rfl)<|yq 27 (rj 2 ty.el132 rfl (by show 2<6;decide))<|yq 28 (rd (x:=vB _) (rd_load_arr rfl ty.kd4 rfl rfl rfl (rfl) rfl) rfl)<|yq 29 (rmB rfl) ?_
       refine AG.bool (t:=49) rfl ?_ ?_
       ·intro h7
        refine tq 30 (rf 2 ty.F111_2 Z)<|tq 31 (roI ty.kd3 Z)<|yq 32 (rf 3 ty.F111_3 Z)<|yq 33 (roI ty.kd3 Z)<|yq 34 (rbB Z)<|yq 35 (rkB Z)<|yq 36 (rkB Z)<|gD<|gT ?_
        refine AW.cond rfl ?_ ?_
        ·intro h8
         refine sL<|laZ Z<|lT [1,2,3,4,5] [60,2001] ?_
         refine nG<|aR<|rT ?_
         refine eBo trivial ?_
         unfold eventOk
         first
         |(simp_all;done)
         |(simp_all[inB];done)
         |(simp_all[inB];intros;omega)
        ·intro h8
         refine aK<|gT<|aS<|aG 26 []<|tq 0 (rmO rfl)<|tq 1 (rj 3 ty.el132 rfl (by show 3<6;decide))<|tq 2 (rd (x:=vB _) (rd_load_arr rfl ty.kd4 rfl rfl rfl (rfl) rfl) rfl)<|tq 3 (rf 4 ty.F111_4 rfl)<|tq 4 (roI ty.kd3 rfl)<|yq 5 (rmI rfl)<|yst 6 rfl (zL Try.func88 (sfield_e _ _ _ _) rfl)<|yq 7 (rmB rfl) ?_
         refine AG.bool (t:=64) rfl ?_ ?_
         ·intro h9
          refine tq 8 (rmO rfl)<|tq 9 (rj 4 ty.el132 rfl (by show 4<6;decide))<|tq 10 (rd (x:=vB _) (rd_load_arr rfl ty.kd4 rfl rfl rfl (rfl) rfl) rfl)<|tq 11 (rf 5 ty.F111_5 rfl)<|tq 12 (roI ty.kd3 rfl)<|yq 13 (rmI rfl)<|yst 14 rfl (zL Try.func88 (sfield_e _ _ _ _) rfl)<|gX [1,2,3,64,71] [60,2001] ?_
          refine yq 15 (rkB Z)<|yq 16 (rmB Z) ?_
          refine AG.bool (t:=73) rfl ?_ ?_
          ·intro h10
           refine yq 17 (rmO rfl)<|yq 18 (rj 5 ty.el132 rfl (by show 5<6;decide))<|yq 19 (rd (x:=vB _) (rd_load_arr rfl ty.kd4 rfl rfl rfl (rfl) rfl) rfl)<|yq 20 (rmB rfl) ?_
           refine AG.bool (t:=77) rfl ?_ ?_
           ·intro h11
            refine yno 21 Z<|yno 22 Z<|yno 23 Z<|yq 24 (rkT Z)<|yq 25 (rkT Z)<|yq 26 (raT Z)<|gD<|gT<|aR ?_
            refine eBo trivial ?_
            unfold eventOk
            first
            |(simp_all;done)
            |(simp_all[inB];done)
            |(simp_all[inB];intros;omega)
           ·intro h11
            refine yq 21 (rf 6 ty.F111_6 Z)<|yq 22 (roB ty.kd4 Z)<|yq 23 (ruB Z)<|yq 24 (rkB Z)<|yq 25 (rkB Z)<|yq 26 (raB Z)<|gD<|gT<|aR ?_
            refine eBo trivial ?_
            unfold eventOk
            first
            |(simp_all;done)
            |(simp_all[inB];done)
            |(simp_all[inB];intros;omega)
          ·intro h10
           refine yno 17 Z<|yno 18 Z<|yno 19 Z<|yno 20 Z<|yno 21 Z<|yno 22 Z<|yno 23 Z<|yno 24 Z<|yq 25 (rkZ Z)<|yq 26 (raZ Z)<|gD<|gT<|aR ?_
           refine eBo trivial ?_
           unfold eventOk
           first
           |(simp_all;done)
           |(simp_all[inB];done)
           |(simp_all[inB];intros;omega)
         ·intro h9
          refine tno 8 Z<|tno 9 Z<|tno 10 Z<|tno 11 Z<|tno 12 Z<|yno 13 Z<|yno 14 Z<|yq 15 (rkZ Z)<|yq 16 (rmZ Z)<|yno 17 Z<|yno 18 Z<|yno 19 Z<|yno 20 Z<|yno 21 Z<|yno 22 Z<|yno 23 Z<|yno 24 Z<|yq 25 (rkZ Z)<|yq 26 (raZ Z)<|gD<|gT<|aR ?_
          refine eBo trivial ?_
          unfold eventOk
          first
          |(simp_all;done)
          |(simp_all[inB];done)
          |(simp_all[inB];intros;omega)
       ·intro h7
        refine tno 30 Z<|tno 31 Z<|yno 32 Z<|yno 33 Z<|yno 34 Z<|yq 35 (rkZ rfl)<|yq 36 (rkZ rfl)<|gD<|gT<|aN Z<|aK<|gT<|aS<|aG 26 []<|tq 0 (rmO rfl)<|tq 1 (rj 3 ty.el132 rfl (by show 3<6;decide))<|tq 2 (rd (x:=vB _) (rd_load_arr rfl ty.kd4 rfl rfl rfl (rfl) rfl) rfl)<|tq 3 (rf 4 ty.F111_4 rfl)<|tq 4 (roI ty.kd3 rfl)<|yq 5 (rmI rfl)<|yst 6 rfl (zL Try.func88 (sfield_e _ _ _ _) rfl)<|gX [1,2,3,5,63] [60,2001] ?_
        refine yq 7 (rmB rfl) ?_
        refine AG.bool (t:=64) rfl ?_ ?_
        ·intro h12
         refine tq 8 (rmO rfl)<|tq 9 (rj 4 ty.el132 rfl (by show 4<6;decide))<|tq 10 (rd (x:=vB _) (rd_load_arr rfl ty.kd4 rfl rfl rfl (rfl) rfl) rfl)<|tq 11 (rf 5 ty.F111_5 rfl)<|tq 12 (roI ty.kd3 rfl)<|yq 13 (rmI rfl)<|yst 14 rfl (zL Try.func88 (sfield_e _ _ _ _) rfl)<|yq 15 (rkB rfl)<|yq 16 (rmB rfl) ?_
         refine AG.bool (t:=73) rfl ?_ ?_
         ·intro h13
          refine yq 17 (rmO rfl)<|yq 18 (rj 5 ty.el132 rfl (by show 5<6;decide))<|yq 19 (rd (x:=vB _) (rd_load_arr rfl ty.kd4 rfl rfl rfl (rfl) rfl) rfl)<|yq 20 (rmB rfl) ?_
          refine AG.bool (t:=77) rfl ?_ ?_
          ·intro h14
           refine yno 21 Z<|yno 22 Z<|yno 23 Z<|yq 24 (rkT Z)<|yq 25 (rkT Z)<|yq 26 (raT Z)<|gD<|gT<|aR ?_
           refine eBo trivial ?_
           unfold eventOk
           first
           |(simp_all;done)
           |(simp_all[inB];done)
           |(simp_all[inB];intros;omega)
          ·intro h14
           refine yq 21 (rf 6 ty.F111_6 Z)<|yq 22 (roB ty.kd4 Z)<|yq 23 (ruB Z)<|yq 24 (rkB Z)<|yq 25 (rkB Z)<|yq 26 (raB Z)<|gD<|gT<|aR ?_
           refine eBo trivial ?_
           unfold eventOk
           first
           |(simp_all;done)
           |(simp_all[inB];done)
           |(simp_all[inB];intros;omega)
         ·intro h13
          refine yno 17 Z<|yno 18 Z<|yno 19 Z<|yno 20 Z<|yno 21 Z<|yno 22 Z<|yno 23 Z<|yno 24 Z<|yq 25 (rkZ Z)<|yq 26 (raZ Z)<|gD<|gT<|aR ?_
          refine eBo trivial ?_
          unfold eventOk
          first
          |(simp_all;done)
          |(simp_all[inB];done)
          |(simp_all[inB];intros;omega)
        ·intro h12
         refine tno 8 Z<|tno 9 Z<|tno 10 Z<|tno 11 Z<|tno 12 Z<|yno 13 Z<|yno 14 Z<|yq 15 (rkZ Z)<|yq 16 (rmZ Z)<|yno 17 Z<|yno 18 Z<|yno 19 Z<|yno 20 Z<|yno 21 Z<|yno 22 Z<|yno 23 Z<|yno 24 Z<|yq 25 (rkZ Z)<|yq 26 (raZ Z)<|gD<|gT<|aR ?_
         refine eBo trivial ?_
         unfold eventOk
         first
         |(simp_all;done)
         |(simp_all[inB];done)
         |(simp_all[inB];intros;omega)
end Go.Proofs.Ytnlpbgljaecdmaa

