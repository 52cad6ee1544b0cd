/- Texts of the proof of FnFnOpen, joined: E26, E27, Fil, E28, E29, E30, LogD, ET, EA1, EA2, EB, EA3, EA4, EA8, LogS. -/
import Derived.Test.YteblcdnhnckkaaaJFnOpen4
import Derived.Test.YteblcdnhnckkaaaJFnOpen3
import Derived.Laws.BytesArg
import Derived.Laws.Strings
import Derived.Lib.RabinKarpLaws
import Derived.Shelf.Small.Bits
import Derived.Shelf.Strconv.Itoa0
import Derived.Shelf.Bits.Mul64
import Derived.Test.YteblcdnhnckkaaaKBook1
import Derived.Deep.RegionHeld3
namespace Go.Proofs.Yteblcdnhnckkaaa
open Go.RowKit
set_option linter.unusedSimpArgs false
set_option linter.unusedVariables false
theorem no_liveN{L:Nat→Prop}{ρ:Nat→Value}{b:Nat}(h:¬L b):¬live L ρ (ofO []) b:=by
 rintro(q|⟨_,q,_⟩)
 ·exact h q
 ·cases q
def RowN{α:Type}(sz:Nat)(rep:World→Nat→Nat→List Value→α→Prop)(xs:List α)(w:World)(lo:Nat)(v:Value):Prop:=SlR sz rep w lo w.heap.size v xs
theorem RowN.rv{α:Type}{enc:α→List Value}{e:TypeId}{sz:Nat}{rep:World→Nat→Nat→List Value→α→Prop}{xs:List α}(hrep:∀w lo hi cs x,rep w lo hi cs x→cs=enc x)(hs:∀x,(enc x).length=sz)(h1:∀x,∀u∈enc x,u.oneCell'=true)
 {L:Nat→Prop} {ρ:Nat→Value} {w:World} {lo:Nat} {v:Value} (hL:∀b,L b→b<lo) (h:RowN sz rep xs w lo v):RV L ρ (ofO []) w (.p (.lst e sz (rowsOf enc xs))) v:=
 RV.of_slr h (fun _ _ q=>hrep _ _ _ _ _ q) hs h1 (Nat.le_refl _) (fun b q _=>no_liveN fun z=>by have:=hL b z;omega)
section
variable {L:Nat→Prop}{ρ:Nat→Value}{H:Nat→AO}{w:World}{S:Nat→Prop}
def Lie(L:Nat→Prop)(ρ:Nat→Value)(H:Nat→AO)(w:World)(S:Nat→Prop):Prop:=(∀id,∃f,OB L ρ H w (ρ id) f (H id)∧∀b∈f,S b)∧∀b,¬live L ρ H b→S b
theorem Lie.row(hl:Lie L ρ H w S){id:Nat}{e:Pin}{sz:Nat}{rows rows':List (List PV)}(hH:H id=.arr e sz rows)(h:∀ {xs fp},RWR w false sz rows xs fp→(∀b∈fp,S b)→∃g,RWR w false sz rows' xs g∧∀b∈g,S b)(hlen:rows'.length=rows.length) :
 ∃g,RW w false (.lst e.ty sz rows') (ρ id) g∧∀b∈g,S b:=by
 obtain⟨f,ho,hf⟩:=hl.1 id
 rw[hH]at ho
 obtain⟨xs,fr,b1,b2,b3,b4,b5⟩:=ho
 obtain⟨g,k1,k2⟩:=h b1 (fun b hb=>hl.2 b (b2 b hb))
 rcases b3.2 with⟨q,q2⟩|⟨gb,cap,cur,q,_,hg,hnc,hcm,_⟩
 ·refine⟨[]++g,?_,fun b hb=>k2 b (by simpa using hb)⟩
  rw[RW]
  refine⟨xs,[],g,k1,?_,rfl⟩
  unfold SlAt
  simp only[Bool.false_eq_true,if_false]
  exact⟨none,0,by rw[q,hlen,q2],by omega,by simp[maxLen],.inl ⟨by omega,trivial⟩⟩
 ·have b3':=b3
  rw[q]at b3'
  refine⟨[gb]++g,?_,fun b hb=>?_⟩
  ·rw[RW]
   refine⟨xs,[gb],g,k1,?_,rfl⟩
   unfold SlAt
   simp only[Bool.false_eq_true,if_false]
   exact⟨_,cap,by rw[q,hlen],by omega,hcm,.inr ⟨gb,0,rfl,cellsAt_of_own b3',(Array.getElem?_eq_some_iff.1 hg).1,rfl⟩⟩
  ·rcases List.mem_append.1 hb with hb|hb
   ·refine hf b ?_
    rw[List.mem_singleton.1 hb,b4,q]
    simp[Value.ownBlock]
   ·exact k2 b hb
theorem Lie.self(hl:Lie L ρ H w S){id:Nat}{e:Pin}{sz:Nat}{rows:List (List PV)}(hH:H id=.arr e sz rows):∃g,RW w false (.lst e.ty sz rows) (ρ id) g∧∀b∈g,S b:=hl.row hH (fun h hs=>⟨_,h,hs⟩) rfl
theorem RWL.deepS(hl:Lie L ρ H w S):∀ {x y:List PV} {c:List Value} {fp:List Nat},All2 (dpC H) x y→RWL w false x c fp→(∀b∈fp,S b)→∃fp',RWL w false y c fp'∧∀b∈fp',S b
 |_,_,c,fp,.nil,h,hs=>⟨fp,h,hs⟩
 |_,_,c,fp,.cons h1 h2,h,hs=>by
  rw[RWL]at h
  obtain⟨c,r,f1,f2,rfl,rfl,k1,k2⟩:=h
  obtain⟨g2,k3,k4⟩:=RWL.deepS hl h2 k2 (fun b hb=>hs b (List.mem_append_right _ hb))
  rcases h1 with rfl|⟨v,m,e,sz,rows,rfl,hm,rfl⟩
  ·refine⟨f1++g2,by rw[RWL];exact⟨c,r,f1,g2,rfl,rfl,k1,k3⟩,fun b hb=>?_⟩
   rcases List.mem_append.1 hb with q|q
   ·exact hs b (List.mem_append_left _ q)
   ·exact k4 b q
  ·obtain⟨g1,k5,k6⟩:=hl.self hm
   have hv:ρ m=v:=by
    obtain⟨f,ho,_⟩:=hl.1 m
    rw[hm]at ho
    obtain⟨_,_,_,_,_,_,k⟩:=ho
    exact k v rfl
   rw[RW]at k1
   rw[k1.1,←hv]
   refine⟨g1++g2,by rw[RWL];exact⟨ρ m,r,g1,g2,rfl,rfl,k5,k3⟩,fun b hb=>?_⟩
   rcases List.mem_append.1 hb with q|q
   ·exact k6 b q
   ·exact k4 b q
theorem RWR.deepS(hl:Lie L ρ H w S){sz:Nat}:∀ {x y:List (List PV)} {c:List Value} {fp:List Nat},All2 (All2 (dpC H)) x y→RWR w false sz x c fp→(∀b∈fp,S b)→∃fp',RWR w false sz y c fp'∧∀b∈fp',S b
 |_,_,c,fp,.nil,h,hs=>⟨fp,h,hs⟩
 |_,_,c,fp,.cons h1 h2,h,hs=>by
  rw[RWR]at h
  obtain⟨hn,c,r,f1,f2,rfl,rfl,k1,k2⟩:=h
  obtain⟨g1,k3,k5⟩:=RWL.deepS hl h1 k1 (fun b hb=>hs b (List.mem_append_left _ hb))
  obtain⟨g2,k4,k6⟩:=RWR.deepS hl h2 k2 (fun b hb=>hs b (List.mem_append_right _ hb))
  refine⟨g1++g2,by rw[RWR];exact⟨by rw[←h1.len];exact hn,c,r,g1,g2,rfl,rfl,k3,k4⟩,fun b hb=>?_⟩
  rcases List.mem_append.1 hb with q|q
  ·exact k5 b q
  ·exact k6 b q
end
structure Still(H:Nat→AO)(x y:AV):Prop where
 to:∀ {L:Nat→Prop} {ρ:Nat→Value} {w:World} {c:Value},Lie L ρ H w (fun b=>¬L b)→RV L ρ H w x c→RV L ρ (ofO []) w y c
theorem Still.p{H:Nat→AO}(x:PV):Still H (.p x) (.p x):=.mk fun{L ρ w c} hl h=>by
 rw[RV]at *
 obtain⟨fp,h1,h2⟩:=h
 exact⟨fp,h1,fun b hb=>no_liveN (hl.2 b (h2 b hb))⟩
theorem Still.own{H:Nat→AO}{id:Nat}{e:Pin}{sz:Nat}{rows rows':List (List PV)}(hH:H id=.arr e sz rows)(h:All2 (All2 (dpC H)) rows rows'):Still H (.own id) (.p (.lst e.ty sz rows')):=.mk fun{L ρ w c} hl hx=>by
 rw[RV]at hx
 have hc:=hx.2 (by rw[hH];rfl)
 obtain⟨g,k1,k2⟩:=hl.row hH (fun q hs=>RWR.deepS hl h q hs) h.len.symm
 rw[hc,RV]
 exact⟨g,k1,fun b hb=>no_liveN (k2 b hb)⟩
theorem Still.row{H:Nat→AO}{id:Nat}{e:Pin}{sz:Nat}{rows:List (List PV)}(hH:H id=.arr e sz rows):Still H (.own id) (.p (.lst e.ty sz rows)):=.mk fun{L ρ w c} hl hx=>by
 rw[RV]at hx
 have hc:=hx.2 (by rw[hH];rfl)
 obtain⟨g,k1,k2⟩:=hl.self hH
 rw[hc,RV]
 exact⟨g,k1,fun b hb=>no_liveN (k2 b hb)⟩
theorem RVL.still{H:Nat→AO}{L:Nat→Prop}{ρ:Nat→Value}{w:World}(hl:Lie L ρ H w (fun b=>¬L b)):∀ {l m:List AV} {cs:List Value},All2 (Still H) l m→RVL L ρ H w l cs→RVL L ρ (ofO []) w m cs
 |_,_,cs,.nil,h=>by rw[RVL]at *;exact h
 |_,_,cs,.cons h1 h2,h=>by
  rw[RVL]at *
  obtain⟨c,r,rfl,k1,k2⟩:=h
  exact⟨c,r,rfl,h1.to hl k1,RVL.still hl h2 k2⟩
theorem Still.agg{H:Nat→AO}{l m:List AV}(h:All2 (Still H) l m):Still H (.agg l) (.agg m):=.mk fun hl hx=>by
 rw[RV]at *
 obtain⟨cs,rfl,h1⟩:=hx
 exact⟨cs,rfl,RVL.still hl h h1⟩
theorem Still.tup{H:Nat→AO}{l m:List AV}(h:All2 (Still H) l m):Still H (.tup l) (.tup m):=.mk fun hl hx=>by
 rw[RV]at *
 obtain⟨cs,rfl,h1⟩:=hx
 exact⟨cs,rfl,RVL.still hl h h1⟩
theorem GX.frozen{P:Program}{f:FuncId}{args:List AV}{R:AV→List (Nat×AO)→Prop}{Z:AV→Prop}(h:GX P f args [] R)(hR:∀x ob1,R x ob1→∃y,Still (ofO ob1) x y∧Z y):GX P f args [] fun y ob=>ob=[]∧Z y:=fun L w cs ρ fp h1 h2 h3 h4 h5=>
 Calls.mono (h L w cs ρ fp h1 h2 h3 h4 h5) fun e w' ⟨x,ob1,q,v,ρ',fp',q1,q2,q3,q4,q5,q6⟩=>by
  obtain⟨y,hy,hz⟩:=hR x ob1 q
  have hl:Lie L ρ' (ofO ob1) w' (fun b=>¬L b):=⟨fun id=>⟨fp' id,q4 id,fun b hb=>(q6 id b hb).2⟩,fun b hb=>fun z=>hb (.inl z)⟩
  exact⟨y,[],⟨rfl,hz⟩,v,ρ',fun _=>[],q1,q2,hy.to hl q3,fun i=>rfl,by simp,by simp⟩

section
variable {P:Program}
variable {o:Oper}{τ:Nat→AV}{H:Nat→AO}{X:Nat→Bool}
end
section
variable {P:Program}{L O:Nat→Prop}{w0:World}{N:Nat}{ops:Array Oper}{F:List Nat}{n:Nat}{listed:Array Bool}{o:Oper}{τ:Nat→AV}{H:Nat→AO}{Q:AQ}
theorem AF1.stx{i:Nat}{E:List Nat}{Z:(Nat→AV)→(Nat→AO)→Prop}(ho:ops[i]? = some o)(hs:StX P o N τ H E Z)(hF:F.contains i=true∨E=[])(hg:gv τ ops o=some true)
 (h:∀τ' H',Z τ' H'→AF P L O w0 N ops F n (listed.setIfInBounds i true) τ' H' Q):AF1 P L O w0 N ops F n listed i τ H Q:=fun ρ fp a w hrr=>
 wpOp_step ho fun K hK=>by
  rw[hrr.wanted hg,if_pos rfl]
  exact hs.run hrr (fun τ' H' a' w' ρ' fp' hz hr' hmv=>hK _ _ ⟨keepA_of hF hmv,h τ' H' hz ρ' fp' a' w' hr'⟩)
end

def fill{α:Type}(rows:List α)(z:α)(k:Nat):List α:=rows.take k++List.replicate (rows.length-k) z
section
variable {P:Program}{o:Oper}{τ:Nat→AV}{H:Nat→AO}{X:Nat→Bool}
end

abbrev encU(b:Int):List Value:=[.int .u8 b]
abbrev bytesV(T:TypeId)(l:List Int):AV:=.p (.lst T 1 (rowsOf encU l))
def BytesOk(l:List Int):Prop:=∀b∈l,0≤b∧b≤255
abbrev strV(l:List Int):AV:=.p (.v (.string (strOfNums l)))
theorem rows_flat_u:∀ {l:List Int} {cs:List Value} {w:World} {fp:List Nat},RWR w false 1 (rowsOf encU l) cs fp→cs=l.map (Value.int .u8)
 |[],cs,w,fp,h=>by unfold rowsOf at h;simp only[List.map_nil]at h;rw[RWR]at h;exact h.1
 |x::l,cs,w,fp,h=>by
  have e:rowsOf encU (x::l)=[PV.v (.int .u8 x)]::rowsOf encU l:=rfl
  rw[e,RWR]at h
  obtain⟨_,c,r,f1,f2,rfl,rfl,h1,h2⟩:=h
  rw[RWL]at h1
  obtain⟨c0,r0,f3,f4,rfl,rfl,h3,h4⟩:=h1
  rw[RW]at h3
  rw[RWL]at h4
  rw[h3.1,h4.1,rows_flat_u h2];rfl
section
variable {P:Program}{o:Oper}{τ:Nat→AV}{H:Nat→AO}{X:Nat→Bool}
theorem str_run{s d e:TypeId}{W:World}{b off len cap:Nat}{l:List Int}(hs:P.underlying s=some (.slice e))(he:P.underlying e=some (.int .u8))(hd:P.underlying d=some .string)(hl:l.length=len)
 (h:CellsAt W b off (l.map (Value.int .u8))):(convert s d (.slice (some ⟨b,off,none⟩) len cap)).run P W=.ok (.string (strOfNums l)) W:=
 run_convert_bytes_arg W s e hs he b off len cap l hl (fun i hi=>by
  have hi2:i<l.length:=by omega
  have e1:(l.map (Value.int .u8))[i]? = some (.int .u8 l[i]):=by rw[List.getElem?_map,List.getElem?_eq_getElem hi2];rfl
  have:=h i _ e1
  rw[this,List.getD_eq_getElem?_getD,List.getElem?_eq_getElem hi2];rfl) d hd
theorem str_none{s d e:TypeId}{W:World}{p:Option Addr}{cap:Nat}(hs:P.underlying s=some (.slice e))(he:P.underlying e=some (.int .u8))(hd:P.underlying d=some .string):(convert s d (.slice p 0 cap)).run P W=.ok (.string (strOfNums [])) W:=by
 cases p with
 |none=>rw[run_convert_bytes_nil W s e hs he _ _ d hd];rfl
 |some a=>
  have hl:=run_loadCells_list (P:=P) W a [] (fun j v hj=>by cases hj)
  rw[run_convert_bytes_string W s d e _ _ _ hs he hd,run_bytesToString W a 0 cap [] hl]
  rfl
theorem rd_str_p{s d e T:TypeId}{x:Operand}{l:List Int}(ho:o.op=.convert s d x)(hs:P.underlying s=some (.slice e))(he:P.underlying e=some (.int .u8))(hd:P.underlying d=some .string)(hx:ev τ x=bytesV T l):Rd P o τ H X (strV l):=by
 constructor
 intro L O w0 N ρ fp a w hr
 have h:=hr.ev x
 rw[hx,RV]at h
 obtain⟨f0,h,hn⟩:=h
 rw[RW]at h
 obtain⟨xs,f1,f2,h1,h2,rfl⟩:=h
 have hxs:=rows_flat_u h1
 subst hxs
 rw[length_rowsOf]at h2
 obtain⟨p,cap,q1,q2,q3,q4⟩:=h2
 refine⟨.string (strOfNums l),RV.v_mk rfl,fun W hK=>?_⟩
 have e0:execOp a.eval o=(do let v ←convert s d (a.eval x);pure (.value v)):=by simp only[execOp,ho]
 rw[e0,q1,Sem.run_bind]
 rcases q4 with⟨hz,_⟩|⟨b,off,rfl,hc,hb,rfl⟩
 ·have:l=[]:=List.length_eq_zero_iff.1 hz
  subst this
  rw[show ([]:List Int).length=0 from rfl,str_none hs he hd];rfl
 ·have hW:W.heap[b]? = w.heap[b]?:=hK.2 b hb (fun id k1 k2 k3=>hn b (by simp) (.inr ⟨id,k2,k3⟩))
  have hcW:CellsAt W b off (l.map (Value.int .u8)):=fun j v hj=>by
   rw[World.cell?_of_block (w:=w) (a:=⟨b,off+j,none⟩) hW];exact hc j v hj
  rw[str_run hs he hd rfl hcW];rfl
end
-- ---------- texts compared
theorem strOf_inj:∀ {l m:List Int},BytesOk l→BytesOk m→(l.map fun n=>UInt8.ofNat n.toNat)=m.map (fun n=>UInt8.ofNat n.toNat)→l=m
 |[],[],_,_,_=>rfl
 |[],_::_,_,_,h=>by cases h
 |_::_,[],_,_,h=>by cases h
 |a::l,b::m,hl,hm,h=>by
  injection h with h1 h2
  have ha:=hl a (by simp)
  have hb:=hm b (by simp)
  have e1:(UInt8.ofNat a.toNat).toNat=a.toNat:=by rw[UInt8.toNat_ofNat'];exact Nat.mod_eq_of_lt (by omega)
  have e2:(UInt8.ofNat b.toNat).toNat=b.toNat:=by rw[UInt8.toNat_ofNat'];exact Nat.mod_eq_of_lt (by omega)
  have e3:a.toNat=b.toNat:=by rw[←e1,←e2];exact congrArg UInt8.toNat h1
  have:a=b:=by omega
  rw[this,strOf_inj (fun x hx=>hl x (by simp[hx])) (fun x hx=>hm x (by simp[hx])) h2]
theorem str_eq{l m:List Int}(hl:BytesOk l)(hm:BytesOk m):((strOfNums l).toList==(strOfNums m).toList)=decide (l=m):=by
 rw[ByteArray.toList_eq,ByteArray.toList_eq,strOfNums_data,strOfNums_data]
 by_cases h:l=m
 ·subst h;simp
 ·rw[decide_eq_false h]
  exact Bool.eq_false_iff.2 (fun q=>h (strOf_inj hl hm (by simpa using q)))
section
variable {P:Program}{x y:Operand}{T:TypeId}{l m:List Int}
theorem run_strne(hT:P.underlying T=some .string)(hl:BytesOk l)(hm:BytesOk m):∀W,(do eqGuard .neq T x y (.string (strOfNums l)) (.string (strOfNums m));binOp .neq T (.string (strOfNums l)) (.string (strOfNums m)):Sem Value).run P W=.ok (.bool (!decide (l=m))) W:=fun W=>by
 rw[←str_eq hl hm]
 rw[binOp_string_neq];simp[eqGuard]
end

theorem zeroOne(v:Value)(n:Nat):(Builtin.zeroCells #[v] n).toList=List.replicate n v:=by
 unfold Builtin.zeroCells
 apply List.ext_getElem
 ·simp
 ·intro i h1 h2
  simp[Nat.mod_one]
theorem flat_one{α:Type}(v:α):∀m,(List.replicate m [v]).flatten=List.replicate m v
 |0=>rfl
 |m+1=>by rw[List.replicate_succ,List.flatten_cons,flat_one v m,List.replicate_succ];rfl
section
variable {P:Program}
theorem appZ_run{w:World}{t ti ty e:TypeId}{i:TypeInfo}{z v0:Value}(ht:P.underlying t=some (.slice e))(hti:P.underlying ti=some (.int .i64))(hi:P.info? e=some i)(hz:i.zero=some z)(hzc:z.cells=#[v0])(hsz:i.size=1)(hv0:v0.oneCell'=true)
 {g:Nat} {n cap:Nat} {xs:List Value} (hown:w.ownsRow 0 e 1 (.slice (some ⟨g,0,none⟩) n cap) n xs) {m:Nat} (hm:0<m) (h63:n+m≤maxLen) (hbytes:(n+m)*i.bytes≤140737488355328) :
 ∃v' w',(Builtin.append_ #[t,ti] ty #[.slice (some ⟨g,0,none⟩) n cap,.int .i64 (m:Int)]).run P w=.ok v' w'∧w'.ownsRow 0 e 1 v' (n+m) (xs++List.replicate m v0)∧w.grownBy w' (some g)∧(v'.ownBlock=some g∨v'.ownBlock=some w.heap.size)∧
  (∀b off,(some g=some b∨w.heap.size≤b)→b<w'.heap.size→w'.frozen? ⟨b,off,none⟩=false):=by
 have hsmall:n+m≤9223372036854775807:=by simp only[maxLen]at h63;omega
 have hlen:(xs++List.replicate m v0).length=(n+m)*1:=by rw[List.length_append,hown.1,List.length_replicate];omega
 have hwrap:IntKind.i64.wrap (m:Int)=(m:Int):=by rw[IntKind.wrap_i64];omega
 have hl0:¬((m:Int)<0):=by omega
 have hb48:¬(281474976710656<(m:Int)*(i.bytes:Int)):=by
  have h1:m*i.bytes≤(n+m)*i.bytes:=Nat.mul_le_mul_right _ (by omega)
  have h2:((m*i.bytes:Nat):Int)≤140737488355328:=by omega
  rw[Int.natCast_mul]at h2
  omega
 have hmz:¬m=0:=by omega
 have hzl:(Builtin.zeroCells #[v0] m).toList=List.replicate m v0:=zeroOne v0 m
 rcases hown.2 with⟨q,_⟩|⟨g',cap',cur,q,hbg,hg,hnc,hcm,hcs,htake⟩
 ·cases q
 injection q with q1 q2 q3
 injection q1 with q1
 injection q1 with q1
 subst q1 q3
 by_cases hroom:n+m≤cap
 ·have hfit:n*1+(List.replicate m v0).length≤cur.size:=by rw[List.length_replicate,hcs];omega
  have hst:=run_storeCells_at P g (n*1) e (List.replicate m v0) 0 cur w hg (by simpa using hfit) (fun u hu=>by rw[(List.mem_replicate.1 hu).2];exact hv0)
  simp only[Nat.add_zero,Nat.mul_one]at hst
  have hr:(Builtin.append_ #[t,ti] ty #[.slice (some ⟨g,0,none⟩) n cap,.int .i64 (m:Int)]).run P w=.ok (.slice (some ⟨g,0,none⟩) (n+m) cap) (w.setRow g (cur.toList.take n++List.replicate m v0++cur.toList.drop (n+(List.replicate m v0).length)).toArray):=by
   simp[Builtin.append_,run_underlying ht,run_underlying hti,sizeOf,typeInfo,zeroValue,hi,hz,hzc,hsz,asInt,asIntOf,hwrap,hl0,hb48,hmz,hroom,hzl,Addr.add_lit,hst]
  refine⟨_,_,hr,⟨hlen,.inr ⟨g,cap,_,rfl,hbg,setRow_heap w g cur _ e _ hg,hroom,hcm,?_,?_⟩⟩,⟨rfl,rfl,rfl,by simp,fun k _ hk=>setRow_other w g k _ (fun e=>hk (by simp[e]))⟩,.inl rfl,?_⟩
  ·simp only[List.size_toArray,List.length_append,List.length_take,List.length_drop,Array.length_toList,List.length_replicate]at hfit ⊢
   omega
  ·have ht2:cur.toList.take n=xs:=by have:=htake;rwa [Nat.mul_one]at this
   rw[ht2,←hlen]
   exact List.take_left
  ·intro b off hb hlt
   rw[setRow_size]at hlt
   have hbg:g=b:=by
    rcases hb with hb|hb
    ·injection hb
    ·omega
   subst hbg
   simp[World.frozen?,setRow_heap w g cur _ e _ hg]
 ·have holds:∀j u,xs[j]? = some u→w.cell? ((⟨g,0,none⟩:Addr).add j)=some u:=hown.cells (g:=g) rfl
  have hn:¬(n+m≤cap):=hroom
  have h63':¬(9223372036854775807<((n:Int)+(m:Int))):=by omega
  have h48':¬(281474976710656<Builtin.nextslicecap (n+m) cap*i.bytes):=by have:=growslice_fits (need:=n+m) (old:=cap) (by omega) hbytes;omega
  have hfo:=run_firstCells_some (P:=P) w.drew 1 n ⟨g,0,none⟩ n cap xs hown.1 (by simpa using holds)
  have hr:(Builtin.append_ #[t,ti] ty #[.slice (some ⟨g,0,none⟩) n cap,.int .i64 (m:Int)]).run P w=.ok (.slice (some ⟨w.heap.size,0,none⟩) (n+m) (grownCap w (n+m) cap e)) (w.drew.alloc (.cells (xs.toArray++(List.replicate m v0).toArray++Builtin.zeroCells z.cells (grownCap w (n+m) cap e-(n+m))) e)):=by
   have hza:Builtin.zeroCells #[v0] m=(List.replicate m v0).toArray:=by rw[←hzl]
   simp[Builtin.append_,run_underlying ht,run_underlying hti,sizeOf,typeInfo,zeroValue,hi,hz,hzc,hsz,asInt,asIntOf,hwrap,hl0,hb48,hmz,hn,h63',h48',Question.forced,hfo,newRow,grownCap,hza]
  have hge:=grownCap_ge w (n+m) cap e
  have hcm2:grownCap w (n+m) cap e≤maxLen:=grownCap_le_maxLen w (n+m) cap e h63
  refine⟨_,_,hr,⟨hlen,.inr ⟨w.heap.size,_,_,rfl,Nat.zero_le _,heap_alloc_new w.drew _,hge,hcm2,?_,?_⟩⟩,⟨rfl,rfl,rfl,by simp,fun k hk _=>heap_alloc_old w.drew _ hk⟩,.inr rfl,?_⟩
  ·simp only[Array.size_append,List.size_toArray,size_zeroCells,hzc,hown.1,List.length_replicate]
   simp
   omega
  ·simp only[Array.toList_append,List.append_assoc]
   rw[←List.append_assoc,←hlen]
   exact List.take_left
  ·intro b off hb hlt
   rcases hb with hb|hb
   ·injection hb with hb
    subst hb
    have hgl:g<w.drew.heap.size:=(Array.getElem?_eq_some_iff.1 hg).1
    rw[World.frozen?_of_block (w:=w.drew) (heap_alloc_old w.drew _ hgl)]
    have:w.drew.heap[g]? = some (.cells cur e (0,0)):=hg
    simp[World.frozen?,this]
   ·exact frozen_new (w:=w.drew) b off (.inr hb) hlt
end
section
variable {P:Program}{N:Nat}{τ:Nat→AV}{H:Nat→AO}{o:Oper}
theorem St.appZ(id:Nat){t ti e:TypeId}{s x:Operand}{d m:Nat}{n:Int}{v0:Value}{rows:List (List PV)}{pn:Option Value}(ho:o.op=.call { callee:=.builtin .append,args:=#[s,x],argTypes:=#[t,ti] })(hd:o.dst=some d)(ht:d<N)(he:elA P t=some (e,1))(hz:zeroA P e=some [v0])(hv0:v0.oneCell'=true)(hti:intKind P ti=some .i64)
 (hs:ev τ s=.own id) (hH:H id=.arr ⟨e,pn⟩ 1 rows) (hx:ev τ x=.p (.v (.int .i64 n))) (hn:n=(m:Int)) (h0:0<rows.length) (hm0:0<m) (hm:rows.length+m≤maxLen) (hb:(rows.length+m)*P.bytesOf e≤140737488355328) :
 St P o N τ H [id] (upd (fun s=>kil (one? id) (τ s)) d (.own id)) (upd (fun j=>(H j).kil (one? id)) id (.arr e 1 (rows++List.replicate m [.v v0]))):=by
 subst hn
 obtain⟨i,z,i1,i2,i3,i4,i5⟩:=info_of hz
 obtain⟨q1,_,q3⟩:=elA_spec he
 have hsi:i.size=1:=i4.trans q3
 have hti':P.underlying ti=some (.int .i64):=by unfold intKind at hti;split at hti<;>simp_all
 have this:St P o N τ H [id] (updo (fun s=>kil (one? id) (τ s)) o.dst (.own id)) (upd (fun j=>(H j).kil (one? id)) id (.arr e 1 (rows++List.replicate m [.v v0]))):=St.turn id (one? id) (.own id) _ [id] (fun s hs=>by rw[hd]at hs;cases hs;exact ht) (fun{L O w0 ρ fp a w} hr=>by
  have es:=hr.ev s
  rw[hs,RV]at es
  have es:=es.2 (by rw[hH];rfl)
  have ex:=(hr.ev x)
  rw[hx]at ex
  have ex:=ex.v_eq
  have hob:=hr.ob id
  rw[hH]at hob
  obtain⟨xs,fr,b1,b2,b3,b4,_⟩:=hob
  obtain⟨g,cap,hg⟩:∃g cap,ρ id=.slice (some ⟨g,0,none⟩) rows.length cap:=by
   rcases b3.2 with⟨_,q⟩|⟨g,cap,cur,q,_⟩
   ·omega
   ·exact⟨g,cap,q⟩
  rw[hg]at b3
  obtain⟨v',w',r1,r2,r3,r4,r5⟩:=appZ_run (P:=P) (ty:=o.type) q1 hti' i1 i2 (v0:=v0) (by rw[i3]) hsi hv0 b3 hm0 hm (by rw[i5];exact hb)
  have hgo:(ρ id).ownBlock=some g:=by rw[hg];rfl
  refine⟨w',v',(ρ id).ownBlock,v',_,?_,.inl rfl,by rw[hgo];exact r3,fun b hb=>⟨by simp,by rw[hH];rfl,hb⟩,fun b off h=>by rw[hgo]at h;exact r5 b off h,fun hk=>(by simp[one?]at hk),fun b hb=>?_,fun E=>⟨?_,?_⟩⟩
  ·simp only[execOp,ho,resolve,invoke,builtin,Sem.run_bind,Sem.run_pure,Result.andThen_ok,List.map_toArray,List.map_cons,List.map_nil,es,hg,ex,r1]
  ·rcases r4 with q|q
   ·exact .inr ⟨by rw[hH];rfl,by rw[hgo,←q];exact hb⟩
   ·rw[q]at hb;injection hb with hb;exact .inl (Nat.le_of_eq hb)
  ·obtain⟨k1,k2⟩:=RWR.keep E b1 b2
   have k3:RWR w' false 1 (List.replicate m [PV.v v0]) (List.replicate m v0) []:=by
    have:=RWR.rep (w:=w') (st:=false) (zs:=[v0]) (by intro u hu;rw[List.mem_singleton.1 hu];exact hv0) m
    have e:(List.replicate m [v0]).flatten=List.replicate m v0:=flat_one v0 m
    rw[e]at this
    exact this
   refine⟨xs++List.replicate m v0,fr++[],RWR.append k1 k3,fun b hb=>?_,?_,rfl,fun u hu=>by cases hu⟩
   ·rw[List.append_nil]at hb;exact k2 b hb
   ·rw[List.length_append,List.length_replicate]
    exact r2
  ·rw[RV,upd_same,upd_same]
   have:v'.oneCell'=true:=by
    rcases r2.2 with⟨q,_⟩|⟨g,cap,cur,q,_⟩<;>rw[q]<;>rfl
   exact⟨this,fun _=>rfl⟩)
 rw[hd]at this
 exact this
end

section
variable {P:Program}{f:FuncId}{args:List AV}{i sz:Nat}{e:TypeId}{rows:List (List PV)}
theorem GC.frz1(h:GC P f args [] (.own i) [(i,.arr ⟨e,none⟩ sz rows)]):GC P f args [] (.p (.lst e sz rows)) []:=
 (GX.frozen (Z:=fun y=>y=.p (.lst e sz rows)) h fun x ob ⟨h1,h2⟩=>by
   subst h1 h2
   exact⟨_,Still.row (e:=⟨e,none⟩) (sz:=sz) (rows:=rows) (by simp[ofO]),rfl⟩).mono fun y o ⟨e1,e2⟩=>⟨e2,e1⟩
theorem GC.frz2{x2:PV}(h:GC P f args [] (.tup [.own i,.p x2]) [(i,.arr ⟨e,none⟩ sz rows)]):GC P f args [] (.tup [.p (.lst e sz rows),.p x2]) []:=
 (GX.frozen (Z:=fun y=>y=.tup [.p (.lst e sz rows),.p x2]) h fun x ob ⟨h1,h2⟩=>by
   subst h1 h2
   exact⟨_,Still.tup (.cons (Still.row (e:=⟨e,none⟩) (sz:=sz) (rows:=rows) (by simp[ofO])) (.cons (Still.p _) .nil)),rfl⟩).mono fun y o ⟨e1,e2⟩=>⟨e2,e1⟩
def oneR(e:TypeId)(sz:Nat)(rows:List (List PV)):AV→List (Nat×AO)→List AO→Prop:=fun y l1 F1=>∃v,y=.p (.v v)∧l1=[]∧F1=[.arr ⟨e,some v⟩ sz rows]
theorem GC.fam1(h:GC P f args [] (.own i) [(i,.arr ⟨e,none⟩ sz rows)])(hfl:∀r∈rows,∀p∈r,∃v,p=PV.v v):GN P f args [] [] (oneR e sz rows):=by
 intro L w cs ρ fp hL hargs hob hdj hLf
 refine Calls.mono (h L w cs ρ fp hL hargs hob hdj hLf) ?_
 rintro en w' ⟨x,ob1,⟨rfl,rfl⟩,v,ρ',fp',rfl,g1,g2,g3,g4,g5⟩
 have hi:ofO [(i,AO.arr ⟨e,none⟩ sz rows)] i=.arr ⟨e,none⟩ sz rows:=by simp[ofO]
 rw[RV]at g2
 have hv1:=g2.1
 have hv:=g2.2 (by rw[hi];rfl)
 have h3:=g3 i
 rw[hi]at h3
 obtain⟨xs,fr,k1,k2,k3,k4,_⟩:=h3
 have hfr:=k1.flat_fp hfl
 subst hfr
 refine⟨.p (.v v),famL 1000000 [.arr ⟨e,some v⟩ sz rows],⟨[],[.arr ⟨e,some v⟩ sz rows],rfl,fun o ho=>by rw[List.mem_singleton.1 ho];rfl,by simp,rfl,v,rfl,rfl,rfl⟩,v,(fun j=>if j=1000000 then v else undef),(fun j=>if j=1000000 then fp' i else []),rfl,g1,?_,fun j=>?_,fun j j' hj b hb hb'=>?_,fun j b hb=>?_⟩
 ·exact RV.v_mk hv1
 ·by_cases q:j=1000000
  ·subst q
   simp only[if_true]
   have e1:ofO (famL 1000000 [.arr ⟨e,some v⟩ sz rows]) 1000000=.arr ⟨e,some v⟩ sz rows:=by rw[famL_at];simp
   rw[e1]
   exact⟨xs,[],k1,by simp,by rw[hv];exact k3,by rw[hv];exact k4,fun u hu=>by injection hu⟩
  ·have e1:ofO (famL 1000000 [AO.arr ⟨e,some v⟩ sz rows]) j=.gone:=by
    rw[famL_at]
    by_cases z:1000000≤j
    ·rw[if_pos z,List.getElem?_eq_none (by simp;omega)];rfl
    ·rw[if_neg z]
   rw[e1]
   show (if j=1000000 then fp' i else [])=[]
   rw[if_neg q]
 ·have hb1:b∈(if j=1000000 then fp' i else []):=hb
  have hb2:b∈(if j'=1000000 then fp' i else []):=hb'
  by_cases q:j=1000000
  ·by_cases q':j'=1000000
   ·omega
   ·rw[if_neg q']at hb2;cases hb2
  ·rw[if_neg q]at hb1;cases hb1
 ·have hb1:b∈(if j=1000000 then fp' i else []):=hb
  by_cases q:j=1000000
  ·rw[if_pos q]at hb1;exact g5 i b hb1
  ·rw[if_neg q]at hb1;cases hb1
end

-- ---------- numbers as bytes
def numB:Nat→Int→List Int
 |0,_=>[]
 |k+1,n=>n/256 ^ k%256::numB k n
theorem numB_length(n:Int):∀k,(numB k n).length=k
 |0=>rfl
 |k+1=>by rw[numB,List.length_cons,numB_length n k]
theorem numB_ok(n:Int):∀k,BytesOk (numB k n)
 |0=>fun b hb=>by cases hb
 |k+1=>fun b hb=>by
  rw[numB]at hb
  rcases List.mem_cons.1 hb with rfl|hb
  ·omega
  ·exact numB_ok n k b hb
theorem numB_get(n:Int):∀(k j:Nat),j<k→(numB k n)[j]? = some (n/256 ^ (k-1-j)%256)
 |0,j,h=>absurd h (by omega)
 |k+1,0,_=>by rw[numB];simp
 |k+1,j+1,h=>by
  rw[numB,List.getElem?_cons_succ,numB_get n k j (by omega),show k+1-1-(j+1)=k-1-j by omega]
theorem numB_take{n:Int}{k j:Nat}(h:j<k):(numB k n).take (j+1)=(numB k n).take j++[n/256 ^ (k-1-j)%256]:=by
 have hl:j<(numB k n).length:=by rw[numB_length];exact h
 rw[List.take_succ_eq_append_getElem hl]
 have:=numB_get n k j h
 rw[List.getElem?_eq_getElem hl]at this
 injection this with this
 rw[this]
def valB(l:List Int):Int:=l.foldl (fun n x=>n*256+x) 0
theorem valB_snoc(l:List Int)(x:Int):valB (l++[x])=valB l*256+x:=by unfold valB;rw[List.foldl_append];rfl
theorem valB_bd:∀(l:List Int) (a:Int),BytesOk l→0≤a→0≤l.foldl (fun n x=>n*256+x) a∧l.foldl (fun n x=>n*256+x) a<(a+1)*256 ^ l.length
 |[],a,_,ha=>by simp;omega
 |x::l,a,h,ha=>by
  have hx:=h x (by simp)
  have ih:=valB_bd l (a*256+x) (fun b hb=>h b (by simp[hb])) (by omega)
  rw[List.foldl_cons,List.length_cons,Int.pow_succ]
  refine⟨ih.1,Int.lt_of_lt_of_le ih.2 ?_⟩
  have h1:a*256+x+1≤(a+1)*256:=by omega
  have h2:(0:Int)≤256 ^ l.length:=Int.pow_nonneg (by omega)
  have:=Int.mul_le_mul_of_nonneg_right h1 h2
  rw[Int.mul_assoc,Int.mul_comm 256]at this
  exact this
theorem valB_fold:∀(k:Nat) (n a:Int),0≤n→n<256 ^ k→(numB k n).foldl (fun n x=>n*256+x) a=a*256 ^ k+n
 |0,n,a,h0,h1=>by
  have:n=0:=by simp at h1;omega
  subst this;simp[numB]
 |k+1,n,a,h0,h1=>by
  rw[numB,List.foldl_cons]
  have hp:(0:Int)<256 ^ k:=Int.pow_pos (by omega)
  have e1:n/256 ^ k%256=n/256 ^ k:=by
   refine Int.emod_eq_of_lt (Int.ediv_nonneg h0 (by omega)) (Int.ediv_lt_of_lt_mul hp ?_)
   rw[Int.pow_succ,Int.mul_comm]at h1;exact h1
  have e2:∀(j:Nat) (m:Int),j≤k→numB j m=numB j (m%256 ^ k):=by
   intro j
   induction j with
   |zero=>intro m _;rfl
   |succ j ih=>
    intro m hj
    rw[numB,numB,ih m (by omega)]
    congr 1
    have hj2:(256:Int) ^ k=256 ^ (j+1)*256 ^ (k-(j+1)):=by rw[←Int.pow_add];congr 1;omega
    have hpj:(0:Int)<256 ^ j:=Int.pow_pos (by omega)
    have key:m%256 ^ k=m-256 ^ j*(256*(256 ^ (k-(j+1))*(m/256 ^ k))):=by
     rw[Int.emod_def,hj2,Int.pow_succ]
     simp only[Int.mul_assoc]
    rw[key,Int.sub_mul_ediv_left _ _ (by omega),Int.sub_mul_emod_self_left]
  rw[e2 k n (Nat.le_refl _),valB_fold k (n%256 ^ k) _ (Int.emod_nonneg _ (by omega)) (Int.emod_lt_of_pos _ hp),e1,Int.pow_succ,Int.add_mul,Int.mul_assoc,Int.mul_comm 256]
  have:=Int.mul_ediv_add_emod n (256 ^ k)
  rw[Int.mul_comm (n/256 ^ k)]
  omega
theorem valB_numB{k:Nat}{n:Int}(h0:0≤n)(h1:n<256 ^ k):valB (numB k n)=n:=by
 unfold valB;rw[valB_fold k n 0 h0 h1];omega
end Go.Proofs.Yteblcdnhnckkaaa

namespace Go.Proofs.Yteblcdnhnckkaaa.ty
open Go Go.Proofs Go.Proofs.Yteblcdnhnckkaaa
theorem kd3:kindA Try.prog 3=some none:=by kernel_rfl
theorem co3:Try.prog.cellsOf 3=1:=by kernel_rfl
theorem by3:Try.prog.bytesOf 3≤512:=Nat.le_of_ble_eq_true (by kernel_rfl)
theorem inf3:(Try.prog.info? 3).isSome=true:=by kernel_rfl
theorem ik3:intKind Try.prog 3=some .i64:=by kernel_rfl
theorem ze3:zeroA Try.prog 3=some [.int .i64 0]:=by kernel_rfl
theorem kd4:kindA Try.prog 4=some none:=by kernel_rfl
theorem co4:Try.prog.cellsOf 4=1:=by kernel_rfl
theorem inf4:(Try.prog.info? 4).isSome=true:=by kernel_rfl
theorem ze4:zeroA Try.prog 4=some [.bool false]:=by kernel_rfl
theorem kd5:kindA Try.prog 5=some none:=by kernel_rfl
theorem co5:Try.prog.cellsOf 5=1:=by kernel_rfl
theorem by5:Try.prog.bytesOf 5≤512:=Nat.le_of_ble_eq_true (by kernel_rfl)
theorem inf5:(Try.prog.info? 5).isSome=true:=by kernel_rfl
theorem ik5:intKind Try.prog 5=some .u8:=by kernel_rfl
theorem ze5:zeroA Try.prog 5=some [.int .u8 0]:=by kernel_rfl
theorem kd31:kindA Try.prog 31=some none:=by kernel_rfl
theorem co31:Try.prog.cellsOf 31=1:=by kernel_rfl
theorem inf31:(Try.prog.info? 31).isSome=true:=by kernel_rfl
theorem el31:elA Try.prog 31=some (115,1):=by kernel_rfl
theorem sl31:isSlice Try.prog 31=true:=by kernel_rfl
theorem kd32:kindA Try.prog 32=some none:=by kernel_rfl
theorem co32:Try.prog.cellsOf 32=1:=by kernel_rfl
theorem inf32:(Try.prog.info? 32).isSome=true:=by kernel_rfl
theorem el32:elA Try.prog 32=some (123,2):=by kernel_rfl
theorem sl32:isSlice Try.prog 32=true:=by kernel_rfl
theorem kd34:kindA Try.prog 34=some (some 2):=by kernel_rfl
theorem co34:Try.prog.cellsOf 34=2:=by kernel_rfl
theorem inf34:(Try.prog.info? 34).isSome=true:=by kernel_rfl
theorem F34_0:FA Try.prog 34 0 0 31:=⟨by kernel_rfl,by rw[show Try.prog.cellsOf 31=1 by kernel_rfl];decide,by kernel_rfl⟩
theorem F34_1:FA Try.prog 34 1 1 32:=⟨by kernel_rfl,by rw[show Try.prog.cellsOf 32=1 by kernel_rfl];decide,by kernel_rfl⟩
theorem ze34:zeroA Try.prog 34=some [.slice none 0 0,.slice none 0 0]:=by kernel_rfl
theorem sa34:structA Try.prog 34=some ([.slice none 0 0,.slice none 0 0],[(0,1),(1,1)]):=by kernel_rfl
theorem kd36:kindA Try.prog 36=some (some 4):=by kernel_rfl
theorem co36:Try.prog.cellsOf 36=4:=by kernel_rfl
theorem inf36:(Try.prog.info? 36).isSome=true:=by kernel_rfl
theorem fl36_0:fldA Try.prog 36 0=some (0,34):=by kernel_rfl
theorem F36_0:FA Try.prog 36 0 0 34:=⟨by kernel_rfl,by rw[show Try.prog.cellsOf 34=2 by kernel_rfl];decide,by kernel_rfl⟩
theorem F36_1:FA Try.prog 36 1 2 3:=⟨by kernel_rfl,by rw[show Try.prog.cellsOf 3=1 by kernel_rfl];decide,by kernel_rfl⟩
theorem F36_2:FA Try.prog 36 2 3 3:=⟨by kernel_rfl,by rw[show Try.prog.cellsOf 3=1 by kernel_rfl];decide,by kernel_rfl⟩
theorem ze36:zeroA Try.prog 36=some [.slice none 0 0,.slice none 0 0,.int .i64 0,.int .i64 0]:=by kernel_rfl
theorem sa36:structA Try.prog 36=some ([.slice none 0 0,.slice none 0 0,.int .i64 0,.int .i64 0],[(0,2),(2,1),(3,1)]):=by kernel_rfl
theorem kd40:kindA Try.prog 40=some (some 7):=by kernel_rfl
theorem co40:Try.prog.cellsOf 40=7:=by kernel_rfl
theorem by40:Try.prog.bytesOf 40≤512:=Nat.le_of_ble_eq_true (by kernel_rfl)
theorem inf40:(Try.prog.info? 40).isSome=true:=by kernel_rfl
theorem F40_0:FA Try.prog 40 0 0 3:=⟨by kernel_rfl,by rw[show Try.prog.cellsOf 3=1 by kernel_rfl];decide,by kernel_rfl⟩
theorem F40_1:FA Try.prog 40 1 1 3:=⟨by kernel_rfl,by rw[show Try.prog.cellsOf 3=1 by kernel_rfl];decide,by kernel_rfl⟩
theorem F40_2:FA Try.prog 40 2 2 3:=⟨by kernel_rfl,by rw[show Try.prog.cellsOf 3=1 by kernel_rfl];decide,by kernel_rfl⟩
theorem F40_3:FA Try.prog 40 3 3 3:=⟨by kernel_rfl,by rw[show Try.prog.cellsOf 3=1 by kernel_rfl];decide,by kernel_rfl⟩
theorem F40_4:FA Try.prog 40 4 4 3:=⟨by kernel_rfl,by rw[show Try.prog.cellsOf 3=1 by kernel_rfl];decide,by kernel_rfl⟩
theorem F40_5:FA Try.prog 40 5 5 3:=⟨by kernel_rfl,by rw[show Try.prog.cellsOf 3=1 by kernel_rfl];decide,by kernel_rfl⟩
theorem F40_6:FA Try.prog 40 6 6 4:=⟨by kernel_rfl,by rw[show Try.prog.cellsOf 4=1 by kernel_rfl];decide,by kernel_rfl⟩
theorem ze40:zeroA Try.prog 40=some [.int .i64 0,.int .i64 0,.int .i64 0,.int .i64 0,.int .i64 0,.int .i64 0,.bool false]:=by kernel_rfl
theorem sa40:structA Try.prog 40=some ([.int .i64 0,.int .i64 0,.int .i64 0,.int .i64 0,.int .i64 0,.int .i64 0,.bool false],[(0,1),(1,1),(2,1),(3,1),(4,1),(5,1),(6,1)]):=by kernel_rfl
theorem el46:elA Try.prog 46=some (40,7):=by kernel_rfl
theorem sl46:isSlice Try.prog 46=true:=by kernel_rfl
theorem kd56:kindA Try.prog 56=some none:=by kernel_rfl
theorem co56:Try.prog.cellsOf 56=1:=by kernel_rfl
theorem inf56:(Try.prog.info? 56).isSome=true:=by kernel_rfl
theorem el56:elA Try.prog 56=some (5,1):=by kernel_rfl
theorem sl56:isSlice Try.prog 56=true:=by kernel_rfl
theorem kd58:kindA Try.prog 58=some none:=by kernel_rfl
theorem co58:Try.prog.cellsOf 58=1:=by kernel_rfl
theorem inf58:(Try.prog.info? 58).isSome=true:=by kernel_rfl
theorem el58:elA Try.prog 58=some (92,3):=by kernel_rfl
theorem sl58:isSlice Try.prog 58=true:=by kernel_rfl
theorem ze58:zeroA Try.prog 58=some [.slice none 0 0]:=by kernel_rfl
theorem kd92:kindA Try.prog 92=some (some 3):=by kernel_rfl
theorem co92:Try.prog.cellsOf 92=3:=by kernel_rfl
theorem by92:Try.prog.bytesOf 92≤512:=Nat.le_of_ble_eq_true (by kernel_rfl)
theorem inf92:(Try.prog.info? 92).isSome=true:=by kernel_rfl
theorem F92_0:FA Try.prog 92 0 0 3:=⟨by kernel_rfl,by rw[show Try.prog.cellsOf 3=1 by kernel_rfl];decide,by kernel_rfl⟩
theorem F92_1:FA Try.prog 92 1 1 3:=⟨by kernel_rfl,by rw[show Try.prog.cellsOf 3=1 by kernel_rfl];decide,by kernel_rfl⟩
theorem F92_2:FA Try.prog 92 2 2 56:=⟨by kernel_rfl,by rw[show Try.prog.cellsOf 56=1 by kernel_rfl];decide,by kernel_rfl⟩
theorem ze92:zeroA Try.prog 92=some [.int .i64 0,.int .i64 0,.slice none 0 0]:=by kernel_rfl
theorem sa92:structA Try.prog 92=some ([.int .i64 0,.int .i64 0,.slice none 0 0],[(0,1),(1,1),(2,1)]):=by kernel_rfl
theorem el112:elA Try.prog 112=some (3,1):=by kernel_rfl
theorem sl112:isSlice Try.prog 112=true:=by kernel_rfl
theorem kd115:kindA Try.prog 115=some (some 1):=by kernel_rfl
theorem co115:Try.prog.cellsOf 115=1:=by kernel_rfl
theorem by115:Try.prog.bytesOf 115≤512:=Nat.le_of_ble_eq_true (by kernel_rfl)
theorem inf115:(Try.prog.info? 115).isSome=true:=by kernel_rfl
theorem F115_0:FA Try.prog 115 0 0 56:=⟨by kernel_rfl,by rw[show Try.prog.cellsOf 56=1 by kernel_rfl];decide,by kernel_rfl⟩
theorem ze115:zeroA Try.prog 115=some [.slice none 0 0]:=by kernel_rfl
theorem sa115:structA Try.prog 115=some ([.slice none 0 0],[(0,1)]):=by kernel_rfl
theorem kd123:kindA Try.prog 123=some (some 2):=by kernel_rfl
theorem co123:Try.prog.cellsOf 123=2:=by kernel_rfl
theorem by123:Try.prog.bytesOf 123≤512:=Nat.le_of_ble_eq_true (by kernel_rfl)
theorem inf123:(Try.prog.info? 123).isSome=true:=by kernel_rfl
theorem F123_0:FA Try.prog 123 0 0 3:=⟨by kernel_rfl,by rw[show Try.prog.cellsOf 3=1 by kernel_rfl];decide,by kernel_rfl⟩
theorem F123_1:FA Try.prog 123 1 1 56:=⟨by kernel_rfl,by rw[show Try.prog.cellsOf 56=1 by kernel_rfl];decide,by kernel_rfl⟩
theorem ze123:zeroA Try.prog 123=some [.int .i64 0,.slice none 0 0]:=by kernel_rfl
theorem sa123:structA Try.prog 123=some ([.int .i64 0,.slice none 0 0],[(0,1),(1,1)]):=by kernel_rfl
theorem el140:elA Try.prog 140=some (4,1):=by kernel_rfl
theorem F160_0:FA Try.prog 160 0 0 56:=⟨by kernel_rfl,by rw[show Try.prog.cellsOf 56=1 by kernel_rfl];decide,by kernel_rfl⟩
theorem F160_1:FA Try.prog 160 1 1 3:=⟨by kernel_rfl,by rw[show Try.prog.cellsOf 3=1 by kernel_rfl];decide,by kernel_rfl⟩
theorem F160_2:FA Try.prog 160 2 2 3:=⟨by kernel_rfl,by rw[show Try.prog.cellsOf 3=1 by kernel_rfl];decide,by kernel_rfl⟩
theorem sa160:structA Try.prog 160=some ([.slice none 0 0,.int .i64 0,.int .i64 0],[(0,1),(1,1),(2,1)]):=by kernel_rfl
theorem sf40 : Try.prog.fieldsOf 40 = ([{ name := "Kind",type := 3,offset := 0,embedded := false,tag := "",pkgPath := "",byteOffset := 0 },{ name := "Key",type := 3,offset := 1,embedded := false,tag := "",pkgPath := "",byteOffset := 8 },{ name := "Ch",type := 3,offset := 2,embedded := false,tag := "",pkgPath := "",byteOffset := 16 },{ name := "To",type := 3,offset := 3,embedded := false,tag := "",pkgPath := "",byteOffset := 24 },{ name := "Amt",type := 3,offset := 4,embedded := false,tag := "",pkgPath := "",byteOffset := 32 },{ name := "Fee",type := 3,offset := 5,embedded := false,tag := "",pkgPath := "",byteOffset := 40 },{ name := "Yes",type := 4,offset := 6,embedded := false,tag := "",pkgPath := "",byteOffset := 48 }] : List Field).toArray := by unfold Program.fieldsOf;rw [Try.underlying40]
theorem su40:Try.prog.underlying 40=some (.struct (Try.prog.fieldsOf 40)):=by rw[sf40];exact Try.underlying40
theorem sh40:Try.prog.stoodInHeld 40=false:=by kernel_rfl
theorem sg40:Try.prog.eqGuardType Try.prog.depth 40=false:=by kernel_rfl
end Go.Proofs.Yteblcdnhnckkaaa.ty

namespace Go.Proofs.Yteblcdnhnckkaaa
open Go.RowKit
set_option maxHeartbeats 16000000
set_option maxRecDepth 100000
set_option linter.unusedSimpArgs false
set_option linter.unusedVariables false
def lessA(a b:Acc):Bool:=decide (a.kind<b.kind)||((a.kind==b.kind)&&decide (a.ch<b.ch))
def rangeA(n:Int):Bool:=inB n (-1125899906842624) 1125899906842624
theorem dec_beq(x y:Int):decide (x=y)=(x==y):=by by_cases h:x=y<;>simp[h]
theorem in_e(a b c:Int):GC Try.prog 47 [int a,int b,int c] [] (boo (inB a b c)) []:=by
 refine gi 6 Try.func47 rfl Try.ntmps47 rfl ?_
 intro L O w0
 refine sL<|laZ Z<|nA<|lmI Z<|lmI Z<|lbB Z<|lmB Z ?_
 refine AL.bool (t:=10) rfl ?_ ?_
 ·intro h1
  refine lmI Z<|lmI Z<|lbB Z<|lkB Z<|laB Z<|nG<|aR ?_
  refine eBo trivial ?_
  first|rfl|(simp_all[inB];done)|(simp_all[inB];omega)
 ·intro h1
  refine lno Z<|lno Z<|lno Z<|lkZ Z<|laZ Z<|nG<|aR ?_
  refine eBo trivial ?_
  first|rfl|(simp_all[inB];done)|(simp_all[inB];omega)

abbrev u64(n:Int):AV:=.p (.v (.int .u64 n))
theorem amtOk_e(n:Int):GC Try.prog 94 [int n] [] (boo (amtOk n)) []:=GC.of_vals (r:=.bool (amtOk n)) (RV.v_mk rfl) rfl fun w=>(impl_AmtOk_c n w).mono fun e w' h=>⟨h.1,h.2▸Grow.refl _⟩
theorem wrap64_eq(n:Int):IntKind.u64.wrap n=n%18446744073709551616:=by simp[IntKind.wrap,IntKind.signed,IntKind.bits]
theorem hw(a b c:Int):IntKind.u64.wrap (IntKind.u64.wrap (IntKind.u64.wrap a+b)-IntKind.u64.wrap c)=(a+b-c)%18446744073709551616:=by
 rw[wrap64_eq,wrap64_eq,wrap64_eq,wrap64_eq];omega

structure BookWf(x:Book):Prop where
 chans:∀c∈x.chans,wfChan c
 htlcs:∀c∈x.htlcs,wfHtlc c
 circles:∀c∈x.circles,wfCircle c
 len:x.chans.length≤1048576
theorem RVL.two{L:Nat→Prop}{ρ:Nat→Value}{H:Nat→AO}{w:World}{x y:AV}{cs:List Value}(h:RVL L ρ H w [x,y] cs):∃c d,cs=[c,d]∧RV L ρ H w x c∧RV L ρ H w y d:=by
 simp only[RVL]at h
 obtain⟨c,r,rfl,h1,d,r',rfl,h2,rfl⟩:=h
 exact⟨c,d,rfl,h1,h2⟩

def hOne(ch:Int)(h:Htlc):Int:=if h.out=ch then 1 else 0
def SmallH(l:List Htlc):Prop:=l.length≤60∧∀h∈l,0≤h.amtOut∧h.amtOut≤1125899906842624
theorem SmallH.at{l:List Htlc}(s:SmallH l){k:Nat}(hk:k<l.length):0≤l[k].amtOut∧l[k].amtOut≤1125899906842624:=s.2 _ (List.getElem_mem hk)
theorem SmallH.all{l:List Htlc}(s:SmallH l)(ch:Int)(k:Nat):0≤tot (hOut ch) (l.take k)∧tot (hOut ch) (l.take k)≤60*1125899906842624:=tot_lim 60 (by decide) (fun h hh=>by have:=s.2 h hh;unfold hOut;split<;>omega) s.1 k
theorem SmallH.one{l:List Htlc}(s:SmallH l)(ch:Int)(k:Nat):0≤tot (hOne ch) (l.take k)∧tot (hOne ch) (l.take k)≤60*1:=tot_lim 60 (by decide) (fun h hh=>by unfold hOne;split<;>omega) s.1 k

def insL:List Line→Line→List Line
 |[],x=>[x]
 |y::l,x=>if lessA y.acc x.acc then y::insL l x else x::y::l
def addL(l:List Line)(k c n:Int):List Line:=if n=0 then l else insL l ⟨⟨k,c⟩,n⟩
theorem mem_insL{y x:Line}:∀ {l:List Line},y∈insL l x→y∈l∨y=x
 |[],h=>by simp[insL]at h;exact .inr h
 |z::l,h=>by
  unfold insL at h
  split at h
  ·rcases List.mem_cons.1 h with h|h
   ·exact .inl (by simp[h])
   ·rcases mem_insL h with h|h
    ·exact .inl (by simp[h])
    ·exact .inr h
  ·rcases List.mem_cons.1 h with h|h
   ·exact .inr h
   ·exact .inl h
theorem insL_length(x:Line):∀(l:List Line),(insL l x).length=l.length+1
 |[]=>rfl
 |z::l=>by unfold insL;split<;>simp[insL_length x l]
theorem mem_addL{y:Line}{l:List Line}{k c n:Int}(h:y∈addL l k c n):y∈l∨(y.acc.kind=k∧y.acc.ch=c∧y.amt=n):=by
 unfold addL at h
 split at h
 ·exact .inl h
 ·rcases mem_insL h with h|rfl
  ·exact .inl h
  ·exact .inr ⟨rfl,rfl,rfl⟩
structure LG(l:List Line)(m:Nat):Prop where
 len:l.length≤m
 rng:∀y∈l,rangeA y.amt=true
def Fresh(l:List Line)(k c:Int):Prop:=∀y∈l,¬(y.acc.kind=k∧y.acc.ch=c)
theorem LG.nil:LG [] 0:=⟨Nat.le_refl _,by simp⟩
theorem LG.add{l:List Line}{m:Nat}{k c n:Int}(h:LG l m)(hn:rangeA n=true):LG (addL l k c n) (m+1):=by
 refine⟨?_,fun y hy=>?_⟩
 ·unfold addL
  split
  ·have:=h.len;omega
  ·rw[insL_length];have:=h.len;omega
 ·rcases mem_addL hy with q|q
  ·exact h.rng y q
  ·rw[q.2.2];exact hn
theorem Fresh.nil(k c:Int):Fresh [] k c:=by simp[Fresh]
theorem Fresh.add{l:List Line}{k c k' c' n:Int}(h:Fresh l k c)(hd:k'≠k∨c'≠c):Fresh (addL l k' c' n) k c:=fun y hy q=>by
 rcases mem_addL hy with r|r
 ·exact h y r q
 ·omega
structure WR where
 b:Book
 l:List Line
 c:Int
abbrev evV(e:Event):AV:=.agg [int e.kind,int e.key,int e.ch,int e.to,int e.amt,int e.fee,boo e.yes]

def encBool(b:Bool):List Value:=[.bool b]
def hK(k:Int):Bool:=!decide (k=1∨k=2∨k=3∨k=4∨k=8)
def hC(k:Int):Bool:=decide (k=2∨k=3∨k=4∨k=5∨k=9)
def hT(k:Int):Bool:=decide (k=5∨k=9)
def hA(k:Int):Bool:=decide (k=1∨k=2∨k=4∨k=5∨k=9)
def hF(k:Int):Bool:=decide (k=2∨k=3∨k=4∨k=9)
def hY(k:Int):Bool:=decide (k=5)
def fieldB(has:Bool)(n lo hi:Int):Bool:=if has then inB n lo hi else n==0
def eventOk(e:Event):Bool:=inB e.kind 1 11&&fieldB (hK e.kind) e.key 1 1000000&&fieldB (hC e.kind) e.ch 1 99&&fieldB (hT e.kind) e.to 1 99&&!(hT e.kind&&e.ch==e.to) &&
 fieldB (hA e.kind) e.amt (if e.kind=4 then 0 else 1) 1125899906842624&&fieldB (hF e.kind) e.fee 0 (if e.kind=4 then 1000000 else 1125899906842624)&&(hY e.kind||!e.yes)
theorem evAmt{e:Event}(h:eventOk e=true):amtOk e.amt=true∧amtOk e.fee=true:=by
 unfold eventOk at h
 simp only[Bool.and_eq_true]at h
 obtain⟨⟨⟨_,h1⟩,h2⟩,_⟩:=h
 rw[amtOk_true,amtOk_true]
 unfold fieldB at h1 h2
 constructor
 ·split at h1
  ·have:=inB_true.1 h1
   split at this<;>omega
  ·simp at h1;omega
 ·split at h2
  ·have:=inB_true.1 h2
   split at this<;>omega
  ·simp at h2;omega
theorem evNone{e:Event}(h:¬(1≤e.kind∧e.kind≤11)):eventOk e=false:=by
 unfold eventOk
 rw[show inB e.kind 1 11=false from by rw[inB_false];omega]
 rfl
theorem isKey_e(n:Int):GC Try.prog 96 [int n] [] (boo (keyOk n)) []:=GC.of_vals (r:=.bool (keyOk n)) (RV.v_mk rfl) rfl fun w=>(isKey_c n w).mono fun e w' h=>⟨h.1,h.2▸Grow.refl _⟩
theorem isChan_e(n:Int):GC Try.prog 95 [int n] [] (boo (chOk n)) []:=GC.of_vals (r:=.bool (chOk n)) (RV.v_mk rfl) rfl fun w=>(isChan_c n w).mono fun e w' h=>⟨h.1,h.2▸Grow.refl _⟩
theorem sfield_e(has:Bool)(n lo hi:Int):GC Try.prog 90 [boo has,int n,int lo,int hi] [] (boo (fieldB has n lo hi)) []:=by
 refine gi 8 Try.func90 rfl Try.ntmps90 rfl ?_
 intro L O w0
 refine sL<|laZ Z<|nG<|aS<|sL<|lmB Z<|luB Z<|nG ?_
 refine AW.cond rfl ?_ ?_
 ·intro h1
  refine sL<|lmI Z<|lbB Z<|laB Z<|nG<|aR<|rT ?_
  refine eBo trivial ?_
  unfold fieldB inB
  first|(simp_all;done)|(simp_all[dec_beq];done)|(simp_all;intros;omega)
 ·intro h1
  refine aK<|gA<|lmI Z<|lmI Z<|lbB Z<|lmB Z ?_
  refine AL.bool (t:=16) rfl ?_ ?_
  ·intro h2
   refine lmI Z<|lmI Z<|lbB Z<|lkB Z<|laB Z<|nG<|aR ?_
   refine eBo trivial ?_
   unfold fieldB inB
   first|(simp_all;done)|(simp_all[dec_beq];done)|(simp_all;intros;omega)
  ·intro h2
   refine lno Z<|lno Z<|lno Z<|lkZ Z<|laZ Z<|nG<|aR ?_
   refine eBo trivial ?_
   unfold fieldB inB
   first|(simp_all;done)|(simp_all[dec_beq];done)|(simp_all;intros;omega)
theorem shas_e(k:Int):GC Try.prog 89 [int k] [] (.own 60) [(60,.arr 4 1 (rowsOf encBool [hK k,hC k,hT k,hA k,hF k,hY k]))]:=by
 refine gi 2 Try.func89 rfl Try.ntmps89 rfl ?_
 intro L O w0
 refine sL<|laV Z<|nG<|aS<|sL<|lmI Z<|nG<|aB<|sL<|lbB Z<|laB Z<|nG ?_
 refine AW.cond rfl ?_ ?_
 ·intro h1
  refine sL<|lst (zS 60 (rowsOf encBool [false,false,false,true,false,false]) ty.el140 ty.ze4 rfl (by intro r hr;simp only[rowsOf,encBool,List.map_cons,List.map_nil,List.mem_cons,List.not_mem_nil,or_false]at hr;rcases hr with h|h|h|h|h|h<;>(subst h;rfl))) Z<|laO Z<|nG<|aR<|rB<|rT ?_
  refine end_ret ?_ ⟨(congrArg (fun l=>AO.arr 4 1 (rowsOf encBool l)) (by unfold hK hC hT hA hF hY;simp_all)),trivial⟩
  rfl
 ·intro h1
  refine aS<|sL<|lbB Z<|laB Z<|nG ?_
  refine AW.cond rfl ?_ ?_
  ·intro h2
   refine asB 7 true rfl h2<|aK<|gT<|aY Z<|sL<|lst (zS 60 (rowsOf encBool [false,true,false,true,true,false]) ty.el140 ty.ze4 rfl (by intro r hr;simp only[rowsOf,encBool,List.map_cons,List.map_nil,List.mem_cons,List.not_mem_nil,or_false]at hr;rcases hr with h|h|h|h|h|h<;>(subst h;rfl))) Z<|laO Z<|nG<|aR<|rB<|rT ?_
   refine end_ret ?_ ⟨(congrArg (fun l=>AO.arr 4 1 (rowsOf encBool l)) (by unfold hK hC hT hA hF hY;simp_all)),trivial⟩
   rfl
  ·intro h2
   refine asB 7 false Z h2<|aL<|lbB Z<|laB Z<|nG ?_
   refine AW.cond rfl ?_ ?_
   ·intro h3
    refine sL<|lst (zS 60 (rowsOf encBool [false,true,false,true,true,false]) ty.el140 ty.ze4 rfl (by intro r hr;simp only[rowsOf,encBool,List.map_cons,List.map_nil,List.mem_cons,List.not_mem_nil,or_false]at hr;rcases hr with h|h|h|h|h|h<;>(subst h;rfl))) Z<|laO Z<|nG<|aR<|rB<|rT ?_
    refine end_ret ?_ ⟨(congrArg (fun l=>AO.arr 4 1 (rowsOf encBool l)) (by unfold hK hC hT hA hF hY;simp_all)),trivial⟩
    rfl
   ·intro h3
    refine sL<|lbB Z<|laB Z<|nG ?_
    refine AW.cond rfl ?_ ?_
    ·intro h4
     refine sL<|lst (zS 60 (rowsOf encBool [false,true,false,false,true,false]) ty.el140 ty.ze4 rfl (by intro r hr;simp only[rowsOf,encBool,List.map_cons,List.map_nil,List.mem_cons,List.not_mem_nil,or_false]at hr;rcases hr with h|h|h|h|h|h<;>(subst h;rfl))) Z<|lT [2,13] [60] ?_
     refine laO Z<|nG<|aR<|rB<|rT ?_
     refine end_ret ?_ ⟨(congrArg (fun l=>AO.arr 4 1 (rowsOf encBool l)) (by unfold hK hC hT hA hF hY;simp_all)),trivial⟩
     rfl
    ·intro h4
     refine sL<|lbB Z<|laB Z<|nG ?_
     refine AW.cond rfl ?_ ?_
     ·intro h5
      refine sL<|lst (zS 60 (rowsOf encBool [true,true,true,true,false,true]) ty.el140 ty.ze4 rfl (by intro r hr;simp only[rowsOf,encBool,List.map_cons,List.map_nil,List.mem_cons,List.not_mem_nil,or_false]at hr;rcases hr with h|h|h|h|h|h<;>(subst h;rfl))) Z<|laO Z<|nG<|aR<|rB<|rT ?_
      refine end_ret ?_ ⟨(congrArg (fun l=>AO.arr 4 1 (rowsOf encBool l)) (by unfold hK hC hT hA hF hY;simp_all)),trivial⟩
      rfl
     ·intro h5
      refine sL<|lbB Z<|laB Z<|nG ?_
      refine AW.cond rfl ?_ ?_
      ·intro h6
       refine sL<|lst (zS 60 (rowsOf encBool [true,true,true,true,true,false]) ty.el140 ty.ze4 rfl (by intro r hr;simp only[rowsOf,encBool,List.map_cons,List.map_nil,List.mem_cons,List.not_mem_nil,or_false]at hr;rcases hr with h|h|h|h|h|h<;>(subst h;rfl))) Z<|laO Z<|nG<|aR<|rB<|rT ?_
       refine end_ret ?_ ⟨(congrArg (fun l=>AO.arr 4 1 (rowsOf encBool l)) (by unfold hK hC hT hA hF hY;simp_all)),trivial⟩
       rfl
      ·intro h6
       refine sL<|lbB Z<|laB Z<|nG ?_
       refine AW.cond rfl ?_ ?_
       ·intro h7
        refine sL<|lst (zS 60 (rowsOf encBool [false,false,false,false,false,false]) ty.el140 ty.ze4 rfl (by intro r hr;simp only[rowsOf,encBool,List.map_cons,List.map_nil,List.mem_cons,List.not_mem_nil,or_false]at hr;rcases hr with h|h|h|h|h|h<;>(subst h;rfl))) Z<|laO Z<|nG<|aR<|rB<|rT ?_
        refine end_ret ?_ ⟨(congrArg (fun l=>AO.arr 4 1 (rowsOf encBool l)) (by unfold hK hC hT hA hF hY;simp_all)),trivial⟩
        rfl
       ·intro h7
        refine aK<|gB<|gA<|lst (zS 60 (rowsOf encBool [true,false,false,false,false,false]) ty.el140 ty.ze4 rfl (by intro r hr;simp only[rowsOf,encBool,List.map_cons,List.map_nil,List.mem_cons,List.not_mem_nil,or_false]at hr;rcases hr with h|h|h|h|h|h<;>(subst h;rfl))) Z<|lT [2,23] [60] ?_
        refine laO Z<|nG<|aR ?_
        refine end_ret ?_ ⟨(congrArg (fun l=>AO.arr 4 1 (rowsOf encBool l)) (by unfold hK hC hT hA hF hY;simp_all)),trivial⟩
        rfl
theorem seventOk_e(e:Event):GC Try.prog 42 [evV e] [] (boo (eventOk e)) []:=by
 refine gi 2 Try.func42 rfl Try.ntmps42 rfl ?_
 intro L O w0
 refine sL<|lst (zX 2001 Z) Z<|laZ Z<|nG<|aS<|sL<|lf 0 ty.F40_0 Z<|loI ty.kd3 Z<|lbB Z<|lmB Z ?_
 refine AL.bool (t:=9) rfl ?_ ?_
 ·intro h1
  refine lno Z<|lno Z<|lno Z<|lkT Z<|nG<|aY Z<|sL<|laZ Z<|nG<|aR<|rT ?_
  refine eBo trivial ?_
  unfold eventOk
  first
  |(simp_all;done)
  |(simp_all[inB];done)
  |(simp_all[inB];intros;omega)
 ·intro h1
  refine lf 0 ty.F40_0 Z<|loI ty.kd3 Z<|lbB Z<|lkB Z<|nG ?_
  refine AW.cond rfl ?_ ?_
  ·intro h2
   refine sL<|laZ Z<|nG<|aR<|rT ?_
   refine eBo trivial ?_
   unfold eventOk
   first
   |(simp_all;done)
   |(simp_all[inB];done)
   |(simp_all[inB];intros;omega)
  ·intro h2
   refine aK<|gA<|lf 0 ty.F40_0 Z<|loI ty.kd3 Z<|lst (zC [(60,60)] [60] [] Try.func89 (shas_e _) (trivial) Z Z) Z<|lT [1,2,16] [60,2001] ?_
   refine laO Z<|nA<|laI Z<|nA<|laI Z<|nG ?_
   refine aJ [1,2,3] [60,2001] (D:=Unit) (fun jd=>[(4,int (if e.kind=4 then 0 else 1)),(5,int (if e.kind=4 then 1000000 else 1125899906842624))]) (fun jd=>[]) (fun jd=>True) ?_ ?_
   ·refine sL<|lf 0 ty.F40_0 Z<|loI ty.kd3 Z<|lbB Z<|nG ?_
    refine AW.cond rfl ?_ ?_
    ·intro h3
     refine sL<|laI Z<|nG<|aL<|laI Z<|nG ?_
     refine⟨(),trivial,⟨(Eq.trans (b:=int _) rfl (congrArg int (by rw[if_pos (by simpa using h3)]))),(Eq.trans (b:=int _) rfl (congrArg int (by rw[if_pos (by simpa using h3)]))),trivial⟩,trivial,rfl,rfl⟩
    ·intro h3
     refine aK<|gT ?_
     refine⟨(),trivial,⟨(Eq.trans (b:=int _) rfl (congrArg int (by rw[if_neg (by simpa using h3)]))),(Eq.trans (b:=int _) rfl (congrArg int (by rw[if_neg (by simpa using h3)]))),trivial⟩,trivial,rfl,rfl⟩
   ·intro jd hJ
    refine aS<|aS<|aG 36 []<|tq 0 (rmO rfl)<|tq 1 (rj 0 ty.el140 rfl (by show 0<6;decide))<|tq 2 (rd (x:=vB _) (rd_load_arr rfl ty.kd4 rfl rfl rfl (rfl) rfl) rfl)<|yq 3 (rf 1 ty.F40_1 rfl)<|yq 4 (roI ty.kd3 rfl)<|yst 5 rfl (zL Try.func90 (sfield_e _ _ _ _) rfl)<|yq 6 (ruB rfl)<|yq 7 (rmB rfl) ?_
    refine AG.bool (t:=27) rfl ?_ ?_
    ·intro h4
     refine tno 8 Z<|tno 9 Z<|tno 10 Z<|yno 11 Z<|yno 12 Z<|yno 13 Z<|yno 14 Z<|yq 15 (rkT Z)<|yq 16 (rmT Z)<|tno 17 Z<|tno 18 Z<|tno 19 Z<|yno 20 Z<|yno 21 Z<|yno 22 Z<|yno 23 Z<|yq 24 (rkT Z)<|yq 25 (rmT Z)<|yno 26 Z<|yno 27 Z<|yno 28 Z<|yno 29 Z<|tno 30 Z<|tno 31 Z<|yno 32 Z<|yno 33 Z<|yno 34 Z<|yno 35 Z<|yq 36 (rkT Z)<|gD ?_
     refine gT<|aY Z<|sL<|laZ Z<|nG<|aR<|rT ?_
     refine eBo trivial ?_
     unfold eventOk
     first
     |(simp_all;done)
     |(simp_all[inB];done)
     |(simp_all[inB];intros;omega)
    ·intro h4
     refine tq 8 (rmO rfl)<|tq 9 (rj 1 ty.el140 rfl (by show 1<6;decide))<|tq 10 (rd (x:=vB _) (rd_load_arr rfl ty.kd4 rfl rfl rfl (rfl) rfl) rfl)<|yq 11 (rf 2 ty.F40_2 rfl)<|yq 12 (roI ty.kd3 rfl)<|yst 13 rfl (zL Try.func90 (sfield_e _ _ _ _) rfl)<|gX [1,2,3,4,5,27,33] [60,2001] ?_
     refine yq 14 (ruB Z)<|yq 15 (rkB Z)<|yq 16 (rmB Z) ?_
     refine AG.bool (t:=36) rfl ?_ ?_
     ·intro h5
      refine tno 17 Z<|tno 18 Z<|tno 19 Z<|yno 20 Z<|yno 21 Z<|yno 22 Z<|yno 23 Z<|yq 24 (rkT Z)<|yq 25 (rmT Z)<|yno 26 Z<|yno 27 Z<|yno 28 Z<|yno 29 Z<|tno 30 Z<|tno 31 Z<|yno 32 Z<|yno 33 Z<|yno 34 Z<|yno 35 Z<|yq 36 (rkT Z)<|gD<|gT<|aY Z<|sL<|laZ Z<|nG<|aR<|rT ?_
      refine eBo trivial ?_
      unfold eventOk
      first
      |(simp_all;done)
      |(simp_all[inB];done)
      |(simp_all[inB];intros;omega)
     ·intro h5
      refine tq 17 (rmO rfl)<|tq 18 (rj 2 ty.el140 rfl (by show 2<6;decide))<|tq 19 (rd (x:=vB _) (rd_load_arr rfl ty.kd4 rfl rfl rfl (rfl) rfl) rfl)<|yq 20 (rf 3 ty.F40_3 rfl)<|yq 21 (roI ty.kd3 rfl)<|yst 22 rfl (zL Try.func90 (sfield_e _ _ _ _) rfl)<|yq 23 (ruB rfl)<|yq 24 (rkB rfl)<|yq 25 (rmB rfl) ?_
      refine AG.bool (t:=45) rfl ?_ ?_
      ·intro h6
       refine yno 26 Z<|yno 27 Z<|yno 28 Z<|yno 29 Z<|tno 30 Z<|tno 31 Z<|yno 32 Z<|yno 33 Z<|yno 34 Z<|yno 35 Z<|yq 36 (rkT Z)<|gD<|gT<|aY Z<|sL<|laZ Z<|nG<|aR<|rT ?_
       refine eBo trivial ?_
       unfold eventOk
       first
       |(simp_all;done)
       |(simp_all[inB];done)
       |(simp_all[inB];intros;omega)
      ·intro h6
       refine yq 26 (rmO rfl)<|yq 27 (rj 2 ty.el140 rfl (by show 2<6;decide))<|yq 28 (rd (x:=vB _) (rd_load_arr rfl ty.kd4 rfl rfl rfl (rfl) rfl) rfl)<|yq 29 (rmB rfl) ?_
       refine AG.bool (t:=49) rfl ?_ ?_
       ·intro h7
        refine tq 30 (rf 2 ty.F40_2 Z)<|tq 31 (roI ty.kd3 Z)<|yq 32 (rf 3 ty.F40_3 Z)<|yq 33 (roI ty.kd3 Z)<|yq 34 (rbB Z)<|yq 35 (rkB Z)<|yq 36 (rkB Z)<|gD<|gT ?_
        refine AW.cond rfl ?_ ?_
        ·intro h8
         refine sL<|laZ Z<|lT [1,2,3,4,5] [60,2001] ?_
         refine nG<|aR<|rT ?_
         refine eBo trivial ?_
         unfold eventOk
         first
         |(simp_all;done)
         |(simp_all[inB];done)
         |(simp_all[inB];intros;omega)
        ·intro h8
         refine aK<|gT<|aS<|aG 26 []<|tq 0 (rmO rfl)<|tq 1 (rj 3 ty.el140 rfl (by show 3<6;decide))<|tq 2 (rd (x:=vB _) (rd_load_arr rfl ty.kd4 rfl rfl rfl (rfl) rfl) rfl)<|tq 3 (rf 4 ty.F40_4 rfl)<|tq 4 (roI ty.kd3 rfl)<|yq 5 (rmI rfl)<|yst 6 rfl (zL Try.func90 (sfield_e _ _ _ _) rfl)<|yq 7 (rmB rfl) ?_
         refine AG.bool (t:=64) rfl ?_ ?_
         ·intro h9
          refine tq 8 (rmO rfl)<|tq 9 (rj 4 ty.el140 rfl (by show 4<6;decide))<|tq 10 (rd (x:=vB _) (rd_load_arr rfl ty.kd4 rfl rfl rfl (rfl) rfl) rfl)<|tq 11 (rf 5 ty.F40_5 rfl)<|tq 12 (roI ty.kd3 rfl)<|yq 13 (rmI rfl)<|yst 14 rfl (zL Try.func90 (sfield_e _ _ _ _) rfl)<|gX [1,2,3,64,71] [60,2001] ?_
          refine yq 15 (rkB Z)<|yq 16 (rmB Z) ?_
          refine AG.bool (t:=73) rfl ?_ ?_
          ·intro h10
           refine yq 17 (rmO rfl)<|yq 18 (rj 5 ty.el140 rfl (by show 5<6;decide))<|yq 19 (rd (x:=vB _) (rd_load_arr rfl ty.kd4 rfl rfl rfl (rfl) rfl) rfl)<|yq 20 (rmB rfl) ?_
           refine AG.bool (t:=77) rfl ?_ ?_
           ·intro h11
            refine yno 21 Z<|yno 22 Z<|yno 23 Z<|yq 24 (rkT Z)<|yq 25 (rkT Z)<|yq 26 (raT Z)<|gD<|gT<|aR ?_
            refine eBo trivial ?_
            unfold eventOk
            first
            |(simp_all;done)
            |(simp_all[inB];done)
            |(simp_all[inB];intros;omega)
           ·intro h11
            refine yq 21 (rf 6 ty.F40_6 Z)<|yq 22 (roB ty.kd4 Z)<|yq 23 (ruB Z)<|yq 24 (rkB Z)<|yq 25 (rkB Z)<|yq 26 (raB Z)<|gD<|gT<|aR ?_
            refine eBo trivial ?_
            unfold eventOk
            first
            |(simp_all;done)
            |(simp_all[inB];done)
            |(simp_all[inB];intros;omega)
          ·intro h10
           refine yno 17 Z<|yno 18 Z<|yno 19 Z<|yno 20 Z<|yno 21 Z<|yno 22 Z<|yno 23 Z<|yno 24 Z<|yq 25 (rkZ Z)<|yq 26 (raZ Z)<|gD<|gT<|aR ?_
           refine eBo trivial ?_
           unfold eventOk
           first
           |(simp_all;done)
           |(simp_all[inB];done)
           |(simp_all[inB];intros;omega)
         ·intro h9
          refine tno 8 Z<|tno 9 Z<|tno 10 Z<|tno 11 Z<|tno 12 Z<|yno 13 Z<|yno 14 Z<|yq 15 (rkZ Z)<|yq 16 (rmZ Z)<|yno 17 Z<|yno 18 Z<|yno 19 Z<|yno 20 Z<|yno 21 Z<|yno 22 Z<|yno 23 Z<|yno 24 Z<|yq 25 (rkZ Z)<|yq 26 (raZ Z)<|gD<|gT<|aR ?_
          refine eBo trivial ?_
          unfold eventOk
          first
          |(simp_all;done)
          |(simp_all[inB];done)
          |(simp_all[inB];intros;omega)
       ·intro h7
        refine tno 30 Z<|tno 31 Z<|yno 32 Z<|yno 33 Z<|yno 34 Z<|yq 35 (rkZ rfl)<|yq 36 (rkZ rfl)<|gD<|gT<|aN Z<|aK<|gT<|aS<|aG 26 []<|tq 0 (rmO rfl)<|tq 1 (rj 3 ty.el140 rfl (by show 3<6;decide))<|tq 2 (rd (x:=vB _) (rd_load_arr rfl ty.kd4 rfl rfl rfl (rfl) rfl) rfl)<|tq 3 (rf 4 ty.F40_4 rfl)<|tq 4 (roI ty.kd3 rfl)<|yq 5 (rmI rfl)<|yst 6 rfl (zL Try.func90 (sfield_e _ _ _ _) rfl)<|gX [1,2,3,5,63] [60,2001] ?_
        refine yq 7 (rmB rfl) ?_
        refine AG.bool (t:=64) rfl ?_ ?_
        ·intro h12
         refine tq 8 (rmO rfl)<|tq 9 (rj 4 ty.el140 rfl (by show 4<6;decide))<|tq 10 (rd (x:=vB _) (rd_load_arr rfl ty.kd4 rfl rfl rfl (rfl) rfl) rfl)<|tq 11 (rf 5 ty.F40_5 rfl)<|tq 12 (roI ty.kd3 rfl)<|yq 13 (rmI rfl)<|yst 14 rfl (zL Try.func90 (sfield_e _ _ _ _) rfl)<|yq 15 (rkB rfl)<|yq 16 (rmB rfl) ?_
         refine AG.bool (t:=73) rfl ?_ ?_
         ·intro h13
          refine yq 17 (rmO rfl)<|yq 18 (rj 5 ty.el140 rfl (by show 5<6;decide))<|yq 19 (rd (x:=vB _) (rd_load_arr rfl ty.kd4 rfl rfl rfl (rfl) rfl) rfl)<|yq 20 (rmB rfl) ?_
          refine AG.bool (t:=77) rfl ?_ ?_
          ·intro h14
           refine yno 21 Z<|yno 22 Z<|yno 23 Z<|yq 24 (rkT Z)<|yq 25 (rkT Z)<|yq 26 (raT Z)<|gD<|gT<|aR ?_
           refine eBo trivial ?_
           unfold eventOk
           first
           |(simp_all;done)
           |(simp_all[inB];done)
           |(simp_all[inB];intros;omega)
          ·intro h14
           refine yq 21 (rf 6 ty.F40_6 Z)<|yq 22 (roB ty.kd4 Z)<|yq 23 (ruB Z)<|yq 24 (rkB Z)<|yq 25 (rkB Z)<|yq 26 (raB Z)<|gD<|gT<|aR ?_
           refine eBo trivial ?_
           unfold eventOk
           first
           |(simp_all;done)
           |(simp_all[inB];done)
           |(simp_all[inB];intros;omega)
         ·intro h13
          refine yno 17 Z<|yno 18 Z<|yno 19 Z<|yno 20 Z<|yno 21 Z<|yno 22 Z<|yno 23 Z<|yno 24 Z<|yq 25 (rkZ Z)<|yq 26 (raZ Z)<|gD<|gT<|aR ?_
          refine eBo trivial ?_
          unfold eventOk
          first
          |(simp_all;done)
          |(simp_all[inB];done)
          |(simp_all[inB];intros;omega)
        ·intro h12
         refine tno 8 Z<|tno 9 Z<|tno 10 Z<|tno 11 Z<|tno 12 Z<|yno 13 Z<|yno 14 Z<|yq 15 (rkZ Z)<|yq 16 (rmZ Z)<|yno 17 Z<|yno 18 Z<|yno 19 Z<|yno 20 Z<|yno 21 Z<|yno 22 Z<|yno 23 Z<|yno 24 Z<|yq 25 (rkZ Z)<|yq 26 (raZ Z)<|gD<|gT<|aR ?_
         refine eBo trivial ?_
         unfold eventOk
         first
         |(simp_all;done)
         |(simp_all[inB];done)
         |(simp_all[inB];intros;omega)
theorem eventOk_e(e:Event):GC Try.prog 48 [evV e] [] (boo (eventOk e)) []:=by
 refine gi 2 Try.func48 rfl Try.ntmps48 rfl ?_
 intro L O w0
 refine sL<|lst (zX 2001 Z) Z<|laZ Z<|nG<|aS<|sL<|lf 4 ty.F40_4 Z<|loI ty.kd3 Z<|lst (zL Try.func94 (amtOk_e _) Z) Z<|luB Z<|lmB Z ?_
 refine AL.bool (t:=9) rfl ?_ ?_
 ·intro h1
  refine lno Z<|lno Z<|lno Z<|lno Z<|lkT Z<|nG<|aY Z<|sL<|laZ Z<|nG<|aR<|rT ?_
  refine eBo trivial ?_
  rcases hq:eventOk e with _|_
  ·rfl
  ·have:=evAmt hq;simp_all
 ·intro h1
  refine lf 5 ty.F40_5 Z<|loI ty.kd3 Z<|lst (zL Try.func94 (amtOk_e _) Z) Z<|luB Z<|lkB Z<|nG ?_
  refine AW.cond rfl ?_ ?_
  ·intro h2
   refine sL<|laZ Z<|nG<|aR<|rT ?_
   refine eBo trivial ?_
   rcases hq:eventOk e with _|_
   ·rfl
   ·have:=evAmt hq;simp_all
  ·intro h2
   refine aK<|gA<|lf 0 ty.F40_0 Z<|loI ty.kd3 Z<|lq (rd (x:=.agg [vI _ _,vI _ _,vI _ _,vI _ _,vI _ _,vI _ _,vB false]) (rd_build Z ty.sa40 Z Z Z) Z)<|lst (zA 2003 ty.ze40 Z) Z<|lT [1,2,3,17] [2001,2003] ?_
   refine lst (zB 2003 ty.co40 ty.inf40 Z) Z<|nA<|laT Z<|nG<|aS<|sL<|lf 0 ty.F40_0 Z<|loI ty.kd3 Z<|nG<|aB<|sL<|lbB Z<|laB Z<|nG ?_
   refine AW.cond rfl ?_ ?_
   ·intro h3
    refine sL<|lf 4 ty.F40_4 Z<|loI ty.kd3 Z<|lf 4 ty.F40_4 Z<|lst (zB 2003 ty.co3 ty.inf3 Z) Z<|nG<|aL<|lf 4 ty.F40_4 Z<|loI ty.kd3 Z<|lbB Z<|laB Z<|lN<|gB<|gA<|lmB Z<|lmB Z ?_
    refine AL.bool (t:=175) rfl ?_ ?_
    ·intro h4
     refine loX (.agg [vI _ _,vI _ _,vI _ _,vI _ _,vI _ _,vI _ _,vB _]) ty.kd40 Z<|loX (.agg [vI _ _,vI _ _,vI _ _,vI _ _,vI _ _,vI _ _,vB false]) ty.kd40 Z<|lq (rd (x:=vB _) (rd_eqS rfl (.inl rfl) rfl rfl ty.sf40 ty.su40 ty.sh40 ty.sg40 ?hn1) rfl) ?_
     case hn1=>exact⟨rfl,by decide,rfl,⟨_,Try.underlying3⟩,rfl,by decide,rfl,⟨_,Try.underlying3⟩,rfl,by decide,rfl,⟨_,Try.underlying3⟩,rfl,by decide,rfl,⟨_,Try.underlying3⟩,rfl,by decide,rfl,⟨_,Try.underlying3⟩,rfl,by decide,rfl,⟨_,Try.underlying3⟩,by decide,rfl,Try.underlying4,trivial⟩
     refine lkB Z<|laB Z<|nG<|aR ?_
     refine eBo trivial ?_
     have hkd:e.kind=1:=by simpa using h3
     have ha1:amtOk e.amt=true:=by simpa using h1
     have ha2:amtOk e.fee=true:=by simpa using h2
     clear h1 h2 h3
     unfold eventOk
     rw[hkd]
     rcases hy:e.yes with _|_<;>refine Bool.eq_iff_iff.2 ?_<;>simp[fieldB,hK,hC,hT,hA,hF,hY,inB,eqVals,amtOk,keyOk,chOk]at * <;> omega
    ·intro h4
     refine lno Z<|lno Z<|lno Z<|lkZ Z<|laZ Z<|nG<|aR ?_
     refine eBo trivial ?_
     have hkd:e.kind=1:=by simpa using h3
     have ha1:amtOk e.amt=true:=by simpa using h1
     have ha2:amtOk e.fee=true:=by simpa using h2
     clear h1 h2 h3
     unfold eventOk
     rw[hkd]
     rcases hy:e.yes with _|_<;>refine Bool.eq_iff_iff.2 ?_<;>simp[fieldB,hK,hC,hT,hA,hF,hY,inB,eqVals,amtOk,keyOk,chOk]at * <;> omega
   ·intro h3
    refine sL<|lbB Z<|laB Z<|nG ?_
    refine AW.cond rfl ?_ ?_
    ·intro h5
     refine aS<|aG 11 [2003]<|tq 0 (rf 2 ty.F40_2 Z)<|tq 1 (roI ty.kd3 Z)<|tq 2 (rf 4 ty.F40_4 Z)<|tq 3 (roI ty.kd3 Z)<|tq 4 (rf 5 ty.F40_5 Z)<|gX [1,2,3,4,31,33,34] [2001,2003] ?_
     refine tq 5 (roI ty.kd3 Z)<|yq 6 (rf 2 ty.F40_2 Z)<|yst 7 Z (zB 2003 ty.co3 ty.inf3 Z)<|yq 8 (rf 4 ty.F40_4 Z)<|yst 9 Z (zB 2003 ty.co3 ty.inf3 Z)<|yq 10 (rf 5 ty.F40_5 Z)<|yl Z (zB 2003 ty.co3 ty.inf3 Z)<|gT<|aL<|lf 2 ty.F40_2 Z<|loI ty.kd3 Z<|lst (zL Try.func95 (isChan_e _) Z) Z<|lmB Z ?_
     refine AL.bool (t:=42) rfl ?_ ?_
     ·intro h6
      refine lf 4 ty.F40_4 Z<|loI ty.kd3 Z<|lbB Z<|lkB Z<|laB Z<|lN<|gB<|gA<|lmB Z<|lmB Z ?_
      refine AL.bool (t:=175) rfl ?_ ?_
      ·intro h7
       refine loX (.agg [vI _ _,vI _ _,vI _ _,vI _ _,vI _ _,vI _ _,vB _]) ty.kd40 Z<|loX (.agg [vI _ _,vI _ _,vI _ _,vI _ _,vI _ _,vI _ _,vB false]) ty.kd40 Z<|lq (rd (x:=vB _) (rd_eqS rfl (.inl rfl) rfl rfl ty.sf40 ty.su40 ty.sh40 ty.sg40 ?hn2) rfl) ?_
       case hn2=>exact⟨rfl,by decide,rfl,⟨_,Try.underlying3⟩,rfl,by decide,rfl,⟨_,Try.underlying3⟩,rfl,by decide,rfl,⟨_,Try.underlying3⟩,rfl,by decide,rfl,⟨_,Try.underlying3⟩,rfl,by decide,rfl,⟨_,Try.underlying3⟩,rfl,by decide,rfl,⟨_,Try.underlying3⟩,by decide,rfl,Try.underlying4,trivial⟩
       refine lkB Z<|laB Z<|nG<|aR ?_
       refine eBo trivial ?_
       have hkd:e.kind=2:=by simpa using h5
       have ha1:amtOk e.amt=true:=by simpa using h1
       have ha2:amtOk e.fee=true:=by simpa using h2
       clear h1 h2 h3 h5
       unfold eventOk
       rw[hkd]
       rcases hy:e.yes with _|_<;>refine Bool.eq_iff_iff.2 ?_<;>simp[fieldB,hK,hC,hT,hA,hF,hY,inB,eqVals,amtOk,keyOk,chOk]at * <;> omega
      ·intro h7
       refine lno Z<|lno Z<|lno Z<|lkZ Z<|laZ Z<|nG<|aR ?_
       refine eBo trivial ?_
       have hkd:e.kind=2:=by simpa using h5
       have ha1:amtOk e.amt=true:=by simpa using h1
       have ha2:amtOk e.fee=true:=by simpa using h2
       clear h1 h2 h3 h5
       unfold eventOk
       rw[hkd]
       rcases hy:e.yes with _|_<;>refine Bool.eq_iff_iff.2 ?_<;>simp[fieldB,hK,hC,hT,hA,hF,hY,inB,eqVals,amtOk,keyOk,chOk]at * <;> omega
     ·intro h6
      refine lno Z<|lno Z<|lno Z<|lkZ Z<|laZ Z<|lN<|gB<|gA<|lmZ Z<|lmZ Z<|lno Z<|lno Z<|lno Z<|lkZ Z<|lT [2,179] [2001,2003] ?_
      refine laZ Z<|nG<|aR ?_
      refine eBo trivial ?_
      have hkd:e.kind=2:=by simpa using h5
      have ha1:amtOk e.amt=true:=by simpa using h1
      have ha2:amtOk e.fee=true:=by simpa using h2
      clear h1 h2 h3 h5
      unfold eventOk
      rw[hkd]
      rcases hy:e.yes with _|_<;>refine Bool.eq_iff_iff.2 ?_<;>simp[fieldB,hK,hC,hT,hA,hF,hY,inB,eqVals,amtOk,keyOk,chOk]at * <;> omega
    ·intro h5
     refine sL<|lbB Z<|laB Z<|nG ?_
     refine AW.cond rfl ?_ ?_
     ·intro h8
      refine aS<|aG 7 [2003]<|tq 0 (rf 2 ty.F40_2 Z)<|tq 1 (roI ty.kd3 Z)<|tq 2 (rf 5 ty.F40_5 Z)<|tq 3 (roI ty.kd3 Z)<|yq 4 (rf 2 ty.F40_2 Z)<|yst 5 Z (zB 2003 ty.co3 ty.inf3 Z)<|yq 6 (rf 5 ty.F40_5 Z)<|yl Z (zB 2003 ty.co3 ty.inf3 Z)<|gT<|aL<|lf 2 ty.F40_2 Z<|loI ty.kd3 Z<|lst (zL Try.func95 (isChan_e _) Z) Z<|lT [1,2,3,4,57] [2001,2003] ?_
      refine laB Z<|lN<|gB<|gA<|lmB Z<|lmB Z ?_
      refine AL.bool (t:=175) rfl ?_ ?_
      ·intro h9
       refine loX (.agg [vI _ _,vI _ _,vI _ _,vI _ _,vI _ _,vI _ _,vB _]) ty.kd40 Z<|loX (.agg [vI _ _,vI _ _,vI _ _,vI _ _,vI _ _,vI _ _,vB false]) ty.kd40 Z<|lq (rd (x:=vB _) (rd_eqS rfl (.inl rfl) rfl rfl ty.sf40 ty.su40 ty.sh40 ty.sg40 ?hn3) rfl) ?_
       case hn3=>exact⟨rfl,by decide,rfl,⟨_,Try.underlying3⟩,rfl,by decide,rfl,⟨_,Try.underlying3⟩,rfl,by decide,rfl,⟨_,Try.underlying3⟩,rfl,by decide,rfl,⟨_,Try.underlying3⟩,rfl,by decide,rfl,⟨_,Try.underlying3⟩,rfl,by decide,rfl,⟨_,Try.underlying3⟩,by decide,rfl,Try.underlying4,trivial⟩
       refine lkB Z<|laB Z<|nG<|aR ?_
       refine eBo trivial ?_
       have hkd:e.kind=3:=by simpa using h8
       have ha1:amtOk e.amt=true:=by simpa using h1
       have ha2:amtOk e.fee=true:=by simpa using h2
       clear h1 h2 h3 h5 h8
       unfold eventOk
       rw[hkd]
       rcases hy:e.yes with _|_<;>refine Bool.eq_iff_iff.2 ?_<;>simp[fieldB,hK,hC,hT,hA,hF,hY,inB,eqVals,amtOk,keyOk,chOk]at * <;> omega
      ·intro h9
       refine lno Z<|lno Z<|lno Z<|lkZ Z<|laZ Z<|nG<|aR ?_
       refine eBo trivial ?_
       have hkd:e.kind=3:=by simpa using h8
       have ha1:amtOk e.amt=true:=by simpa using h1
       have ha2:amtOk e.fee=true:=by simpa using h2
       clear h1 h2 h3 h5 h8
       unfold eventOk
       rw[hkd]
       rcases hy:e.yes with _|_<;>refine Bool.eq_iff_iff.2 ?_<;>simp[fieldB,hK,hC,hT,hA,hF,hY,inB,eqVals,amtOk,keyOk,chOk]at * <;> omega
     ·intro h8
      refine sL<|lbB Z<|laB Z<|nG ?_
      refine AW.cond rfl ?_ ?_
      ·intro h10
       refine aS<|aG 11 [2003]<|tq 0 (rf 2 ty.F40_2 Z)<|tq 1 (roI ty.kd3 Z)<|tq 2 (rf 4 ty.F40_4 Z)<|tq 3 (roI ty.kd3 Z)<|tq 4 (rf 5 ty.F40_5 Z)<|tq 5 (roI ty.kd3 Z)<|yq 6 (rf 2 ty.F40_2 Z)<|yst 7 Z (zB 2003 ty.co3 ty.inf3 Z)<|gX [1,2,3,4,63,65] [2001,2003] ?_
       refine yq 8 (rf 4 ty.F40_4 Z)<|yst 9 Z (zB 2003 ty.co3 ty.inf3 Z)<|yq 10 (rf 5 ty.F40_5 Z)<|yl Z (zB 2003 ty.co3 ty.inf3 Z)<|gT<|aL<|lf 2 ty.F40_2 Z<|loI ty.kd3 Z<|lst (zL Try.func95 (isChan_e _) Z) Z<|lmB Z ?_
       refine AL.bool (t:=72) rfl ?_ ?_
       ·intro h11
        refine lf 5 ty.F40_5 Z<|loI ty.kd3 Z<|lbB Z<|lkB Z<|laB Z<|lN<|gB<|gA<|lmB Z<|lmB Z ?_
        refine AL.bool (t:=175) rfl ?_ ?_
        ·intro h12
         refine loX (.agg [vI _ _,vI _ _,vI _ _,vI _ _,vI _ _,vI _ _,vB _]) ty.kd40 Z<|loX (.agg [vI _ _,vI _ _,vI _ _,vI _ _,vI _ _,vI _ _,vB false]) ty.kd40 Z<|lq (rd (x:=vB _) (rd_eqS rfl (.inl rfl) rfl rfl ty.sf40 ty.su40 ty.sh40 ty.sg40 ?hn4) rfl) ?_
         case hn4=>exact⟨rfl,by decide,rfl,⟨_,Try.underlying3⟩,rfl,by decide,rfl,⟨_,Try.underlying3⟩,rfl,by decide,rfl,⟨_,Try.underlying3⟩,rfl,by decide,rfl,⟨_,Try.underlying3⟩,rfl,by decide,rfl,⟨_,Try.underlying3⟩,rfl,by decide,rfl,⟨_,Try.underlying3⟩,by decide,rfl,Try.underlying4,trivial⟩
         refine lkB Z<|laB Z<|nG<|aR ?_
         refine eBo trivial ?_
         have hkd:e.kind=4:=by simpa using h10
         have ha1:amtOk e.amt=true:=by simpa using h1
         have ha2:amtOk e.fee=true:=by simpa using h2
         clear h1 h2 h3 h5 h8 h10
         unfold eventOk
         rw[hkd]
         rcases hy:e.yes with _|_<;>refine Bool.eq_iff_iff.2 ?_<;>simp[fieldB,hK,hC,hT,hA,hF,hY,inB,eqVals,amtOk,keyOk,chOk]at * <;> omega
        ·intro h12
         refine lno Z<|lno Z<|lno Z<|lkZ Z<|laZ Z<|nG<|aR ?_
         refine eBo trivial ?_
         have hkd:e.kind=4:=by simpa using h10
         have ha1:amtOk e.amt=true:=by simpa using h1
         have ha2:amtOk e.fee=true:=by simpa using h2
         clear h1 h2 h3 h5 h8 h10
         unfold eventOk
         rw[hkd]
         rcases hy:e.yes with _|_<;>refine Bool.eq_iff_iff.2 ?_<;>simp[fieldB,hK,hC,hT,hA,hF,hY,inB,eqVals,amtOk,keyOk,chOk]at * <;> omega
       ·intro h11
        refine lno Z<|lno Z<|lno Z<|lkZ Z<|laZ Z<|lN<|gB<|gA<|lmZ Z<|lmZ Z<|lno Z<|lno Z<|lno Z<|lkZ Z<|laZ Z<|nG<|aR ?_
        refine eBo trivial ?_
        have hkd:e.kind=4:=by simpa using h10
        have ha1:amtOk e.amt=true:=by simpa using h1
        have ha2:amtOk e.fee=true:=by simpa using h2
        clear h1 h2 h3 h5 h8 h10
        unfold eventOk
        rw[hkd]
        rcases hy:e.yes with _|_<;>refine Bool.eq_iff_iff.2 ?_<;>simp[fieldB,hK,hC,hT,hA,hF,hY,inB,eqVals,amtOk,keyOk,chOk]at * <;> omega
      ·intro h10
       refine sL<|lbB Z<|laB Z<|lT [1,2,3,4,19,77] [2001,2003] ?_
       refine nG ?_
       refine AW.cond rfl ?_ ?_
       ·intro h13
        refine aS<|aG 19 [2003]<|tq 0 (rf 1 ty.F40_1 Z)<|tq 1 (roI ty.kd3 Z)<|tq 2 (rf 2 ty.F40_2 Z)<|tq 3 (roI ty.kd3 Z)<|tq 4 (rf 3 ty.F40_3 Z)<|tq 5 (roI ty.kd3 Z)<|tq 6 (rf 4 ty.F40_4 Z)<|tq 7 (roI ty.kd3 Z)<|tq 8 (rf 6 ty.F40_6 Z)<|tq 9 (roB ty.kd4 Z)<|yq 10 (rf 1 ty.F40_1 Z)<|yst 11 Z (zB 2003 ty.co3 ty.inf3 Z)<|yq 12 (rf 2 ty.F40_2 Z)<|yst 13 Z (zB 2003 ty.co3 ty.inf3 Z)<|gX [1,2,3,4,84,86,88] [2001,2003] ?_
        refine yq 14 (rf 3 ty.F40_3 Z)<|yst 15 Z (zB 2003 ty.co3 ty.inf3 Z)<|yq 16 (rf 4 ty.F40_4 Z)<|yst 17 Z (zB 2003 ty.co3 ty.inf3 Z)<|yq 18 (rf 6 ty.F40_6 Z)<|yl Z (zB 2003 ty.co4 ty.inf4 Z)<|gT<|aL<|lf 1 ty.F40_1 Z<|loI ty.kd3 Z<|lst (zL Try.func96 (isKey_e _) Z) Z<|lmB Z ?_
        refine AL.bool (t:=97) rfl ?_ ?_
        ·intro h14
         refine lf 2 ty.F40_2 Z<|loI ty.kd3 Z<|lst (zL Try.func95 (isChan_e _) Z) Z<|lkB Z<|lmB Z ?_
         refine AL.bool (t:=102) rfl ?_ ?_
         ·intro h15
          refine lf 3 ty.F40_3 Z<|loI ty.kd3 Z<|lst (zL Try.func95 (isChan_e _) Z) Z<|lT [1,2,3,4,102,105] [2001,2003] ?_
          refine lkB Z<|lmB Z ?_
          refine AL.bool (t:=107) rfl ?_ ?_
          ·intro h16
           refine lf 2 ty.F40_2 Z<|loI ty.kd3 Z<|lf 3 ty.F40_3 Z<|loI ty.kd3 Z<|lbB Z<|lkB Z<|lmB Z ?_
           refine AL.bool (t:=114) rfl ?_ ?_
           ·intro h17
            refine lf 4 ty.F40_4 Z<|loI ty.kd3 Z<|lbB Z<|lkB Z<|laB Z<|lN<|gB<|gA<|lmB Z<|lmB Z ?_
            refine AL.bool (t:=175) rfl ?_ ?_
            ·intro h18
             refine loX (.agg [vI _ _,vI _ _,vI _ _,vI _ _,vI _ _,vI _ _,vB _]) ty.kd40 Z<|loX (.agg [vI _ _,vI _ _,vI _ _,vI _ _,vI _ _,vI _ _,vB _]) ty.kd40 Z<|lq (rd (x:=vB _) (rd_eqS rfl (.inl rfl) rfl rfl ty.sf40 ty.su40 ty.sh40 ty.sg40 ?hn5) rfl) ?_
             case hn5=>exact⟨rfl,by decide,rfl,⟨_,Try.underlying3⟩,rfl,by decide,rfl,⟨_,Try.underlying3⟩,rfl,by decide,rfl,⟨_,Try.underlying3⟩,rfl,by decide,rfl,⟨_,Try.underlying3⟩,rfl,by decide,rfl,⟨_,Try.underlying3⟩,rfl,by decide,rfl,⟨_,Try.underlying3⟩,by decide,rfl,Try.underlying4,trivial⟩
             refine lkB Z<|laB Z<|nG<|aR ?_
             refine eBo trivial ?_
             have hkd:e.kind=5:=by simpa using h13
             have ha1:amtOk e.amt=true:=by simpa using h1
             have ha2:amtOk e.fee=true:=by simpa using h2
             clear h1 h2 h3 h5 h8 h10 h13
             unfold eventOk
             rw[hkd]
             rcases hy:e.yes with _|_<;>refine Bool.eq_iff_iff.2 ?_<;>simp[fieldB,hK,hC,hT,hA,hF,hY,inB,eqVals,amtOk,keyOk,chOk]at * <;> omega
            ·intro h18
             refine lno Z<|lno Z<|lno Z<|lkZ Z<|laZ Z<|nG<|aR ?_
             refine eBo trivial ?_
             have hkd:e.kind=5:=by simpa using h13
             have ha1:amtOk e.amt=true:=by simpa using h1
             have ha2:amtOk e.fee=true:=by simpa using h2
             clear h1 h2 h3 h5 h8 h10 h13
             unfold eventOk
             rw[hkd]
             rcases hy:e.yes with _|_<;>refine Bool.eq_iff_iff.2 ?_<;>simp[fieldB,hK,hC,hT,hA,hF,hY,inB,eqVals,amtOk,keyOk,chOk]at * <;> omega
           ·intro h17
            refine lno Z<|lno Z<|lno Z<|lkZ Z<|laZ Z<|lN<|gB<|gA<|lmZ Z<|lmZ Z<|lno Z<|lno Z<|lno Z<|lkZ Z<|laZ Z<|nG<|aR ?_
            refine eBo trivial ?_
            have hkd:e.kind=5:=by simpa using h13
            have ha1:amtOk e.amt=true:=by simpa using h1
            have ha2:amtOk e.fee=true:=by simpa using h2
            clear h1 h2 h3 h5 h8 h10 h13
            unfold eventOk
            rw[hkd]
            rcases hy:e.yes with _|_<;>refine Bool.eq_iff_iff.2 ?_<;>simp[fieldB,hK,hC,hT,hA,hF,hY,inB,eqVals,amtOk,keyOk,chOk]at * <;> omega
          ·intro h16
           refine lno Z<|lno Z<|lno Z<|lno Z<|lno Z<|lkZ Z<|lT [1,2,3,4,113] [2001,2003] ?_
           refine lmZ Z<|lno Z<|lno Z<|lno Z<|lkZ Z<|laZ Z<|lN<|gB<|gA<|lmZ Z<|lmZ Z<|lno Z<|lno Z<|lno Z<|lkZ Z<|laZ Z<|nG<|aR ?_
           refine eBo trivial ?_
           have hkd:e.kind=5:=by simpa using h13
           have ha1:amtOk e.amt=true:=by simpa using h1
           have ha2:amtOk e.fee=true:=by simpa using h2
           clear h1 h2 h3 h5 h8 h10 h13
           unfold eventOk
           rw[hkd]
           rcases hy:e.yes with _|_<;>refine Bool.eq_iff_iff.2 ?_<;>simp[fieldB,hK,hC,hT,hA,hF,hY,inB,eqVals,amtOk,keyOk,chOk]at * <;> omega
         ·intro h15
          refine lno Z<|lno Z<|lno Z<|lkZ Z<|lmZ Z<|lno Z<|lno Z<|lno Z<|lno Z<|lno Z<|lkZ Z<|lmZ Z<|lno Z<|lno Z<|lno Z<|lkZ Z<|laZ Z<|lN<|gB<|gA<|lmZ Z<|lmZ Z<|lno Z<|lno Z<|lno Z<|lkZ Z<|laZ Z<|lN ?_
          refine gT<|aR ?_
          refine eBo trivial ?_
          have hkd:e.kind=5:=by simpa using h13
          have ha1:amtOk e.amt=true:=by simpa using h1
          have ha2:amtOk e.fee=true:=by simpa using h2
          clear h1 h2 h3 h5 h8 h10 h13
          unfold eventOk
          rw[hkd]
          rcases hy:e.yes with _|_<;>refine Bool.eq_iff_iff.2 ?_<;>simp[fieldB,hK,hC,hT,hA,hF,hY,inB,eqVals,amtOk,keyOk,chOk]at * <;> omega
        ·intro h14
         refine lno Z<|lno Z<|lno Z<|lkZ Z<|lmZ Z<|lno Z<|lno Z<|lno Z<|lkZ Z<|lmZ Z<|lno Z<|lno Z<|lno Z<|lno Z<|lno Z<|lkZ Z<|lmZ Z<|lno Z<|lno Z<|lno Z<|lkZ Z<|laZ Z<|lN<|gB<|gA<|lmZ Z<|lmZ Z<|lno Z ?_
         refine lno Z<|lno Z<|lkZ Z<|laZ Z<|nG<|aR ?_
         refine eBo trivial ?_
         have hkd:e.kind=5:=by simpa using h13
         have ha1:amtOk e.amt=true:=by simpa using h1
         have ha2:amtOk e.fee=true:=by simpa using h2
         clear h1 h2 h3 h5 h8 h10 h13
         unfold eventOk
         rw[hkd]
         rcases hy:e.yes with _|_<;>refine Bool.eq_iff_iff.2 ?_<;>simp[fieldB,hK,hC,hT,hA,hF,hY,inB,eqVals,amtOk,keyOk,chOk]at * <;> omega
       ·intro h13
        refine sL<|lbB Z<|lT [1,2,3,4,19,120] [2001,2003] ?_
        refine laB Z<|nG ?_
        refine AW.cond rfl ?_ ?_
        ·intro h19
         refine aS<|aG 19 [2003]<|tq 0 (rf 1 ty.F40_1 Z)<|tq 1 (roI ty.kd3 Z)<|tq 2 (rf 2 ty.F40_2 Z)<|tq 3 (roI ty.kd3 Z)<|tq 4 (rf 3 ty.F40_3 Z)<|tq 5 (roI ty.kd3 Z)<|tq 6 (rf 4 ty.F40_4 Z)<|tq 7 (roI ty.kd3 Z)<|tq 8 (rf 5 ty.F40_5 Z)<|tq 9 (roI ty.kd3 Z)<|yq 10 (rf 1 ty.F40_1 Z)<|yst 11 Z (zB 2003 ty.co3 ty.inf3 Z)<|yq 12 (rf 2 ty.F40_2 Z)<|yst 13 Z (zB 2003 ty.co3 ty.inf3 Z)<|gX [1,2,3,4,126,128,130] [2001,2003] ?_
         refine yq 14 (rf 3 ty.F40_3 Z)<|yst 15 Z (zB 2003 ty.co3 ty.inf3 Z)<|yq 16 (rf 4 ty.F40_4 Z)<|yst 17 Z (zB 2003 ty.co3 ty.inf3 Z)<|yq 18 (rf 5 ty.F40_5 Z)<|yl Z (zB 2003 ty.co3 ty.inf3 Z)<|gT<|aL<|lf 1 ty.F40_1 Z<|loI ty.kd3 Z<|lst (zL Try.func96 (isKey_e _) Z) Z<|lmB Z ?_
         refine AL.bool (t:=139) rfl ?_ ?_
         ·intro h20
          refine lf 2 ty.F40_2 Z<|loI ty.kd3 Z<|lst (zL Try.func95 (isChan_e _) Z) Z<|lkB Z<|lmB Z ?_
          refine AL.bool (t:=144) rfl ?_ ?_
          ·intro h21
           refine lf 3 ty.F40_3 Z<|loI ty.kd3 Z<|lst (zL Try.func95 (isChan_e _) Z) Z<|lT [1,2,3,4,144,147] [2001,2003] ?_
           refine lkB Z<|lmB Z ?_
           refine AL.bool (t:=149) rfl ?_ ?_
           ·intro h22
            refine lf 2 ty.F40_2 Z<|loI ty.kd3 Z<|lf 3 ty.F40_3 Z<|loI ty.kd3 Z<|lbB Z<|lkB Z<|lmB Z ?_
            refine AL.bool (t:=156) rfl ?_ ?_
            ·intro h23
             refine lf 4 ty.F40_4 Z<|loI ty.kd3 Z<|lbB Z<|lkB Z<|laB Z<|lN<|gB<|gA<|lmB Z<|lmB Z ?_
             refine AL.bool (t:=175) rfl ?_ ?_
             ·intro h24
              refine loX (.agg [vI _ _,vI _ _,vI _ _,vI _ _,vI _ _,vI _ _,vB _]) ty.kd40 Z<|loX (.agg [vI _ _,vI _ _,vI _ _,vI _ _,vI _ _,vI _ _,vB false]) ty.kd40 Z<|lq (rd (x:=vB _) (rd_eqS rfl (.inl rfl) rfl rfl ty.sf40 ty.su40 ty.sh40 ty.sg40 ?hn6) rfl) ?_
              case hn6=>exact⟨rfl,by decide,rfl,⟨_,Try.underlying3⟩,rfl,by decide,rfl,⟨_,Try.underlying3⟩,rfl,by decide,rfl,⟨_,Try.underlying3⟩,rfl,by decide,rfl,⟨_,Try.underlying3⟩,rfl,by decide,rfl,⟨_,Try.underlying3⟩,rfl,by decide,rfl,⟨_,Try.underlying3⟩,by decide,rfl,Try.underlying4,trivial⟩
              refine lkB Z<|laB Z<|nG<|aR ?_
              refine eBo trivial ?_
              have hkd:e.kind=9:=by simpa using h19
              have ha1:amtOk e.amt=true:=by simpa using h1
              have ha2:amtOk e.fee=true:=by simpa using h2
              clear h1 h2 h3 h5 h8 h10 h13 h19
              unfold eventOk
              rw[hkd]
              rcases hy:e.yes with _|_<;>refine Bool.eq_iff_iff.2 ?_<;>simp[fieldB,hK,hC,hT,hA,hF,hY,inB,eqVals,amtOk,keyOk,chOk]at * <;> omega
             ·intro h24
              refine lno Z<|lno Z<|lno Z<|lkZ Z<|laZ Z<|nG<|aR ?_
              refine eBo trivial ?_
              have hkd:e.kind=9:=by simpa using h19
              have ha1:amtOk e.amt=true:=by simpa using h1
              have ha2:amtOk e.fee=true:=by simpa using h2
              clear h1 h2 h3 h5 h8 h10 h13 h19
              unfold eventOk
              rw[hkd]
              rcases hy:e.yes with _|_<;>refine Bool.eq_iff_iff.2 ?_<;>simp[fieldB,hK,hC,hT,hA,hF,hY,inB,eqVals,amtOk,keyOk,chOk]at * <;> omega
            ·intro h23
             refine lno Z<|lno Z<|lno Z<|lkZ Z<|laZ Z<|lN<|gB<|gA<|lmZ Z<|lmZ Z<|lno Z<|lno Z<|lno Z<|lkZ Z<|laZ Z<|nG<|aR ?_
             refine eBo trivial ?_
             have hkd:e.kind=9:=by simpa using h19
             have ha1:amtOk e.amt=true:=by simpa using h1
             have ha2:amtOk e.fee=true:=by simpa using h2
             clear h1 h2 h3 h5 h8 h10 h13 h19
             unfold eventOk
             rw[hkd]
             rcases hy:e.yes with _|_<;>refine Bool.eq_iff_iff.2 ?_<;>simp[fieldB,hK,hC,hT,hA,hF,hY,inB,eqVals,amtOk,keyOk,chOk]at * <;> omega
           ·intro h22
            refine lno Z<|lno Z<|lno Z<|lno Z<|lno Z<|lkZ Z<|lT [1,2,3,4,155] [2001,2003] ?_
            refine lmZ Z<|lno Z<|lno Z<|lno Z<|lkZ Z<|laZ Z<|lN<|gB<|gA<|lmZ Z<|lmZ Z<|lno Z<|lno Z<|lno Z<|lkZ Z<|laZ Z<|nG<|aR ?_
            refine eBo trivial ?_
            have hkd:e.kind=9:=by simpa using h19
            have ha1:amtOk e.amt=true:=by simpa using h1
            have ha2:amtOk e.fee=true:=by simpa using h2
            clear h1 h2 h3 h5 h8 h10 h13 h19
            unfold eventOk
            rw[hkd]
            rcases hy:e.yes with _|_<;>refine Bool.eq_iff_iff.2 ?_<;>simp[fieldB,hK,hC,hT,hA,hF,hY,inB,eqVals,amtOk,keyOk,chOk]at * <;> omega
          ·intro h21
           refine lno Z<|lno Z<|lno Z<|lkZ Z<|lmZ Z<|lno Z<|lno Z<|lno Z<|lno Z<|lno Z<|lkZ Z<|lmZ Z<|lno Z<|lno Z<|lno Z<|lkZ Z<|laZ Z<|lN<|gB<|gA<|lmZ Z<|lmZ Z<|lno Z<|lno Z<|lno Z<|lkZ Z<|laZ Z<|lN ?_
           refine gT<|aR ?_
           refine eBo trivial ?_
           have hkd:e.kind=9:=by simpa using h19
           have ha1:amtOk e.amt=true:=by simpa using h1
           have ha2:amtOk e.fee=true:=by simpa using h2
           clear h1 h2 h3 h5 h8 h10 h13 h19
           unfold eventOk
           rw[hkd]
           rcases hy:e.yes with _|_<;>refine Bool.eq_iff_iff.2 ?_<;>simp[fieldB,hK,hC,hT,hA,hF,hY,inB,eqVals,amtOk,keyOk,chOk]at * <;> omega
         ·intro h20
          refine lno Z<|lno Z<|lno Z<|lkZ Z<|lmZ Z<|lno Z<|lno Z<|lno Z<|lkZ Z<|lmZ Z<|lno Z<|lno Z<|lno Z<|lno Z<|lno Z<|lkZ Z<|lmZ Z<|lno Z<|lno Z<|lno Z<|lkZ Z<|laZ Z<|lN<|gB<|gA<|lmZ Z<|lmZ Z<|lno Z ?_
          refine lno Z<|lno Z<|lkZ Z<|laZ Z<|nG<|aR ?_
          refine eBo trivial ?_
          have hkd:e.kind=9:=by simpa using h19
          have ha1:amtOk e.amt=true:=by simpa using h1
          have ha2:amtOk e.fee=true:=by simpa using h2
          clear h1 h2 h3 h5 h8 h10 h13 h19
          unfold eventOk
          rw[hkd]
          rcases hy:e.yes with _|_<;>refine Bool.eq_iff_iff.2 ?_<;>simp[fieldB,hK,hC,hT,hA,hF,hY,inB,eqVals,amtOk,keyOk,chOk]at * <;> omega
        ·intro h19
         refine aS<|sL<|lbB Z<|lT [1,2,3,4,19,162] [2001,2003] ?_
         refine laB Z<|nG ?_
         refine AW.cond rfl ?_ ?_
         ·intro h25
          refine asB 161 true Z h25<|aK<|gT<|aY Z<|sL<|lf 1 ty.F40_1 Z<|loI ty.kd3 Z<|lf 1 ty.F40_1 Z<|lst (zB 2003 ty.co3 ty.inf3 Z) Z<|nG<|aL<|lf 1 ty.F40_1 Z<|loI ty.kd3 Z<|lst (zL Try.func96 (isKey_e _) Z) Z<|laB Z<|lN<|gB<|gA<|lmB Z<|lmB Z ?_
          refine AL.bool (t:=175) rfl ?_ ?_
          ·intro h26
           refine loX (.agg [vI _ _,vI _ _,vI _ _,vI _ _,vI _ _,vI _ _,vB _]) ty.kd40 Z<|loX (.agg [vI _ _,vI _ _,vI _ _,vI _ _,vI _ _,vI _ _,vB false]) ty.kd40 Z<|lq (rd (x:=vB _) (rd_eqS rfl (.inl rfl) rfl rfl ty.sf40 ty.su40 ty.sh40 ty.sg40 ?hn7) rfl) ?_
           case hn7=>exact⟨rfl,by decide,rfl,⟨_,Try.underlying3⟩,rfl,by decide,rfl,⟨_,Try.underlying3⟩,rfl,by decide,rfl,⟨_,Try.underlying3⟩,rfl,by decide,rfl,⟨_,Try.underlying3⟩,rfl,by decide,rfl,⟨_,Try.underlying3⟩,rfl,by decide,rfl,⟨_,Try.underlying3⟩,by decide,rfl,Try.underlying4,trivial⟩
           refine lkB Z<|laB Z<|nG<|aR ?_
           refine eBo trivial ?_
           have hkd:e.kind=6:=by simpa using h25
           have ha1:amtOk e.amt=true:=by simpa using h1
           have ha2:amtOk e.fee=true:=by simpa using h2
           clear h1 h2 h3 h5 h8 h10 h13 h19 h25
           unfold eventOk
           rw[hkd]
           rcases hy:e.yes with _|_<;>refine Bool.eq_iff_iff.2 ?_<;>simp[fieldB,hK,hC,hT,hA,hF,hY,inB,eqVals,amtOk,keyOk,chOk]at * <;> omega
          ·intro h26
           refine lno Z<|lno Z<|lno Z<|lkZ Z<|laZ Z<|nG<|aR ?_
           refine eBo trivial ?_
           have hkd:e.kind=6:=by simpa using h25
           have ha1:amtOk e.amt=true:=by simpa using h1
           have ha2:amtOk e.fee=true:=by simpa using h2
           clear h1 h2 h3 h5 h8 h10 h13 h19 h25
           unfold eventOk
           rw[hkd]
           rcases hy:e.yes with _|_<;>refine Bool.eq_iff_iff.2 ?_<;>simp[fieldB,hK,hC,hT,hA,hF,hY,inB,eqVals,amtOk,keyOk,chOk]at * <;> omega
         ·intro h25
          refine asB 161 false Z h25<|sL<|lbB Z<|laB Z<|nG ?_
          refine AW.cond rfl ?_ ?_
          ·intro h27
           refine asB 161 true Z h27<|aK<|gT<|aY Z<|sL<|lf 1 ty.F40_1 Z<|loI ty.kd3 Z<|lf 1 ty.F40_1 Z<|lst (zB 2003 ty.co3 ty.inf3 Z) Z<|lT [1,2,3,4] [2001,2003] ?_
           refine nG<|aL<|lf 1 ty.F40_1 Z<|loI ty.kd3 Z<|lst (zL Try.func96 (isKey_e _) Z) Z<|laB Z<|lN<|gB<|gA<|lmB Z<|lmB Z ?_
           refine AL.bool (t:=175) rfl ?_ ?_
           ·intro h28
            refine loX (.agg [vI _ _,vI _ _,vI _ _,vI _ _,vI _ _,vI _ _,vB _]) ty.kd40 Z<|loX (.agg [vI _ _,vI _ _,vI _ _,vI _ _,vI _ _,vI _ _,vB false]) ty.kd40 Z<|lq (rd (x:=vB _) (rd_eqS rfl (.inl rfl) rfl rfl ty.sf40 ty.su40 ty.sh40 ty.sg40 ?hn8) rfl) ?_
            case hn8=>exact⟨rfl,by decide,rfl,⟨_,Try.underlying3⟩,rfl,by decide,rfl,⟨_,Try.underlying3⟩,rfl,by decide,rfl,⟨_,Try.underlying3⟩,rfl,by decide,rfl,⟨_,Try.underlying3⟩,rfl,by decide,rfl,⟨_,Try.underlying3⟩,rfl,by decide,rfl,⟨_,Try.underlying3⟩,by decide,rfl,Try.underlying4,trivial⟩
            refine lkB Z<|laB Z<|nG<|aR ?_
            refine eBo trivial ?_
            have hkd:e.kind=7:=by simpa using h27
            have ha1:amtOk e.amt=true:=by simpa using h1
            have ha2:amtOk e.fee=true:=by simpa using h2
            clear h1 h2 h3 h5 h8 h10 h13 h19 h25 h27
            unfold eventOk
            rw[hkd]
            rcases hy:e.yes with _|_<;>refine Bool.eq_iff_iff.2 ?_<;>simp[fieldB,hK,hC,hT,hA,hF,hY,inB,eqVals,amtOk,keyOk,chOk]at * <;> omega
           ·intro h28
            refine lno Z<|lno Z<|lno Z<|lkZ Z<|laZ Z<|nG<|aR ?_
            refine eBo trivial ?_
            have hkd:e.kind=7:=by simpa using h27
            have ha1:amtOk e.amt=true:=by simpa using h1
            have ha2:amtOk e.fee=true:=by simpa using h2
            clear h1 h2 h3 h5 h8 h10 h13 h19 h25 h27
            unfold eventOk
            rw[hkd]
            rcases hy:e.yes with _|_<;>refine Bool.eq_iff_iff.2 ?_<;>simp[fieldB,hK,hC,hT,hA,hF,hY,inB,eqVals,amtOk,keyOk,chOk]at * <;> omega
          ·intro h27
           refine asB 161 false Z h27<|sL<|lbB Z<|laB Z<|nG ?_
           refine AW.cond rfl ?_ ?_
           ·intro h29
            refine asB 161 true Z h29<|aK<|gT<|aY Z<|sL<|lf 1 ty.F40_1 Z<|loI ty.kd3 Z<|lf 1 ty.F40_1 Z<|lst (zB 2003 ty.co3 ty.inf3 Z) Z<|lT [1,2,3,4] [2001,2003] ?_
            refine nG<|aL<|lf 1 ty.F40_1 Z<|loI ty.kd3 Z<|lst (zL Try.func96 (isKey_e _) Z) Z<|laB Z<|lN<|gB<|gA<|lmB Z<|lmB Z ?_
            refine AL.bool (t:=175) rfl ?_ ?_
            ·intro h30
             refine loX (.agg [vI _ _,vI _ _,vI _ _,vI _ _,vI _ _,vI _ _,vB _]) ty.kd40 Z<|loX (.agg [vI _ _,vI _ _,vI _ _,vI _ _,vI _ _,vI _ _,vB false]) ty.kd40 Z<|lq (rd (x:=vB _) (rd_eqS rfl (.inl rfl) rfl rfl ty.sf40 ty.su40 ty.sh40 ty.sg40 ?hn9) rfl) ?_
             case hn9=>exact⟨rfl,by decide,rfl,⟨_,Try.underlying3⟩,rfl,by decide,rfl,⟨_,Try.underlying3⟩,rfl,by decide,rfl,⟨_,Try.underlying3⟩,rfl,by decide,rfl,⟨_,Try.underlying3⟩,rfl,by decide,rfl,⟨_,Try.underlying3⟩,rfl,by decide,rfl,⟨_,Try.underlying3⟩,by decide,rfl,Try.underlying4,trivial⟩
             refine lkB Z<|laB Z<|nG<|aR ?_
             refine eBo trivial ?_
             have hkd:e.kind=10:=by simpa using h29
             have ha1:amtOk e.amt=true:=by simpa using h1
             have ha2:amtOk e.fee=true:=by simpa using h2
             clear h1 h2 h3 h5 h8 h10 h13 h19 h25 h27 h29
             unfold eventOk
             rw[hkd]
             rcases hy:e.yes with _|_<;>refine Bool.eq_iff_iff.2 ?_<;>simp[fieldB,hK,hC,hT,hA,hF,hY,inB,eqVals,amtOk,keyOk,chOk]at * <;> omega
            ·intro h30
             refine lno Z<|lno Z<|lno Z<|lkZ Z<|laZ Z<|nG<|aR ?_
             refine eBo trivial ?_
             have hkd:e.kind=10:=by simpa using h29
             have ha1:amtOk e.amt=true:=by simpa using h1
             have ha2:amtOk e.fee=true:=by simpa using h2
             clear h1 h2 h3 h5 h8 h10 h13 h19 h25 h27 h29
             unfold eventOk
             rw[hkd]
             rcases hy:e.yes with _|_<;>refine Bool.eq_iff_iff.2 ?_<;>simp[fieldB,hK,hC,hT,hA,hF,hY,inB,eqVals,amtOk,keyOk,chOk]at * <;> omega
           ·intro h29
            refine asB 161 false Z h29<|aL<|lbB Z<|laB Z<|nG ?_
            refine AW.cond rfl ?_ ?_
            ·intro h31
             refine sL<|lf 1 ty.F40_1 Z<|loI ty.kd3 Z<|lf 1 ty.F40_1 Z<|lst (zB 2003 ty.co3 ty.inf3 Z) Z<|lT [1,2,3,4] [2001,2003] ?_
             refine nG<|aL<|lf 1 ty.F40_1 Z<|loI ty.kd3 Z<|lst (zL Try.func96 (isKey_e _) Z) Z<|laB Z<|lN<|gB<|gA<|lmB Z<|lmB Z ?_
             refine AL.bool (t:=175) rfl ?_ ?_
             ·intro h32
              refine loX (.agg [vI _ _,vI _ _,vI _ _,vI _ _,vI _ _,vI _ _,vB _]) ty.kd40 Z<|loX (.agg [vI _ _,vI _ _,vI _ _,vI _ _,vI _ _,vI _ _,vB false]) ty.kd40 Z<|lq (rd (x:=vB _) (rd_eqS rfl (.inl rfl) rfl rfl ty.sf40 ty.su40 ty.sh40 ty.sg40 ?hn10) rfl) ?_
              case hn10=>exact⟨rfl,by decide,rfl,⟨_,Try.underlying3⟩,rfl,by decide,rfl,⟨_,Try.underlying3⟩,rfl,by decide,rfl,⟨_,Try.underlying3⟩,rfl,by decide,rfl,⟨_,Try.underlying3⟩,rfl,by decide,rfl,⟨_,Try.underlying3⟩,rfl,by decide,rfl,⟨_,Try.underlying3⟩,by decide,rfl,Try.underlying4,trivial⟩
              refine lkB Z<|laB Z<|nG<|aR ?_
              refine eBo trivial ?_
              have hkd:e.kind=11:=by simpa using h31
              have ha1:amtOk e.amt=true:=by simpa using h1
              have ha2:amtOk e.fee=true:=by simpa using h2
              clear h1 h2 h3 h5 h8 h10 h13 h19 h25 h27 h29 h31
              unfold eventOk
              rw[hkd]
              rcases hy:e.yes with _|_<;>refine Bool.eq_iff_iff.2 ?_<;>simp[fieldB,hK,hC,hT,hA,hF,hY,inB,eqVals,amtOk,keyOk,chOk]at * <;> omega
             ·intro h32
              refine lno Z<|lno Z<|lno Z<|lkZ Z<|laZ Z<|nG<|aR ?_
              refine eBo trivial ?_
              have hkd:e.kind=11:=by simpa using h31
              have ha1:amtOk e.amt=true:=by simpa using h1
              have ha2:amtOk e.fee=true:=by simpa using h2
              clear h1 h2 h3 h5 h8 h10 h13 h19 h25 h27 h29 h31
              unfold eventOk
              rw[hkd]
              rcases hy:e.yes with _|_<;>refine Bool.eq_iff_iff.2 ?_<;>simp[fieldB,hK,hC,hT,hA,hF,hY,inB,eqVals,amtOk,keyOk,chOk]at * <;> omega
            ·intro h31
             refine sL<|lbB Z<|laB Z<|nG ?_
             refine AW.cond rfl ?_ ?_
             ·intro h33
              refine aK<|gB<|gA<|lmT Z<|lmT Z<|loX (.agg [vI _ _,vI _ _,vI _ _,vI _ _,vI _ _,vI _ _,vB _]) ty.kd40 Z<|loX (.agg [vI _ _,vI _ _,vI _ _,vI _ _,vI _ _,vI _ _,vB false]) ty.kd40 Z<|lq (rd (x:=vB _) (rd_eqS rfl (.inl rfl) rfl rfl ty.sf40 ty.su40 ty.sh40 ty.sg40 ?hn11) rfl) ?_
              case hn11=>exact⟨rfl,by decide,rfl,⟨_,Try.underlying3⟩,rfl,by decide,rfl,⟨_,Try.underlying3⟩,rfl,by decide,rfl,⟨_,Try.underlying3⟩,rfl,by decide,rfl,⟨_,Try.underlying3⟩,rfl,by decide,rfl,⟨_,Try.underlying3⟩,rfl,by decide,rfl,⟨_,Try.underlying3⟩,by decide,rfl,Try.underlying4,trivial⟩
              refine lkB Z<|laB Z<|nG<|aR ?_
              refine eBo trivial ?_
              have hkd:e.kind=8:=by simpa using h33
              have ha1:amtOk e.amt=true:=by simpa using h1
              have ha2:amtOk e.fee=true:=by simpa using h2
              clear h1 h2 h3 h5 h8 h10 h13 h19 h25 h27 h29 h31 h33
              unfold eventOk
              rw[hkd]
              rcases hy:e.yes with _|_<;>refine Bool.eq_iff_iff.2 ?_<;>simp[fieldB,hK,hC,hT,hA,hF,hY,inB,eqVals,amtOk,keyOk,chOk]at * <;> omega
             ·intro h33
              refine sL<|laZ Z<|nG<|aR<|rB<|rT ?_
              refine eBo trivial ?_
              refine(evNone ?_).symm
              have:True:=trivial
              simp only[decide_eq_false_iff_not]at *
              omega

theorem BytesOk.nil:BytesOk []:=fun b hb=>by cases hb
theorem BytesOk.app{l m:List Int}(h:BytesOk l)(g:BytesOk m):BytesOk (l++m):=fun b hb=>by
 rcases List.mem_append.1 hb with q|q
 ·exact h b q
 ·exact g b q
theorem BytesOk.cons{x:Int}{l:List Int}(h0:0≤x)(h1:x≤255)(h:BytesOk l):BytesOk (x::l):=fun b hb=>by
 rcases List.mem_cons.1 hb with rfl|q
 ·exact⟨h0,h1⟩
 ·exact h b q
theorem BytesOk.zero(n:Nat):BytesOk (List.replicate n 0):=fun b hb=>by rw[(List.mem_replicate.1 hb).2];omega
theorem BytesOk.take{l:List Int}(h:BytesOk l)(n:Nat):BytesOk (l.take n):=fun b hb=>h b (List.mem_of_mem_take hb)
theorem BytesOk.drop{l:List Int}(h:BytesOk l)(n:Nat):BytesOk (l.drop n):=fun b hb=>h b (List.mem_of_mem_drop hb)
-- ---------- sectors
def secOk(s:Sector):Bool:=inB s.seq 0 599&&inB s.epoch 1 16000000&&decide (s.body.length≤100)
def secB(s:Sector):List Int:=[74]++numB 3 s.seq++numB 3 s.epoch++[(s.body.length:Int)]++s.body++List.replicate (114-s.body.length) 0++numB 3 s.seq++numB 3 s.epoch
def secC(b:List Int):Sector:=⟨valB ((b.drop 1).take 3),valB ((b.drop 4).take 3),(b.drop 8).take (b.getD 7 0).toNat⟩
def secF(b:List Int):Bool:=decide (b.length=128)&&decide (b.getD 7 0≤100)&&(secOk (secC b)&&decide (secB (secC b)=b))
def secR(b:List Int):Sector:=if secF b then secC b else ⟨0,0,[]⟩
theorem secOk_iff{s:Sector}:secOk s=true↔(0≤s.seq∧s.seq≤599)∧(1≤s.epoch∧s.epoch≤16000000)∧s.body.length≤100:=by
 unfold secOk;simp[inB,and_assoc]
theorem secB_length{s:Sector}(h:s.body.length≤100):(secB s).length=128:=by
 unfold secB;simp only[List.length_append,List.length_cons,List.length_nil,numB_length,List.length_replicate];omega
theorem secB_ok{s:Sector}(h:BytesOk s.body)(hl:s.body.length≤100):BytesOk (secB s):=by
 unfold secB
 exact(((((((BytesOk.cons (by omega) (by omega) .nil).app (numB_ok _ _)).app (numB_ok _ _)).app (.cons (by omega) (by omega) .nil)).app h).app (.zero _)).app (numB_ok _ _)).app (numB_ok _ _)
theorem secR_yes{b:List Int}(h:secF b=true):secR b=secC b:=if_pos h
theorem secR_no{b:List Int}(h:secF b=false):secR b=⟨0,0,[]⟩:=if_neg (by simp[h])
theorem secF_iff{b:List Int}:secF b=true↔b.length=128∧b.getD 7 0≤100∧secOk (secC b)=true∧secB (secC b)=b:=by
 unfold secF;simp[and_assoc]
theorem secC_body{b:List Int}(h:BytesOk b):BytesOk (secC b).body:=(h.drop 8).take _
theorem secC_secB{s:Sector}(h:secOk s=true):secC (secB s)=s:=by
 obtain⟨⟨a1,a2⟩,⟨b1,b2⟩,hl⟩:=secOk_iff.1 h
 have e1:(secB s).drop 1=numB 3 s.seq++(numB 3 s.epoch++([(s.body.length:Int)]++(s.body++(List.replicate (114-s.body.length) 0++(numB 3 s.seq++numB 3 s.epoch))))):=by
  unfold secB;simp only[List.append_assoc];rfl
 have e4:(secB s).drop 4=numB 3 s.epoch++([(s.body.length:Int)]++(s.body++(List.replicate (114-s.body.length) 0++(numB 3 s.seq++numB 3 s.epoch)))):=by
  rw[show (4:Nat)=1+3 from rfl,←List.drop_drop,e1,List.drop_left' (numB_length _ _)]
 have e7:(secB s).drop 7=[(s.body.length:Int)]++(s.body++(List.replicate (114-s.body.length) 0++(numB 3 s.seq++numB 3 s.epoch))):=by
  rw[show (7:Nat)=4+3 from rfl,←List.drop_drop,e4,List.drop_left' (numB_length _ _)]
 have e8:(secB s).drop 8=s.body++(List.replicate (114-s.body.length) 0++(numB 3 s.seq++numB 3 s.epoch)):=by
  rw[show (8:Nat)=7+1 from rfl,←List.drop_drop,e7];rfl
 have g7:(secB s).getD 7 0=(s.body.length:Int):=by
  have:(secB s)[7]? = ((secB s).drop 7)[0]?:=by rw[List.getElem?_drop]
  rw[List.getD_eq_getElem?_getD,this,e7];rfl
 have p3:∀n:Int,(numB 3 n).length=3:=fun n=>numB_length n 3
 unfold secC
 rw[g7,e1,e4,e8,List.take_left' (p3 _),List.take_left' (p3 _),valB_numB a1 (by omega),valB_numB (by omega) (by omega),Int.toNat_natCast,List.take_left]
theorem secF_secB{s:Sector}(h:secOk s=true):secF (secB s)=true:=by
 obtain⟨_,_,hl⟩:=secOk_iff.1 h
 rw[secF_iff,secC_secB h]
 refine⟨secB_length hl,?_,h,rfl⟩
 have e:(secC (secB s)).body=s.body:=by rw[secC_secB h]
 have g7:(secB s).getD 7 0=(s.body.length:Int):=by
  have e1:(secB s).drop 1=numB 3 s.seq++(numB 3 s.epoch++([(s.body.length:Int)]++(s.body++(List.replicate (114-s.body.length) 0++(numB 3 s.seq++numB 3 s.epoch))))):=by
   unfold secB;simp only[List.append_assoc];rfl
  have e7:(secB s).drop 7=[(s.body.length:Int)]++(s.body++(List.replicate (114-s.body.length) 0++(numB 3 s.seq++numB 3 s.epoch))):=by
   rw[show (7:Nat)=1+3+3 from rfl,←List.drop_drop,←List.drop_drop,e1,List.drop_left' (numB_length _ _),List.drop_left' (numB_length _ _)]
  have:(secB s)[7]? = ((secB s).drop 7)[0]?:=by rw[List.getElem?_drop]
  rw[List.getD_eq_getElem?_getD,this,e7];rfl
 rw[g7];omega
-- ---------- events as bytes
def evB(e:Event):List Int:=[69,e.kind]++numB 3 e.key++[e.ch,e.to]++numB 7 e.amt++numB 7 e.fee++[if e.yes then 1 else 0]
def evC(b:List Int):Event:=⟨b.getD 1 0,valB ((b.drop 2).take 3),b.getD 5 0,b.getD 6 0,valB ((b.drop 7).take 7),valB ((b.drop 14).take 7),b.getD 21 0==1⟩
def evF(b:List Int):Bool:=decide (b.length=22)&&(eventOk (evC b)&&decide (evB (evC b)=b))
theorem evB_length(e:Event):(evB e).length=22:=by unfold evB;simp[numB_length]
-- ---------- disks
def fullB(b:List Int):List Int:=if b.length=0 then List.replicate 128 0 else b
def cellOk(c:Cell):Bool:=decide (c.bytes.length=0)||decide (c.bytes.length=128)
def wrOk(n:Nat)(w:Write):Bool:=inB w.at_ 0 ((n:Int)-1)&&decide (w.bytes.length=128)
def diskOk(d:Disk):Bool:=inB (d.cells.length:Int) 1 600&&decide (d.dirty.length≤600)&&d.cells.all cellOk&&d.dirty.all (wrOk d.cells.length)
def lastW:List Write→Int→Option (List Int)
 |[],_=>none
 |w::r,at_=>match lastW r at_ with|some b=>some b|none=>if w.at_=at_ then some w.bytes else none
def diskAt(d:Disk)(i:Nat):List Int:=match lastW d.dirty i with|some b=>b|none=>fullB ((d.cells[i]?).getD ⟨[]⟩).bytes
def views(d:Disk):List (List Int):=(List.range d.cells.length).map (diskAt d)
def diskW(d:Disk)(i:Nat)(b:List Int):Disk:=⟨d.cells,d.dirty++[⟨i,b⟩]⟩
def torn(old new:List Int)(n:Nat):List Int:=new.take n++(fullB old).drop n
def crashK(keep:List Int)(k:Nat):Nat:=(min (max ((keep[k]?).getD 0) 0) 128).toNat
def crashStep(keep:List Int)(cs:List Cell)(k:Nat)(w:Write):List Cell:=if crashK keep k=0 then cs else cs.set w.at_.toNat ⟨torn ((cs[w.at_.toNat]?).getD ⟨[]⟩).bytes w.bytes (crashK keep k)⟩
def crashGo(keep:List Int):List Write→Nat→List Cell→List Cell
 |[],_,cs=>cs
 |w::r,k,cs=>crashGo keep r (k+1) (crashStep keep cs k w)
def diskC(d:Disk)(keep:List Int):Disk:=if diskOk d then ⟨crashGo keep d.dirty 0 d.cells,[]⟩else ⟨[],[]⟩
def syncStep(cs:List Cell)(w:Write):List Cell:=cs.set w.at_.toNat ⟨w.bytes⟩
def diskS(d:Disk):Disk:=if diskOk d then ⟨d.dirty.foldl syncStep d.cells,[]⟩else ⟨[],[]⟩
-- ---------- logs
def goesOn(acc:List Sector)(b:List Int):Bool:=secF b&&((secC b).seq==(acc.length:Int))&&(match acc.getLast? with|some s=>decide (s.epoch≤(secC b).epoch)|none=>true)
def logRun:List (List Int)→List Sector→List Sector
 |[],acc=>acc
 |b::r,acc=>if goesOn acc b then logRun r (acc++[secC b])else acc
def logR(d:Disk):List Sector:=if diskOk d then logRun (views d) []else []
def topOf(bs:List (List Int)):Int:=bs.foldl (fun t b=>max t (secR b).epoch) 0
def logTop(d:Disk):Int:=if diskOk d then topOf (views d)else 0
def evsOf(l:List Sector):List Event:=l.filterMap fun s=>if evF s.body then some (evC s.body)else none
def logE(d:Disk):List Event:=evsOf (logR d)
def lgOpC(d:Disk):Int:=if diskOk d&&decide (d.dirty.length=0)then (if (logR d).length=d.cells.length∨16000000≤logTop d then 2 else 0)else 1
def lgOpL(d:Disk):Log:=if lgOpC d=0 then ⟨diskS (diskW d (logR d).length (secB ⟨(logR d).length,logTop d+1,[66]⟩)),(logR d).length+1,logTop d+1⟩else ⟨⟨[],[]⟩,0,0⟩
def lgOpE(d:Disk):List Event:=if lgOpC d=0 then logE d else []
def lgAddC(l:Log)(e:Event):Int:=if diskOk l.disk&&inB l.next 0 l.disk.cells.length&&inB l.epoch 1 16000000&&eventOk e then (if l.next=l.disk.cells.length∨600≤l.disk.dirty.length then 2 else 0)else 1
def lgAddL(l:Log)(e:Event):Log:=if lgAddC l e=0 then ⟨diskW l.disk l.next.toNat (secB ⟨l.next,l.epoch,evB e⟩),l.next+1,l.epoch⟩else ⟨⟨[],[]⟩,0,0⟩
def lgSyL(l:Log):Log:=if diskOk l.disk then ⟨diskS l.disk,l.next,l.epoch⟩else ⟨⟨[],[]⟩,0,0⟩
end Go.Proofs.Yteblcdnhnckkaaa

