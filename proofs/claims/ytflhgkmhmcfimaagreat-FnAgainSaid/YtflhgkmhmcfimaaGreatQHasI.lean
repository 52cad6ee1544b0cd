/- Texts joined: HasI, BkP. -/
import Derived.Test.YtflhgkmhmcfimaaGreatQOwn
import Derived.Test.YtflhgkmhmcfimaaGreatQNum
namespace Go.Proofs.YtflhgkmhmcfimaaGreat
set_option maxRecDepth 100000
open Go.RowKit
set_option linter.unusedSimpArgs false
set_option linter.unusedVariables false
theorem dd.take{α:Type}{sz:Nat}{dg:World->Nat->Nat->List Value->α->Prop}{w:World}{lo hi c:Nat}{a:Option Addr}{xs:List α}(h:dd sz dg w lo hi (.slice a xs.length c) xs)(k:Nat)(hk:k<=xs.length) :
 dd sz dg w lo hi (.slice a (xs.take k).length c) (xs.take k):=by
 obtain⟨a_,c_,pk,V,h2,h3⟩:=h
 injection pk with q1 q2 q3
 subst q1 q3
 have hl:(xs.take k).length=k:=by rw[List.length_take];omega
 refine⟨_,_,rfl,by omega,h2,?_⟩
 rcases h3 with h3|⟨b,off,ha,lG,kA,he⟩
 ·exact .inl (by rw[h3];simp)
 exact .inr ⟨b,off,ha,lG,kA,fun i hU=>by
  obtain⟨cs,hr,hc⟩:=he i (by omega);exact⟨cs,by simpa using hr,hc⟩⟩
def wm(l:List Int)(n:Int):Bool:=l.any (fun x=>x==n)
theorem Jn{l:List Int}{n:Int}{k:Nat}(hk:k<l.length)(h:l[k]=n):wm l n=true:=by
 unfold wm;rw[List.any_eq_true];exact⟨l[k],List.getElem_mem hk,by simpa using h⟩
theorem PW{l:List Int}{n:Int}(h:∀j (h:j<l.length),l[j]≠n):wm l n=false:=by
 unfold wm;rw[List.any_eq_false];intro x hx;obtain⟨j,hj,rfl⟩:=List.getElem_of_mem hx;simpa using h j hj
end Go.Proofs.YtflhgkmhmcfimaaGreat
namespace Go.Proofs.YtflhgkmhmcfimaaGreat
set_option maxRecDepth 100000
open Go.RowKit
set_option linter.unusedSimpArgs false
set_option linter.unusedVariables false
def eS(l:List be)(ch:Int):Int:=match l.findIdx? (fun c=>c.id==ch)with|some i=>(i:Int)|none=>-1
theorem PO{l:List be}{ch:Int}{k:Nat}(hk:k<l.length)(h:∀j (h:j<l.length),j<k->l[j].id≠ch)(h2:l[k].id=ch):eS l ch=(k:Int):=by
 unfold eS;rw[List.findIdx?_eq_some_iff_getElem.2 ⟨hk,by simpa using h2,fun j hj=>by simpa using h j (by omega) hj⟩]
theorem PP{l:List be}{ch:Int}(h:∀j (h:j<l.length),l[j].id≠ch):eS l ch=-1:=by
 unfold eS;rw[List.findIdx?_eq_none_iff.2 (fun x hx=>by
  obtain⟨j,hj,rfl⟩:=List.getElem_of_mem hx;simpa using h j hj)]
def two(l:List be)(a b:Int):Bool:=!(a==b)&&decide (0<=eS l a)&&decide (0<=eS l b)
def fE(n:Int):Bool:=aI n 1 1000000
def gf(n:Int):Bool:=aI n 1 99
def bG{α:Type}(f:α->Int)(l:List α):Int:=(l.map f).sum
theorem EF{α:Type}(f:α->Int):bG f []=0:=rfl
theorem oJ{α:Type}(f:α->Int)(l:List α){k:Nat}(hk:k<l.length):bG f (l.take (k+1))=bG f (l.take k)+f l[k]:=by
 unfold bG;rw[List.take_succ_eq_append_getElem hk,List.map_append,List.sum_append];simp
theorem sd{α:Type}(f:α->Int)(M:Int)(hM:0<=M):∀(l:List α),(∀x∈l,0<=f x/\f x<=M)->0<=bG f l/\bG f l<=l.length*M
 |[],_=>by simp[bG]
 |x::r,h=>by
  have V:=h x (by simp);have h2:=sd f M hM r (fun y hy=>h y (by simp[hy]));have e:bG f (x::r)=f x+bG f r:=by simp[bG]
  rw[e,List.length_cons];have:((r.length+1:Nat):Int)*M=r.length*M+M:=by rw[Int.natCast_add,Int.add_mul];simp
  rw[this];omega
theorem P3{α:Type}(f:α->Int)(M:Int)(hM:0<=M)(l:List α)(h:∀x∈l,0<=f x/\f x<=M)(k:Nat):0<=bG f (l.take k)/\bG f (l.take k)<=l.length*M:=by
 obtain⟨V,h2⟩:=sd f M hM (l.take k) (fun x hx=>h x (List.mem_of_mem_take hx));refine⟨V,Int.le_trans h2 (Int.mul_le_mul_of_nonneg_right ?_ hM)⟩;have:(l.take k).length<=l.length:=by rw[List.length_take];omega
 omega
def dK(ch:Int)(h:eV):Int:=if h.out=ch then h.c9 else 0
def gx(ch:Int)(h:eV):Int:=if h.gh=ch then h.cW else 0
def eR(ch:Int)(c:gz):Int:=if c.fI=ch then c.af+c.ay else 0
def ix(ch:Int)(c:gz):Int:=if c.to=ch then c.af else 0
def fB(x:aw)(ch:Int):Int:=bG (dK ch) x.an+bG (eR ch) x.aq
def jh(x:aw)(ch:Int):Int:=bG (gx ch) x.an+bG (ix ch) x.aq
structure Small(x:aw):Prop where
 nh:x.an.length<=60
 nc:x.aq.length<=20
 h:∀h∈x.an,0<=h.cW/\h.cW<=1125899906842624/\0<=h.c9/\h.c9<=1125899906842624
 c:∀c∈x.aq,0<=c.af/\c.af<=1125899906842624/\0<=c.ay/\c.ay<=1125899906842624
theorem Small.dK{x:aw}(s:Small x)(ch:Int):∀h∈x.an,0<=dK ch h/\dK ch h<=1125899906842624:=fun h hh=>by
 have:=s.h h hh;unfold Go.Proofs.YtflhgkmhmcfimaaGreat.dK;split<;>omega
theorem Small.gx{x:aw}(s:Small x)(ch:Int):∀h∈x.an,0<=gx ch h/\gx ch h<=1125899906842624:=fun h hh=>by
 have:=s.h h hh;unfold Go.Proofs.YtflhgkmhmcfimaaGreat.gx;split<;>omega
theorem Small.eR{x:aw}(s:Small x)(ch:Int):∀c∈x.aq,0<=eR ch c/\eR ch c<=2251799813685248:=fun c hc=>by
 have:=s.c c hc;unfold Go.Proofs.YtflhgkmhmcfimaaGreat.eR;split<;>omega
theorem Small.ix{x:aw}(s:Small x)(ch:Int):∀c∈x.aq,0<=ix ch c/\ix ch c<=2251799813685248:=fun c hc=>by
 have:=s.c c hc;unfold Go.Proofs.YtflhgkmhmcfimaaGreat.ix;split<;>omega
theorem oI{α:Type}{f:α->Int}{M:Int}{l:List α}(N:Nat)(hM:0<=M)(h:∀x∈l,0<=f x/\f x<=M)(hl:l.length<=N)(k:Nat):0<=bG f (l.take k)/\bG f (l.take k)<=N*M:=by
 obtain⟨V,h2⟩:=P3 f M hM l h k;exact⟨V,Int.le_trans h2 (Int.mul_le_mul_of_nonneg_right (by omega) hM)⟩
def qz(l:List be)(h:eV):Bool:=bb h.cW&&decide (1<=h.c9)&&decide (h.c9<=h.cW)&&bb h.jP&&two l h.gh h.out
def qA(l:List be)(c:gz):Bool:=bb c.af&&decide (1<=c.af)&&bb c.ay&&two l c.fI c.to
def dN(x:aw):List Int:=x.an.map (·.key)++x.aq.map (·.key)
def kV(ks:List Int)(i:Nat):Bool:=fE (ks.getD i 0)&&!wm (ks.take i) (ks.getD i 0)
def wj(ks:List Int):Bool:=(List.range ks.length).all (kV ks)
def kW(x:aw):Bool:=decide (x.an.length<=60)&&decide (x.aq.length<=20)&&x.an.all (qz x.ag)&&x.aq.all (qA x.ag)&&wj (dN x)
theorem xR{l:List be}{h:eV}:qz l h=true↔bb h.cW=true/\1<=h.c9/\h.c9<=h.cW/\bb h.jP=true/\two l h.gh h.out=true:=by
 simp[qz,and_assoc]
theorem wn{l:List be}{c:gz}:qA l c=true↔bb c.af=true/\1<=c.af/\bb c.ay=true/\two l c.fI c.to=true:=by
 simp[qA,and_assoc]
theorem FB{α:Type}{p:α->Bool}{l:List α}{k:Nat}(hk:k<l.length):(l.take (k+1)).all p=((l.take k).all p&&p l[k]):=by
 rw[List.take_succ_eq_append_getElem hk,List.all_append];simp
theorem PZ{α:Type}{p:α->Bool}{l:List α}{k:Nat}(hk:k<l.length)(h:p l[k]=false):l.all p=false:=by
 rw[List.all_eq_false];exact⟨l[k],List.getElem_mem hk,by simp[h]⟩
theorem Da{ks:List Int}{k:Nat}(hk:k<ks.length)(h:kV ks k=false):wj ks=false:=by
 unfold wj;rw[List.all_eq_false];exact⟨k,by simpa using hk,by simp[h]⟩
theorem IY{ks:List Int}(h:∀j,j<ks.length->kV ks j=true):wj ks=true:=by
 unfold wj;rw[List.all_eq_true];intro j hj;exact h j (by simpa using hj)
def xQ(n:Int):Bool:=aI n (-100) 100
def pS(c:be):Bool:=gf c.id&&bb c.loc&&bb c.aC&&bb c.base&&aI c.br 0 1000000&&xQ c.cM&&bb c.size
def ss(x:aw)(c:be):Bool:=c.size==c.loc+c.aC+fB x c.id+jh x c.id
def su(l:List be)(i:Nat):Bool:=match i with|0=>true|j+1=>match l[j]?,l[j+1]? with|some a,some b=>decide (a.id<b.id)|_,_=>true
def n5(x:aw)(i:Nat):Bool:=match x.ag[i]? with|some c=>pS c&&su x.ag i&&ss x c|none=>true
def wy(x:aw):Bool:=(List.range x.ag.length).all (n5 x)
def eG(x:aw):Bool:=bb x.tick&&bb x.aA&&aI x.next 1 1125899906842624&&decide (x.ag.length<=20)&&kW x&&wy x
theorem ZV{x:aw}{k:Nat}(hk:k<x.ag.length)(h:n5 x k=false):wy x=false:=by
 unfold wy;rw[List.all_eq_false];exact⟨k,by simpa using hk,by simp[h]⟩
theorem I2{x:aw}(h:∀j,j<x.ag.length->n5 x j=true):wy x=true:=by
 unfold wy;rw[List.all_eq_true];intro j hj;exact h j (by simpa using hj)
theorem Jr{x:aw}(h:kW x=true):Small x:=by
 unfold kW at h;simp only[Bool.and_eq_true,decide_eq_true_eq,List.all_eq_true]at h;obtain⟨⟨⟨⟨V,h2⟩,h3⟩,h4⟩,_⟩:=h;refine⟨V,h2,fun e he=>?_,fun e he=>?_⟩
 ·obtain⟨d1,d2,d3,_,_⟩:=xR.1 (h3 e he);have:=cY.1 d1;omega
 obtain⟨d1,d2,d3,_⟩:=wn.1 (h4 e he);have:=cY.1 d1;have:=cY.1 d3;omega
theorem Dc{x:aw}(s:Small x)(ch:Int):0<=fB x ch/\fB x ch<=112589990684262400/\0<=jh x ch/\jh x ch<=112589990684262400:=by
 have a:=oI 60 (by omega) (s.dK ch) s.nh x.an.length;have b:=oI 60 (by omega) (s.gx ch) s.nh x.an.length;have c:=oI 20 (by omega) (s.eR ch) s.nc x.aq.length;have d:=oI 20 (by omega) (s.ix ch) s.nc x.aq.length;rw[List.take_length]at a b c d;unfold fB jh;omega
end Go.Proofs.YtflhgkmhmcfimaaGreat
