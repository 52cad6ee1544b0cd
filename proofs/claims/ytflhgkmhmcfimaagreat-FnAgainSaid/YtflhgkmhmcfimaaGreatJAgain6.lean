/- Texts of the proof of FnFnAgain, joined: EA1, EA2. -/
import Derived.Test.YtflhgkmhmcfimaaGreatJAgain5
import Derived.Test.YtflhgkmhmcfimaaGreatJAgain3
import Derived.Test.YtflhgkmhmcfimaaGreatQDiv2
namespace Go.Proofs.YtflhgkmhmcfimaaGreat
open Tryz
open Go.RowKit
set_option maxHeartbeats 16000000
set_option maxRecDepth 100000
set_option linter.unusedSimpArgs false
set_option linter.unusedVariables false
def cg(a b:Acc):Bool:=decide (a.kind<b.kind)||((a.kind==b.kind)&&decide (a.ch<b.ch))
def dL(n:Int):Bool:=aI n (-1125899906842624) 1125899906842624
theorem vi(x y:Int):decide (x=y)=(x==y):=by rfl
def fM:List aO->List aO->Option (List aO)
 |[],b=>some b
 |x::a,[]=>some (x::a)
 |x::a,y::b=>
  if cg x.acc y.acc then (fM a (y::b)).map (x::·)
  else if cg y.acc x.acc then (fM (x::a) b).map (y::·)
  else if dL (x.af+y.af)then (if x.af+y.af=0 then fM a b else (fM a b).map (⟨x.acc,x.af+y.af⟩::·))
  else none
termination_by a b=>a.length+b.length
theorem yo(b:List aO):fM [] b=some b:=by grind[fM]
theorem z6:∀(a:List aO),fM a []=some a
 |[]=>by grind[fM]
 |x::a=>by grind[fM]
theorem BI{x y:aO}{a b:List aO}(h:cg x.acc y.acc=true):fM (x::a) (y::b)=(fM a (y::b)).map (x::·):=by
 simp_all[fM]
theorem BJ{x y:aO}{a b:List aO}(h:cg x.acc y.acc=false)(h2:cg y.acc x.acc=true):fM (x::a) (y::b)=(fM (x::a) b).map (y::·):=by
 simp_all[fM]
theorem MR{x y:aO}{a b:List aO}(h:cg x.acc y.acc=false)(h2:cg y.acc x.acc=false)(h3:dL (x.af+y.af)=false):fM (x::a) (y::b)=none:=by
 simp_all[fM]
theorem Eb{x y:aO}{a b:List aO}(h:cg x.acc y.acc=false)(h2:cg y.acc x.acc=false)(h3:dL (x.af+y.af)=true)(h4:x.af+y.af=0):fM (x::a) (y::b)=fM a b:=by
 simp_all[fM]
theorem Ec{x y:aO}{a b:List aO}(h:cg x.acc y.acc=false)(h2:cg y.acc x.acc=false)(h3:dL (x.af+y.af)=true)(h4:¬x.af+y.af=0):fM (x::a) (y::b)=(fM a b).map (⟨x.acc,x.af+y.af⟩::·):=by
 simp_all[fM]
theorem I6{o:List aO}{x:aO}{m:Option (List aO)}:(m.map (x::·)).map (o++·)=m.map ((o++[x])++·):=by cases m<;>simp
theorem fx{α:Type}(enc:α->List Value)(xs ys:List α):ah enc (xs++ys)=ah enc xs++ah enc ys:=List.map_append
theorem xS{α:Type}{enc:α->List Value}{x:α}{xs:List α}:((ah enc (x::xs)).take (ah enc (x::xs)).length).drop 1=ah enc xs:=by rw[List.take_length];rfl
def z7(a b:List aO):AV->List (Nat×AO)->Prop:=fun x bd=>match fM a b with
 |some l=>x=.au [.own 50,aD true]/\bd=[(50,.ai 167 3 (ah ct l))]
 |none=>x=.au [.p (.v (.slice none 0 0)),aD false]/\bd=[]
theorem pp{a b c:Int}:GC prog 92 [int a,int b,int c] [] (aD (aI a b c)) []:=by
 refine gi 6 func92 rfl ntmps92 rfl ?_;intro L O w0;refine sL<|ar Z<|nA<|ae Z<|ae Z<|ak Z<|aQ Z ?_;refine AL.bool (t:=10) rfl ?_ ?_
 ·intro V;refine ae Z<|ae Z<|ak Z<|bj Z<|bv Z<|Y<|aR ?_;refine az trivial ?_;grind[aI]
 intro V;refine aa Z<|aa Z<|aa Z<|bL Z<|ar Z<|Y<|aR ?_;refine az trivial ?_;grind[aI]
theorem HN(a b:Acc):GC prog 223 [.agg [int a.kind,int a.ch],.agg [int b.kind,int b.ch]] [] (aD (cg a b)) []:=by
 refine gi 4 func223 rfl ntmps223 rfl ?_;intro L O w0;refine sL<|ab (zX 2002 Z) Z<|ab (zX 2003 Z) Z<|ar Z<|nA<|lf 0 oW Z<|aj ac Z<|lf 0 oW Z<|aj ac Z<|ak Z<|aQ Z ?_;refine AL.bool (t:=10) rfl ?_ ?_
 ·intro V;refine aa Z<|aa Z<|aa Z<|aa Z<|aa Z<|aa Z<|aa Z<|aa Z<|aa Z<|aa Z<|aa Z<|aa Z<|aU Z<|cI Z<|Y<|aR ?_;refine az trivial ?_;grind[cg]
 intro V;refine lf 0 oW Z<|aj ac Z<|lf 0 oW Z<|aj ac Z<|ak Z<|aQ Z ?_;refine AL.bool (t:=16) rfl ?_ ?_
 ·intro h2;refine lf 1 rV Z<|aj ac Z<|lf 1 rV Z<|aj ac Z<|ak Z<|bj Z<|bj Z<|bv Z<|Y<|aR ?_;refine az trivial ?_;grind[cg]
 intro h2;refine aa Z<|aa Z<|aa Z<|aa Z<|aa Z<|bL Z<|bL Z<|ar Z<|Y<|aR ?_;refine az trivial ?_;grind[cg]
theorem x_8{p:Prop}(c:p:=by exact Nat.le_of_ble_eq_true rfl):p:=c
theorem x_18{p:Prop}(c:p:=by exact Src.own rfl rfl):p:=c
theorem x_35{p:Prop}(c:p:=by exact congrArg (AO.ai 167 3) (fx ct _ [_]).symm):p:=c
theorem x_62{p:Prop}(c:p:=by exact congrArg (fun r=>AV.p (.ab 167 3 r)) xS):p:=c
theorem x_69{p:Prop}(c:p:=by grind[ah]):p:=c
theorem x_82{p:Prop}(c:p:=by grind[i64]):p:=c
theorem Gc(a b:List aO)(hn:a.length+b.length<=1000000)(ha:∀z∈a,dL z.af=true)(hb:∀z∈b,dL z.af=true):GX prog 123 [.p (.ab 167 3 (ah ct a)),.p (.ab 167 3 (ah ct b))] [] (z7 a b):=by
 refine GX.intro (rs:=[.tmp 4,.tmp 5]) func123 rfl ntmps123 x_8 ⟨rfl,rfl,trivial⟩ ?_;intro L O w0;refine sL<|e9 Z<|ar Z<|nA<|e9 Z<|Y<|aS<|aB ?_;refine AW.oP 50 6 167 3 rfl ?_;refine aW [4,5] [] (D:=List aO×List aO×List aO) (fun d=>[(0,.p (.ab 167 3 (ah ct d.1))),(1,.p (.ab 167 3 (ah ct d.2.1))),(6,.own 50)]) (fun d=>[(50,.ai 167 3 (ah ct d.2.2))]) (fun d=>(fM d.1 d.2.1).map (d.2.2++·)=fM a b/\d.2.2.length+d.1.length+d.2.1.length<=a.length+b.length/\(∀z∈d.1,dL z.af=true)/\∀z∈d.2.1,dL z.af=true) (fun d=>d.1.length+d.2.1.length) ((a,b,[])) (⟨by simp,by simp,ha,hb⟩) ⟨rfl,rfl,rfl,trivial⟩ ⟨rfl,trivial⟩ ?_;intro d hI;obtain⟨a',b',o⟩:=d;obtain⟨hI,hlen,sc,xT⟩:=hI;dsimp only at hI hlen sc xT ⊢;rcases a' with _|⟨x,a2⟩<;>rcases b' with _|⟨y,b2⟩
 ·skip;refine aS<|sL<|bm Z<|ba hZ Z<|ak Z<|bJ 10 false rfl (by first|(simp[ah];done)|(simp[ah];omega))<|dm Z<|bm Z<|ba hZ Z<|ak Z<|bJ 14 false rfl (by first|(simp[ah];done)|(simp[ah];omega))<|bL Z<|Y<|aN Z<|aE<|eT<|eT<|eB<|gA<|bW Z<|bD Z<|cI Z<|Y<|aR ?_;have hm:fM a b=some o:=by rw[<-hI,yo];simp
  refine fN (.au [.own 50,aD true]) [(50,.ai 167 3 (ah ct o))] ?_ rfl ⟨rfl,trivial⟩;simp_all[z7]
 ·skip;refine aS<|sL<|bm Z<|ba hZ Z<|ak Z<|bJ 10 false rfl (by rfl)<|dm Z<|bm Z<|ba hZ Z<|ak Z<|bJ 14 true rfl x_69<|aU Z<|Y<|aY Z<|aK<|gT<|aB<|aB<|aS<|aG 19 []<|yq 0 (ng rfl)<|yq 1 (le hZ rfl)<|yq 2 (dt rfl)<|zl 46 false rfl (by rfl)<|yq 3 (rG rfl)<|yq 4 (ng rfl)<|yq 5 (le hZ rfl)<|yq 6 (dt rfl) ?_;refine zl 50 false rfl (by rfl)<|yq 7 (rG rfl)<|gX [0,1,4,5,6,47,51] [50] ?_;refine ep 8 Z<|ep 9 Z<|ep 10 Z<|ep 11 Z<|bt 12 Z<|bt 13 Z<|bt 14 Z<|bt 15 Z<|bt 16 Z<|yq 17 (kK rfl)<|yq 18 (kK rfl)<|yq 19 (oA rfl)<|gD<|gT<|aN Z<|aS<|aG 14 []<|yq 0 (ng rfl)<|yq 1 (le hZ rfl)<|yq 2 (dt rfl)<|zl 74 true rfl (by rfl)<|yq 3 (cF rfl)<|ep 4 Z<|ep 5 Z<|ep 6 Z<|ep 7 Z<|bt 8 Z<|bt 9 Z<|bt 10 Z<|bt 11 rfl ?_;refine bt 12 Z<|yq 13 (bA Z)<|yq 14 (Av Z)<|gD<|gT<|aY Z<|sL<|bW Z<|bm Z<|li 0 cV Z (Z)<|d6 oo iV Z<|ab (zS 2090 (ah ct [y]) cV eP Z) Z<|lT [0,1,4,5,6,86,90] [50,2090] ?_;refine ab (zP 50 cV eP lE Z (Src.own Z Z)) Z<|bD Z<|Y<|aL<|bm Z ?_;refine lq (rd (x:=c7) (p6 (l:=1) (h:=_) rfl cV rfl ⟨_,rfl⟩ rfl (by simp[ah]) (Nat.le_refl _)) rfl)<|nv Z<|lN<|gB<|gB<|gT ?_;refine⟨([],b2,o++[y]),⟨by grind[yo],by grind,sc,fun z hz=>xT z (List.mem_cons_of_mem _ hz)⟩,by simp,⟨rfl,x_62,rfl,trivial⟩,⟨x_35,trivial⟩,rfl,rfl⟩
 ·skip;refine aS<|sL<|bm Z<|ba hZ Z<|ak Z<|bJ 10 true rfl x_69<|bM Z<|aa Z<|aa Z<|aa Z<|aU Z<|Y<|aY Z<|aK<|gT<|aB<|aB<|aS<|aG 19 []<|yq 0 (ng rfl)<|yq 1 (le hZ rfl)<|yq 2 (dt rfl)<|zl 46 true rfl (by rfl)<|yq 3 (cF rfl)<|bt 4 Z<|bt 5 Z<|bt 6 Z<|bt 7 rfl ?_;refine ep 8 Z<|ep 9 Z<|ep 10 Z<|ep 11 Z<|bt 12 Z<|bt 13 Z<|bt 14 Z<|bt 15 Z<|bt 16 Z<|bt 17 Z<|yq 18 (bA Z)<|yq 19 (Av Z)<|gD<|gT<|aY Z<|sL<|bW Z<|bm Z<|li 0 cV Z (Z)<|d6 oo iV Z<|ab (zS 2067 (ah ct [x]) cV eP Z) Z<|lT [0,1,4,5,6,63,67] [50,2067] ?_;refine ab (zP 50 cV eP lE Z (Src.own Z Z)) Z<|bD Z<|Y<|aL<|bm Z ?_;refine lq (rd (x:=c7) (p6 (l:=1) (h:=_) rfl cV rfl ⟨_,rfl⟩ rfl (by simp[ah]) (Nat.le_refl _)) rfl)<|nv Z<|lN<|gB<|gB<|gT ?_;refine⟨(a2,[],o++[x]),⟨by grind[z6],by grind,fun z hz=>sc z (List.mem_cons_of_mem _ hz),xT⟩,by simp,⟨x_62,rfl,rfl,trivial⟩,⟨x_35,trivial⟩,rfl,rfl⟩
 skip;refine aS<|sL<|bm Z<|ba hZ Z<|ak Z<|bJ 10 true rfl x_69<|bM Z<|aa Z<|aa Z<|aa Z<|aU Z<|Y<|aY Z<|aK<|gT<|aB<|aB<|aS<|aG 19 []<|yq 0 (ng rfl)<|yq 1 (le hZ rfl)<|yq 2 (dt rfl)<|zl 46 false rfl (by rfl)<|yq 3 (rG rfl)<|yq 4 (ng rfl)<|yq 5 (le hZ rfl)<|yq 6 (dt rfl)<|zl 50 true rfl x_69 ?_;refine yq 7 (cF Z)<|tq 8 (ng Z)<|tq 9 (ri 0 cV Z (Z))<|tq 10 (rd (x:=.rp _) (nM jf Z) Z)<|tq 11 (gm pP i0 Z)<|yq 12 (ng Z)<|yq 13 (ri 0 cV Z (Z))<|yq 14 (rd (x:=.rp _) (nM jf Z) Z)<|yq 15 (gm pP i0 Z)<|cm 16 Z (zL func223 (HN _ _) Z)<|gX [0,1,4,5,6,47,51,60] [50] ?_;refine yq 17 (cv Z)<|yq 18 (cv Z)<|yq 19 (fk Z)<|gD<|gT<|cE rfl ?_ ?_
 ·intro V;refine sL<|bW Z<|bm Z<|li 0 cV Z (Z)<|d6 oo iV Z<|ab (zS 2067 (ah ct [x]) cV eP Z) Z<|ab (zP 50 cV eP lE Z (Src.own Z Z)) Z<|bD Z<|Y<|aL<|bm Z ?_;refine lq (rd (x:=c7) (p6 (l:=1) (h:=_) rfl cV rfl ⟨_,rfl⟩ rfl (by simp[ah]) (Nat.le_refl _)) rfl)<|nv Z<|lN<|gB<|gB<|gT ?_;refine⟨(a2,y::b2,o++[x]),⟨by grind[BI,I6],by grind,fun z hz=>sc z (List.mem_cons_of_mem _ hz),xT⟩,by simp,⟨x_62,rfl,rfl,trivial⟩,⟨x_35,trivial⟩,rfl,rfl⟩
 intro V;refine aS<|aG 14 []<|yq 0 (ng rfl)<|yq 1 (le hZ rfl)<|yq 2 (dt rfl)<|zl 74 false rfl (by rfl)<|yq 3 (rG rfl)<|tq 4 (ng rfl)<|tq 5 (ri 0 cV rfl (rfl))<|tq 6 (rd (x:=.rp _) (nM jf rfl) rfl)<|tq 7 (gm pP i0 rfl)<|yq 8 (ng rfl)<|yq 9 (ri 0 cV rfl (rfl))<|yq 10 (rd (x:=.rp _) (nM jf rfl) rfl)<|yq 11 (gm pP i0 rfl)<|cm 12 rfl (zL func223 (HN _ _) rfl)<|gX [0,1,4,5,6,75,84] [50] ?_;refine yq 13 (cv Z)<|yq 14 (fk Z)<|gD<|gT<|cE rfl ?_ ?_
 ·intro h2;refine sL<|bW Z<|bm Z<|li 0 cV Z (Z)<|d6 oo iV Z<|ab (zS 2090 (ah ct [y]) cV eP Z) Z<|ab (zP 50 cV eP lE Z (Src.own Z Z)) Z<|bD Z<|Y<|aL<|bm Z ?_;refine lq (rd (x:=c7) (p6 (l:=1) (h:=_) rfl cV rfl ⟨_,rfl⟩ rfl (by simp[ah]) (Nat.le_refl _)) rfl)<|nv Z<|lN<|gB<|gB<|gT ?_;refine⟨(x::a2,b2,o++[y]),⟨by grind[BJ,I6],by grind,sc,fun z hz=>xT z (List.mem_cons_of_mem _ hz)⟩,by simp,⟨rfl,x_62,rfl,trivial⟩,⟨x_35,trivial⟩,rfl,rfl⟩
 intro h2;refine aS<|aG 9 []<|tq 0 (ng Z)<|tq 1 (ri 0 cV Z (Z))<|tq 2 (rd (x:=.rp _) (nM ni Z) Z)<|tq 3 (qU ac Z)<|yq 4 (ng Z)<|yq 5 (ri 0 cV Z (Z))<|yq 6 (rd (x:=.rp _) (nM ni Z) Z)<|yq 7 (qU ac Z) ?_;have q1:=cJ.1 (sc x x_19);have q2:=cJ.1 (xT y x_19);refine yq 8 (qV rfl x_82)<|yq 9 (j8 rfl)<|gD<|gT<|aS<|sL<|ae Z<|ab (zL func92 (pp) rfl) Z<|lT [0,1,4,5,6,7,26] [50] ?_;refine bX Z<|Y<|cE rfl ?_ ?_
 ·intro h3;refine sL<|e9 Z<|ar Z<|Y<|aR<|rT<|rB<|rB<|rT<|rB<|rT ?_;have hm:fM a b=none:=by rw[<-hI,MR V h2 (by simpa[dL]using h3)];rfl
  refine fN (.au [.p (.v (.slice none 0 0)),aD false]) [] ?_ rfl trivial;simp_all[z7]
 intro h3;refine aK<|gT<|aS<|sL<|ae Z<|ak Z<|Y<|cE rfl ?_ ?_
 ·intro h4;refine aL<|bW Z<|bm Z<|li 0 cV Z (Z)<|lq (rd (x:=.rp _) (nM jf Z) Z)<|d6 pP i0 Z<|ae Z<|lq (rd (x:=oo) (cP Z DK Z Z Z) Z) ?_;refine ab (zS 2037 (ah ct [⟨x.acc,x.af+y.af⟩]) cV eP rfl) Z<|ab (zP 50 cV eP lE rfl x_18) Z<|lT [0,1,4,5,38] [50,2037] ?_;refine bD Z<|Y<|aG 5 []<|tq 0 (ng Z) ?_;refine tq 1 (rd (x:=c7) (p6 (l:=1) (h:=_) rfl cV rfl ⟨_,rfl⟩ rfl (by simp[ah]) (Nat.le_refl _)) rfl)<|tq 2 (ng rfl) ?_;refine tq 3 (rd (x:=c7) (p6 (l:=1) (h:=_) rfl cV rfl ⟨_,rfl⟩ rfl (by simp[ah]) (Nat.le_refl _)) rfl)<|yq 4 (Cx rfl)<|yq 5 (Cx rfl)<|gD<|gB<|gB<|gT ?_;refine⟨(a2,b2,o++[⟨x.acc,x.af+y.af⟩]),⟨by grind[Ec,dL,I6],by grind,fun z hz=>sc z (List.mem_cons_of_mem _ hz),fun z hz=>xT z (List.mem_cons_of_mem _ hz)⟩,by grind,⟨x_62,x_62,rfl,trivial⟩,⟨x_35,trivial⟩,rfl,rfl⟩
 intro h4;refine aK<|gT<|aG 5 []<|tq 0 (ng Z) ?_;refine tq 1 (rd (x:=c7) (p6 (l:=1) (h:=_) rfl cV rfl ⟨_,rfl⟩ rfl (by simp[ah]) (Nat.le_refl _)) rfl)<|tq 2 (ng rfl) ?_;refine tq 3 (rd (x:=c7) (p6 (l:=1) (h:=_) rfl cV rfl ⟨_,rfl⟩ rfl (by simp[ah]) (Nat.le_refl _)) rfl)<|yq 4 (Cx rfl)<|yq 5 (Cx rfl)<|gD<|gB<|gB<|gT ?_;refine⟨(a2,b2,o),⟨by grind[Eb,dL],by grind,fun z hz=>sc z (List.mem_cons_of_mem _ hz),fun z hz=>xT z (List.mem_cons_of_mem _ hz)⟩,by grind,⟨x_62,x_62,rfl,trivial⟩,⟨rfl,trivial⟩,rfl,rfl⟩

abbrev u64(n:Int):AV:=.p (.v (.int .u64 n))
theorem YT:GC prog 281 [u64 1000000] [] (int 44) []:=qR (r:=.int .i64 44) (fX rfl) rfl fun w=>by
 refine(bits_LeadingZeros64 1000000 w x_2 x_2).mono ?_;rintro e w' ⟨rfl,rfl⟩;exact⟨by congr 2,cZ.refl _⟩
theorem YU(a b:Int)(a0:0<=a)(a1:a<=1125899906842624)(b0:0<=b)(b1:b<=1125899906842624):GC prog 279 [u64 a,u64 b] [] (.au [u64 (a*b/18446744073709551616),u64 (a*b%18446744073709551616)]) []:=
 qR (r:=.tuple #[.int .u64 (a*b/18446744073709551616),.int .u64 (a*b%18446744073709551616)]) (IF (cs:=[.int .u64 (a*b/18446744073709551616),.int .u64 (a*b%18446744073709551616)]) rfl rfl) rfl fun w=>by
  obtain⟨A,rfl⟩:=Int.eq_ofNat_of_zero_le a0;obtain⟨C,rfl⟩:=Int.eq_ofNat_of_zero_le b0;refine(bits_Mul64 A C x_2 x_2 w).mono ?_;simp[cZ.refl]
theorem wM(n:Int):GC prog 189 [int n] [] (aD (bb n)) []:=qR (r:=.bool (bb n)) (fX rfl) rfl fun w=>(oD n w).mono fun e w' h=>⟨h.1,h.2▸cZ.refl _⟩
theorem CY(n:Int):GC prog 242 [int n] [] (aD (bb n)) []:=qR (r:=.bool (bb n)) (fX rfl) rfl fun w=>(oE n w).mono fun e w' h=>⟨h.1,h.2▸cZ.refl _⟩
def gI(a b:Int):Bool:=bb a&&bb b&&bb (a+b)
def eM(a b:Int):Int:=if gI a b then a+b else 0
theorem YV{a b:Int}(h:gI a b=false):eM a b=0:=by grind[eM]
theorem ye{a b:Int}(h:gI a b=true):eM a b=a+b:=by grind[eM]
def zf(br n:Int):Int:=if 0<n*br%1000000 then n*br/1000000+1 else n*br/1000000
def jV(br n:Int):Bool:=bb n&&aI br 0 1000000
def mz(base br n:Int):Bool:=jV br n&&gI base (zf br n)
def kG(base br n:Int):Int:=if jV br n then eM base (zf br n)else 0
theorem pc{base br n:Int}(h:jV br n=false):mz base br n=false/\kG base br n=0:=by simp_all[mz,kG]
theorem jW{base br n:Int}(h:jV br n=true):mz base br n=gI base (zf br n)/\kG base br n=eM base (zf br n):=by simp_all[mz,kG]
theorem YW{n br:Int}(n0:0<=n)(p0:0<=br)(p1:br<=1000000):0<=n*br/\n*br<=n*1000000:=⟨Int.mul_nonneg n0 p0,Int.mul_le_mul_of_nonneg_left p1 n0⟩
theorem Pl{n br:Int}(n0:0<=n)(n1:n<=1125899906842624)(p0:0<=br)(p1:br<=1125899906842624):0<=n*br/\n*br<=1125899906842624*1125899906842624:=⟨Int.mul_nonneg n0 p0,Int.mul_le_mul n1 p1 p0 x_2⟩
def CZ(a b:Int):AV:=if aI a 0 1125899906842624&&aI b 0 1125899906842624&&decide (a*b/1000000<=1125899906842624)then .au [int (a*b/1000000),int (a*b%1000000),aD true]else .au [int 0,int 0,aD false]
theorem tx{a b:Int}(h:(bb a&&bb b&&decide (a*b/1000000<=1125899906842624))=false):CZ a b=.au [int 0,int 0,aD false]:=by grind[CZ,bb]
theorem A'{a b:Int}(h:(bb a&&bb b&&decide (a*b/1000000<=1125899906842624))=true):CZ a b=.au [int (a*b/1000000),int (a*b%1000000),aD true]:=by grind[CZ,bb]
def rD(hi lo:Int):Int:=(hi*17592186044416+lo/1048576)/4096000000
def uK(hi lo:Int):Int:=(hi*17592186044416+lo/1048576)*4294967296+lo*17592186044416%18446744073709551616/4294967296-rD hi lo*17592186044416000000
def uL(hi lo:Int):Int:=uK hi lo/4096000000
theorem I7{hi lo:Int}(h0:1<=hi)(V:hi<1000000)(l0:0<=lo)(l1:lo<18446744073709551616):0<=rD hi lo/\rD hi lo<4294967296/\rD hi lo*4096000000<=hi*17592186044416+lo/1048576/\hi*17592186044416+lo/1048576<rD hi lo*4096000000+4096000000:=by grind[rD]
theorem I8{hi lo:Int}(l0:0<=lo)(l1:lo<18446744073709551616):uK hi lo=hi*75557863725914323419136+lo*4096-rD hi lo*17592186044416000000:=by grind[uK]
theorem Pm{hi lo:Int}(h0:1<=hi)(V:hi<1000000)(l0:0<=lo)(l1:lo<18446744073709551616):0<=uK hi lo/\uK hi lo<17592186044416000000:=by
 have:=I7 h0 V l0 l1;grind[I8]
theorem Pn{hi lo:Int}(h0:1<=hi)(V:hi<1000000)(l0:0<=lo)(l1:lo<18446744073709551616):0<=uL hi lo/\uL hi lo<4294967296/\uL hi lo*4096000000<=uK hi lo/\uK hi lo<uL hi lo*4096000000+4096000000:=by
 have:=Pm h0 V l0 l1;grind[uL]
theorem YX{hi lo:Int}(h0:1<=hi)(V:hi<1000000)(l0:0<=lo)(l1:lo<18446744073709551616):rD hi lo*4294967296+uL hi lo=(hi*18446744073709551616+lo)/1000000:=by
 have a1:=I7 h0 V l0 l1;have a2:=Pn h0 V l0 l1;have a3:=I8 (hi:=hi) l0 l1;omega
theorem Fs(n:Int):IntKind.u64.wrap n=n%18446744073709551616:=by rfl
theorem hw(a b c:Int):IntKind.u64.wrap (IntKind.u64.wrap (IntKind.u64.wrap a+b)-IntKind.u64.wrap c)=(a+b-c)%18446744073709551616:=by
 grind[Fs]
theorem YY(lo:Int):lo*17592186044416%18446744073709551616%4294967296=0:=by omega
theorem YZ{hi lo p q u:Int}(a5:p*4294967296+q=(hi*18446744073709551616+lo)/1000000)(a6:u=hi*75557863725914323419136+lo*4096-p*17592186044416000000):(u*4294967296+lo*17592186044416%18446744073709551616%4294967296-q*17592186044416000000)%18446744073709551616=(hi*18446744073709551616+lo)%1000000*17592186044416:=by
 omega
theorem x_3{p:Prop}(c:p:=by decide):p:=c
theorem Y0(hi lo:Int)(h0:1<=hi)(V:hi<1000000)(l0:0<=lo)(l1:lo<18446744073709551616):GC prog 280 [u64 hi,u64 lo,u64 1000000] [] (.au [u64 ((hi*18446744073709551616+lo)/1000000),u64 ((hi*18446744073709551616+lo)%1000000)]) []:=by
 refine GC.intro (rs:=[.tmp 6,.tmp 7]) func280 rfl ntmps280 x_8 ⟨rfl,rfl,trivial⟩ ?_;intro L O w0;refine sL<|ao Z<|ao Z<|Y<|aS<|sL<|ae Z<|ak Z<|bJ 20 false rfl (rfl)<|Y<|aN Z<|aK<|gT<|aS<|sL<|ae Z<|ae Z<|ak Z<|bJ 24 false rfl x_74<|Y<|aN Z<|aK<|gT<|aS ?_;refine sL<|ae Z<|ak Z<|bJ 27 false rfl x_74<|Y<|aN Z<|aK<|gA<|ae Z<|ab (zL func281 (YT) rfl) Z<|lq (rd (x:=c6) (me rfl lM Wo rfl) rfl) ?_;refine dC 36 (u64 44) rfl ?_;refine ao Z<|nA<|ae Z<|ae Z<|lq (rd (x:=c6) (kg rfl rfl rfl (IE (r:=17592186044416000000) rfl x_3 x_3 x_3) rfl) rfl)<|ao Z<|nA<|ae Z<|lq (rd (x:=c6) (kg rfl rfl rfl (B7 (r:=4096000000) rfl x_3 x_3 x_3) rfl) rfl)<|ao Z<|nA<|ae Z<|lq (rd (x:=c6) (kg rfl rfl rfl (N8 (r:=0) x_3) rfl) rfl)<|ao Z<|nA<|ae Z<|ae Z<|lq (rd (x:=c6) (kg rfl rfl rfl (IE (r:=hi*17592186044416) rfl x_3 x_3 (wrap_u64 (by show 0<=hi*17592186044416;omega) (by show hi*17592186044416<_;omega))) rfl) rfl) ?_;refine ae Z<|ae Z<|lq (rd (x:=c6) (kg rfl rfl rfl (ID (r:=20) x_3) rfl) rfl)<|lq (rd (x:=c6) (kg rfl rfl rfl (B7 (r:=lo/1048576) rfl x_3 x_3 rfl) rfl) rfl)<|lT [1,2,6,7,8,9,10,46,50] [] ?_;refine lq (rd (x:=c6) (kg rfl rfl rfl (Mg (r:=hi*17592186044416+lo/1048576) (XA 44 x_2 x_2 x_2 x_2 x_2 x_2)) rfl) rfl)<|ao Z<|nA<|ae Z<|ae Z<|lq (rd (x:=c6) (kg rfl rfl rfl (IE (r:=lo*17592186044416%18446744073709551616) rfl x_3 x_3 (by show IntKind.u64.wrap (lo*17592186044416)=_;simp[IntKind.wrap,IntKind.signed,IntKind.bits])) rfl) rfl)<|ao Z<|nA<|ae Z<|lq (rd (x:=c6) (kg rfl rfl rfl (B7 (r:=lo*17592186044416%18446744073709551616/4294967296) rfl x_3 x_3 rfl) rfl) rfl)<|ao Z<|nA<|ae Z<|lq (rd (x:=c6) (kg rfl rfl rfl (N8 (r:=lo*17592186044416%18446744073709551616%4294967296) (XB x_2 x_2)) rfl) rfl)<|ao Z<|nA<|ae Z<|ae rfl ?_;have a1:=I7 h0 V l0 l1;refine eo rfl ⟨rfl,by decide,wrap_u64 (by show 0<=(hi*17592186044416+lo/1048576).tdiv 4096000000;rw[Int.tdiv_eq_ediv_of_nonneg x_2];exact a1.1) (by show (hi*17592186044416+lo/1048576).tdiv 4096000000<_;rw[Int.tdiv_eq_ediv_of_nonneg x_2];have:=a1.2.1;unfold rD at this;omega)⟩ ?_;refine dC 61 (u64 (rD hi lo)) (Eq.trans (b:=u64 _) rfl (congrArg u64 (by unfold rD;exact Int.tdiv_eq_ediv_of_nonneg x_2))) ?_;refine ao Z<|nA<|ae Z<|ae Z<|ae Z ?_;refine eo rfl ⟨rfl,wrap_u64 x_2 x_2⟩ ?_;refine eo rfl ⟨rfl,wrap_u64 x_2 x_2⟩<|ao Z<|Y<|aS<|aB ?_;refine aW [2,6,7,8,9,10,11,13,14,15,16] [] (D:=Unit) (fun d=>[]) (fun d=>[]) (fun d=>True) (fun d=>0) (()) (trivial) trivial trivial ?_;intro d hI;refine aS<|sL<|ae Z<|ak Z<|bJ 68 false rfl x_74<|dm Z<|ae Z<|ae rfl ?_;refine eo rfl ⟨rfl,wrap_u64 x_2 x_2⟩<|ae rfl ?_;refine eo rfl ⟨rfl,wrap_u64 x_2 x_2⟩<|lT [2,6,7,8,9,10,11,13,14,15,16,69,72,74] [] ?_;refine ae rfl ?_;refine eo rfl ⟨rfl,wrap_u64 x_2 x_2⟩<|ak Z<|bJ 77 false rfl x_74<|bL Z<|Y<|aN Z<|aE<|eT<|eT<|eB<|gA<|ae Z<|lq (rd (x:=c6) (kg rfl rfl rfl (Fd rfl) rfl) rfl)<|ae Z<|lq (rd (x:=c6) (kg rfl rfl rfl (N7 rfl) rfl) rfl)<|ae Z<|ae Z<|lq (rd (x:=c6) (kg rfl rfl rfl (Fd rfl) rfl) rfl) ?_;have a2:=Pm h0 V l0 l1;have a4:=Pn h0 V l0 l1;refine lq (rd (x:=c6) (kg rfl rfl rfl (ID (r:=uK hi lo) (by rw[hw];rw[show (hi*17592186044416+lo/1048576)*4294967296+lo*17592186044416%18446744073709551616/4294967296-rD hi lo*17592186044416000000=uK hi lo from rfl];omega)) rfl) rfl)<|ao Z<|nA<|ae Z<|ae rfl ?_;refine eo rfl ⟨rfl,by decide,wrap_u64 (by rw[Int.tdiv_eq_ediv_of_nonneg x_2];exact a4.1) (by rw[Int.tdiv_eq_ediv_of_nonneg x_2];have:=a4.2.1;unfold uL at this;omega)⟩ ?_;refine dC 96 (u64 (uL hi lo)) (Eq.trans (b:=u64 _) rfl (congrArg u64 (by unfold uL;exact Int.tdiv_eq_ediv_of_nonneg x_2))) ?_;refine ao Z<|nA<|ae Z<|ae Z<|ae Z ?_;refine eo rfl ⟨rfl,wrap_u64 x_2 x_2⟩ ?_;refine eo rfl ⟨rfl,wrap_u64 x_2 x_2⟩<|ao Z<|Y<|aS<|aB ?_;refine aW [2,6,7,8,9,10,14,15,16,17,18] [] (D:=Unit) (fun d=>[]) (fun d=>[]) (fun d=>True) (fun d=>0) (()) (trivial) trivial trivial ?_;intro d hI;refine aS<|sL<|ae Z<|ak Z<|bJ 103 false rfl x_74<|dm Z<|ae Z<|ae rfl ?_;refine eo rfl ⟨rfl,wrap_u64 x_2 x_2⟩<|ae Z<|lT [2,6,7,8,9,10,14,15,16,17,18,104,107,108] [] ?_;refine eo rfl ⟨rfl,wrap_u64 x_2 x_2⟩<|ae rfl ?_;refine eo rfl ⟨rfl,wrap_u64 x_2 x_2⟩<|ak Z<|bJ 112 false rfl x_74<|bL Z<|Y<|aN Z<|aE<|eT<|eT<|eB<|gA<|ae rfl ?_;refine eo rfl ⟨rfl,wrap_u64 x_2 x_2⟩<|ae rfl ?_;have a5:=YX h0 V l0 l1;refine eo rfl ⟨rfl,wrap_u64 x_2 x_2⟩ ?_;refine dC 124 (u64 ((hi*18446744073709551616+lo)/1000000)) (Eq.trans (b:=u64 _) rfl (congrArg u64 a5)) ?_;refine ae Z<|lq (rd (x:=c6) (kg Z Z Z (Fd Z) Z) Z)<|ae Z<|lq (rd (x:=c6) (kg Z Z Z (N7 Z) Z) Z)<|ae Z<|ae Z<|lq (rd (x:=c6) (kg Z Z Z (Fd Z) Z) Z) ?_;have a6:=I8 (hi:=hi) l0 l1;refine lq (rd (x:=c6) (kg rfl rfl rfl (ID (r:=(hi*18446744073709551616+lo)%1000000*17592186044416) (by rw[hw];exact YZ a5 a6)) rfl) rfl)<|ae Z<|lq (rd (x:=c6) (kg rfl rfl rfl (B7 (r:=(hi*18446744073709551616+lo)%1000000) rfl x_3 x_3 (by show (hi*18446744073709551616+lo)%1000000*17592186044416/17592186044416=_;omega)) rfl) rfl)<|ao Z<|ao Z<|Y<|aR ?_;trivial
theorem Y1(hi lo:Int)(h0:0<=hi)(V:hi<1000000)(l0:0<=lo)(l1:lo<18446744073709551616):GC prog 280 [u64 hi,u64 lo,u64 1000000] [] (.au [u64 ((hi*18446744073709551616+lo)/1000000),u64 ((hi*18446744073709551616+lo)%1000000)]) []:=by
 by_cases h:hi=0
 ·subst h;refine qR (r:=.tuple #[.int .u64 ((0*18446744073709551616+lo)/1000000),.int .u64 ((0*18446744073709551616+lo)%1000000)]) (IF (cs:=[.int .u64 ((0*18446744073709551616+lo)/1000000),.int .u64 ((0*18446744073709551616+lo)%1000000)]) rfl rfl) rfl fun w=>?_;refine(Y2 lo 1000000 w l0 x_2 x_2 x_2).mono ?_;rintro e w' ⟨rfl,n,rfl⟩;exact⟨by simp,(cZ.refl _).drewN _⟩
 exact Y0 hi lo x_2 V l0 l1
theorem Y3{a b:Int}(a0:0<=a)(a1:a<=1125899906842624)(b0:0<=b)(b1:b<=1125899906842624):0<=a*b/18446744073709551616/\a*b/18446744073709551616<=68719476736/\0<=a*b%18446744073709551616/\a*b%18446744073709551616<18446744073709551616/\a*b/18446744073709551616*18446744073709551616+a*b%18446744073709551616=a*b:=by
 have:=Pl a0 a1 b0 b1;omega
theorem x_101{p:Prop}(c:p:=by exact Eq.trans (b:=u64 _) rfl (congrArg u64 (wrap_u64 x_2 x_2))):p:=c
theorem Po(a b:Int):GC prog 277 [int a,int b,int 1000000] [] (CZ a b) []:=by
 refine GC.intro (rs:=[.tmp 6,.tmp 7,.tmp 8]) func277 rfl ntmps277 x_8 ⟨rfl,rfl,rfl,trivial⟩ ?_;intro L O w0;refine sL<|ao Z<|ao Z<|ar Z<|Y<|aS<|sL<|ae Z<|ab (zL func189 (wM _) Z) Z<|bX Z<|aQ Z ?_;refine AL.bool (t:=16) rfl ?_ ?_
 ·intro V;refine aa Z<|aa Z<|aa Z<|aU Z<|bM Z<|aa Z<|aa Z<|aa Z<|aU Z<|Y<|aY Z<|sL<|ao Z<|ao Z<|ar Z<|Y<|aR<|rT ?_;refine ax ?_ trivial;first
  |(refine congrArg some (A' ?_).symm;simp[bb,aI,ha,hb,hq];done)
  |(refine congrArg some (tx ?_).symm;grind)
  |(refine congrArg some (tx ?_).symm;simp only[decide_eq_true_eq]at *;rw[Bool.and_eq_false_iff];right;simp only[decide_eq_false_iff_not];omega)
 intro V;refine ae Z<|ab (zL func189 (wM _) Z) Z<|lT [0,1,2,6,7,8,16,18] [] ?_;refine bX Z<|bj Z<|aQ Z ?_;refine AL.bool (t:=21) rfl ?_ ?_
 ·intro h2;refine aa Z<|aa Z<|aa Z<|aU Z<|Y<|aY Z<|sL<|ao Z<|ao Z<|ar Z<|Y<|aR<|rT ?_;refine ax ?_ trivial;first
  |(refine congrArg some (A' ?_).symm;simp[bb,aI,ha,hb,hq];done)
  |(refine congrArg some (tx ?_).symm;grind)
  |(refine congrArg some (tx ?_).symm;simp only[decide_eq_true_eq]at *;rw[Bool.and_eq_false_iff];right;simp only[decide_eq_false_iff_not];omega)
 intro h2;refine ae Z<|ab (zL func92 (pp) rfl) Z<|bJ 23 true rfl x_3<|ma Z<|bL Z<|Y<|aN Z<|aK<|gA ?_;have ha:=cY.1 (by grind:bb a=true);have hb:=cY.1 (by grind:bb b=true);obtain⟨g0,g1,g2,g3,g4⟩:=Y3 ha.1 ha.2 hb.1 hb.2;refine ae Z<|lq (rd (x:=c6) (me Z lM AZ Z) Z) ?_;refine dC 28 (u64 (a)) (Eq.trans (b:=u64 _) rfl (congrArg u64 (wrap_u64 x_2 x_2))) ?_;refine ae Z<|lq (rd (x:=c6) (me Z lM AZ Z) Z) ?_;refine dC 30 (u64 (b)) (Eq.trans (b:=u64 _) rfl (congrArg u64 (wrap_u64 x_2 x_2))) ?_;refine ab (zL func279 (YU a b ha.1 ha.2 hb.1 hb.2) Z) Z<|lT [2,6,7,8,31] [] ?_;refine cT (.au [c6,c6]) Z<|dE Z<|dE Z<|ao Z<|ao Z<|Y<|aS<|sL<|ae Z<|ae Z<|lq (rd (x:=c6) (me Z lM AZ Z) Z) ?_;refine dC 36 (u64 (1000000)) (Eq.trans (b:=u64 _) rfl (congrArg u64 (wrap_u64 x_2 x_2))) ?_;refine ak Z<|Y<|cE rfl ?_ ?_
 ·intro h3;refine sL<|ao Z<|ao Z<|ar Z<|Y<|aR<|rT ?_;refine ax ?_ trivial;first
  |(refine congrArg some (A' ?_).symm;simp[bb,aI,ha,hb,hq];done)
  |(refine congrArg some (tx ?_).symm;grind)
  |(refine congrArg some (tx ?_).symm;grind)
 intro h3;refine aK<|gA<|ae Z<|ae Z<|ae Z<|lq (rd (x:=c6) (me Z lM AZ Z) Z) ?_;refine dC 42 (u64 (1000000)) (Eq.trans (b:=u64 _) rfl (congrArg u64 (wrap_u64 x_2 x_2))) ?_;refine ab (zL func280 (Y1 (a*b/18446744073709551616) (a*b%18446744073709551616) g0 x_14 g2 g3) rfl) Z<|lT [6,7,8,43] [] ?_;refine cT (.au [c6,c6]) Z<|dE Z<|dE Z ?_;refine dC 44 (u64 (a*b/1000000)) (Eq.trans (b:=u64 _) rfl (congrArg (fun z=>u64 (z/1000000)) g4)) ?_;refine ao rfl ?_;refine dC 45 (u64 (a*b%1000000)) (Eq.trans (b:=u64 _) rfl (congrArg (fun z=>u64 (z%1000000)) g4)) ?_;refine ao Z<|Y<|aS<|sL<|ae Z<|ak Z<|Y<|cE rfl ?_ ?_
 ·intro h4;refine sL<|ao Z<|ao Z<|ar Z<|Y<|aR<|rT ?_;refine ax ?_ trivial;first
  |(refine congrArg some (A' ?_).symm;simp[bb,aI,ha,hb,hq];done)
  |(refine congrArg some (tx ?_).symm;grind)
  |(refine congrArg some (tx ?_).symm;simp only[decide_eq_true_eq]at *;rw[Bool.and_eq_false_iff];right;simp only[decide_eq_false_iff_not];omega)
 intro h4;refine aK<|gA<|ae Z ?_;have hq:a*b/1000000<=1125899906842624:=by have h:=h4;simp only[decide_eq_false_iff_not]at h;omega
 have hp:=Pl ha.1 ha.2 hb.1 hb.2;have hq0:0<=a*b/1000000:=by omega
 refine lq (rd (x:=c6) (me rfl AZ lM rfl) rfl)<|jK 49 (a*b/1000000) rfl (by rw[IntKind.wrap_i64];omega)<|ae Z<|lq (rd (x:=c6) (me rfl AZ lM rfl) rfl)<|jK 51 (a*b%1000000) rfl (by rw[IntKind.wrap_i64];omega)<|ao Z<|ao Z<|cI Z<|Y<|aR ?_;refine ax ?_ trivial;first
 |(refine congrArg some (A' ?_).symm;grind)
 |(refine congrArg some (tx ?_).symm;simp_all;done)
 |(refine congrArg some (tx ?_).symm;simp only[decide_eq_true_eq]at *;rw[Bool.and_eq_false_iff];right;simp only[decide_eq_false_iff_not];omega)
theorem Y4{a b:Int}(h:(bb a&&bb b&&decide (a*b/1000000<=1125899906842624))=true):GC prog 277 [int a,int b,int 1000000] [] (.au [int (a*b/1000000),int (a*b%1000000),aD true]) []:=A' h▸Po a b
theorem Y5{a b:Int}(h:(bb a&&bb b&&decide (a*b/1000000<=1125899906842624))=false):GC prog 277 [int a,int b,int 1000000] [] (.au [int 0,int 0,aD false]) []:=tx h▸Po a b
theorem tz{br n:Int}(h:jV br n=true):0<=n/\n<=1125899906842624/\0<=br/\br<=1000000/\n*br/1000000<=n/\0<=n*br/1000000:=by
 unfold jV at h;rw[Bool.and_eq_true,cY,cJ]at h;have:=YW h.1.1 h.2.1 h.2.2;omega
theorem Y6{br n:Int}(h:jV br n=true):(bb n&&bb br&&decide (n*br/1000000<=1125899906842624))=true:=by
 have h2:=tz h;rw[Bool.and_eq_true,Bool.and_eq_true,cY,cY,decide_eq_true_eq];omega
theorem Y7{br n:Int}(h:(bb n&&bb br&&decide (n*br/1000000<=1125899906842624))=true)(h2:¬1000000<br):jV br n=true:=by
 simp_all[cY,jV,cJ]
theorem zw{br n:Int}(h:0<n*br%1000000):zf br n=n*br/1000000+1:=if_pos h
theorem zx{br n:Int}(h:¬0<n*br%1000000):zf br n=n*br/1000000:=if_neg h
theorem Y8(a b:Int)(h:jV b a=true):GC prog 278 [int a,int b,int 1000000] [] (.au [int (a*b/1000000),int (a*b%1000000),aD true]) []:=
 qR (r:=.tuple #[.int .i64 (a*b/1000000),.int .i64 (a*b%1000000),.bool true]) (IF (cs:=[.int .i64 (a*b/1000000),.int .i64 (a*b%1000000),.bool true]) rfl rfl) rfl fun w=>by
  have h2:=tz h;refine(XT a b 1000000 w x_2 x_2 x_2 x_2 x_2 x_2).mono ?_;rintro e w' ⟨rfl,rfl⟩;exact⟨by unfold CL;grind,cZ.refl _⟩
theorem Y9(n:Int):GC prog 265 [int n] [] (.au [int (if bb n then n else 0),aD (bb n)]) []:=by
 refine GC.intro (rs:=[.tmp 2,.tmp 3]) func265 rfl ntmps265 x_8 ⟨rfl,rfl,trivial⟩ ?_;intro L O w0;refine sL<|ao Z<|ar Z<|Y<|aS<|sL<|ae Z<|ab (zL func189 (wM _) Z) Z<|bX Z<|Y<|cE rfl ?_ ?_
 ·intro V;refine sL<|ao Z<|ar Z<|Y<|aR<|rT ?_;refine ax ?_ trivial;first|(simp_all;done)|(simp_all;rfl)
 intro V;refine aK<|gA<|ae Z<|ao Z<|cI Z<|Y<|aR ?_;refine ax ?_ trivial;first|(simp_all;done)|(simp_all;rfl)
theorem uM(a b:Int):GC prog 215 [int a,int b] [] (.au [int (eM a b),aD (gI a b)]) []:=by
 refine GC.intro (rs:=[.tmp 4,.tmp 5]) func215 rfl ntmps215 x_8 ⟨rfl,rfl,trivial⟩ ?_;intro L O w0;refine sL<|ao Z<|ar Z<|Y<|aS<|sL<|ae Z<|ab (zL func189 (wM _) Z) Z<|bX Z<|aQ Z ?_;refine AL.bool (t:=9) rfl ?_ ?_
 ·intro V;refine aa Z<|aa Z<|aa Z<|aU Z<|Y<|aY Z<|sL<|ao Z<|ar Z<|Y<|aR<|rT ?_;refine ax ?_ trivial;unfold eM gI;simp_all;try rfl
 intro V;refine ae Z<|ab (zL func189 (wM _) Z) Z<|bX Z<|bj Z<|Y<|cE rfl ?_ ?_
 ·intro h2;refine sL<|ao Z<|ar Z<|Y<|aR<|rT ?_;refine ax ?_ trivial;unfold eM gI;simp_all;try rfl
 intro h2;refine aK<|gA<|ae Z<|ae Z ?_;have ha:=cY.1 (by grind:bb a=true);have hb:=cY.1 (by grind:bb b=true);refine bg Z<|ab (zL func265 (Y9 _) Z) Z<|lT [4,5,17] [] ?_;refine dE Z<|eU Z<|ao Z<|bv Z<|Y<|aR ?_;refine ax ?_ trivial;unfold eM gI;simp_all;try rfl
theorem tI(a b:Int):GC prog 197 [int a,int b] [] (.au [int (eM a b),aD (gI a b)]) []:=by
 refine GC.intro (rs:=[.tmp 4,.tmp 5]) func197 rfl ntmps197 x_8 ⟨rfl,rfl,trivial⟩ ?_;intro L O w0;refine sL<|ao Z<|ar Z<|Y<|aS<|sL<|ae Z<|ab (zL func242 (CY _) Z) Z<|bX Z<|aQ Z ?_;refine AL.bool (t:=9) rfl ?_ ?_
 ·intro V;refine aa Z<|aa Z<|aa Z<|aU Z<|bM Z<|aa Z<|aa Z<|aa Z<|aa Z<|aa Z<|aU Z<|Y<|aY Z<|sL<|ao Z<|ar Z<|Y<|aR<|rT ?_;refine ax ?_ trivial;unfold eM gI;simp_all;try rfl
 intro V;refine ae Z<|ab (zL func242 (CY _) Z) Z<|bX Z<|bj Z<|aQ Z ?_;refine AL.bool (t:=14) rfl ?_ ?_
 ·intro h2;refine aa Z<|aa Z<|aa Z<|aa Z<|aa Z<|aU Z<|Y<|aY Z<|sL<|ao Z<|ar Z<|Y<|aR<|rT ?_;refine ax ?_ trivial;unfold eM gI;simp_all;try rfl
 intro h2;refine ae Z<|ae Z ?_;have ha:=cY.1 (by grind:bb a=true);have hb:=cY.1 (by grind:bb b=true);refine bg Z<|ab (zL func242 (CY _) Z) Z<|lT [0,1,4,5,14,18] [] ?_;refine bX Z<|bj Z<|Y<|cE rfl ?_ ?_
 ·intro h3;refine sL<|ao Z<|ar Z<|Y<|aR<|rT ?_;refine ax ?_ trivial;unfold eM gI;simp_all;try rfl
 intro h3;refine aK<|gA<|ae Z<|ae Z<|bg Z<|ao Z<|cI Z<|Y<|aR ?_;refine ax ?_ trivial;unfold eM gI;simp_all;try rfl
theorem Y'(base br n:Int):GC prog 264 [int base,int br,int n,aD true] [] (.au [int (kG base br n),aD (mz base br n)]) []:=by
 refine GC.intro (rs:=[.tmp 8,.tmp 9]) func264 rfl ntmps264 x_8 ⟨rfl,rfl,trivial⟩ ?_;intro L O w0;refine sL<|ao Z<|ar Z<|nA<|ae Z<|ae Z ?_;rcases hd:(bb n&&bb br&&decide (n*br/1000000<=1125899906842624))with _|_
 ·skip;refine ab (zL func277 (Y5 hd) Z) Z<|cT (.au [c6,c6,vB false]) Z<|dE Z<|dE Z<|iB (vB false) Z<|ao Z<|ao Z<|ar Z<|Y<|aS<|sL<|dm Z<|Gq Z<|bM Z<|aa Z<|aa Z<|aU Z<|Y<|aY Z<|sL<|ao Z<|ar Z<|Y<|aR<|rT ?_;refine ax ?_ trivial;have hf:jV br n=false:=by
   rcases hq:jV br n with _|_
   ·rfl
   grind[Y6]
  rw[(pc hf).1,(pc hf).2];try rfl
 skip;refine ab (zL func277 (Y4 hd) Z) Z<|lT [0,1,3,8,9,16] [] ?_;refine cT (.au [c6,c6,vB true]) Z<|dE Z<|dE Z<|iB (vB true) Z<|ao Z<|ao Z<|cI Z<|Y<|aS<|sL<|bM Z<|ma Z<|dm Z<|ae Z<|ak Z<|bj Z<|Y<|cE rfl ?_ ?_
 ·intro V;refine sL<|ao Z<|ar Z<|Y<|aR<|rT ?_;refine ax ?_ trivial;have hf:jV br n=false:=by
   rcases hq:jV br n with _|_
   ·rfl
   have:=tz hq;grind
  rw[(pc hf).1,(pc hf).2];rfl
 intro V;refine aK<|gT<|aS<|sL ?_;have i9:=Y7 hd x_14;have hb:=tz i9;refine bM Z<|bM Z<|ae Z<|ak Z<|bj Z<|Y<|cE rfl ?_ ?_
 ·intro h2;refine aL<|ae Z<|bg Z<|ao Z<|nA<|ae Z<|ae Z<|ab (zL func215 (uM _ _) Z) Z<|lT [8,9,35] [] ?_;refine dE Z<|eU Z<|ao Z<|bv Z<|Y<|aR ?_;refine ax ?_ trivial;rw[(jW i9).1,(jW i9).2,zw x_14];rfl
 intro h2;refine aK<|gA<|ae Z<|ae Z<|ab (zL func215 (uM _ _) Z) Z<|dE Z<|eU Z<|ao Z<|bv Z<|Y<|aR ?_;refine ax ?_ trivial;rw[(jW i9).1,(jW i9).2,zx x_14];rfl
theorem Ft(base br n:Int):GC prog 214 [int base,int br,int n] [] (.au [int (kG base br n),aD (mz base br n)]) []:=by
 refine GC.intro (rs:=[.tmp 6,.tmp 7]) func214 rfl ntmps214 x_8 ⟨rfl,rfl,trivial⟩ ?_;intro L O w0;refine sL<|ao Z<|ar Z<|nA<|ae Z<|ae Z<|ae Z<|ab (zL func264 (Y' _ _ _) Z) Z<|dE Z<|eU Z<|ao Z<|bv Z<|Y<|aR ?_;trivial
theorem x_28{p:Prop}(c:p:=by simpa using V):p:=c
theorem x_38{p:Prop}(c:p:=by simpa using h2):p:=c
theorem x_59{p:Prop}(c:p:=by simpa using h3):p:=c
theorem x_86{p:Prop}(c:p:=by simpa using h4):p:=c
theorem Za(base br n:Int):GC prog 271 [int base,int br,int n,aD true] [] (.au [int (kG base br n),aD (mz base br n)]) []:=by
 refine GC.intro (rs:=[.tmp 8,.tmp 9]) func271 rfl ntmps271 x_8 ⟨rfl,rfl,trivial⟩ ?_;intro L O w0;refine sL<|ao Z<|ar Z<|Y<|aS<|sL<|ae Z<|ab (zL func242 (CY _) Z) Z<|bX Z<|aQ Z ?_;refine AL.bool (t:=16) rfl ?_ ?_
 ·intro V;refine aa Z<|aa Z<|aa Z<|aU Z<|bM Z<|aa Z<|aa Z<|aU Z<|bM Z<|aa Z<|aa Z<|aU Z<|Y<|aY Z<|sL<|ao Z<|ar Z<|Y<|aR<|rT ?_;refine ax ?_ trivial;first
  |(rw[(jW i9).1,(jW i9).2,zw x_28];rfl)
  |(rw[(jW i9).1,(jW i9).2,zx x_28];rfl)
  |(have tA:bb base=false:=by simpa using V
    have hf:mz base br n=false/\kG base br n=0:=by unfold mz kG eM gI;simp[tA]
    rw[hf.1,hf.2];rfl)
  |(have hf:jV br n=false:=by
     rcases hq:jV br n with _|_
     ·rfl
     have h:=tz hq;have h2:bb n=true:=cY.2 ⟨h.1,h.2.1⟩;simp_all<;>omega
    rw[(pc hf).1,(pc hf).2];rfl)
 intro V;refine ae Z<|ab (zL func242 (CY _) Z) Z<|lT [0,1,2,3,8,9,16,18] [] ?_;refine bX Z<|bj Z<|aQ Z ?_;refine AL.bool (t:=21) rfl ?_ ?_
 ·intro h2;refine aa Z<|aa Z<|aU Z<|bM Z<|aa Z<|aa Z<|aU Z<|Y<|aY Z<|sL<|ao Z<|ar Z<|Y<|aR<|rT ?_;refine ax ?_ trivial;first
  |(rw[(jW i9).1,(jW i9).2,zw x_38];rfl)
  |(rw[(jW i9).1,(jW i9).2,zx x_38];rfl)
  |(have tA:bb base=false:=by simpa using V
    have hf:mz base br n=false/\kG base br n=0:=by unfold mz kG eM gI;simp[tA]
    rw[hf.1,hf.2];rfl)
  |(have hf:jV br n=false:=by
     rcases hq:jV br n with _|_
     ·rfl
     have h:=tz hq;grind[cY]
    rw[(pc hf).1,(pc hf).2];rfl)
 intro h2;refine ae Z<|ak Z<|bj Z<|aQ Z ?_;refine AL.bool (t:=25) rfl ?_ ?_
 ·intro h3;refine aa Z<|aa Z<|aU Z<|Y<|aY Z<|sL<|ao Z<|ar Z<|Y<|aR<|rT ?_;refine ax ?_ trivial;first
  |(rw[(jW i9).1,(jW i9).2,zw x_59];rfl)
  |(rw[(jW i9).1,(jW i9).2,zx x_59];rfl)
  |(have tA:bb base=false:=by simpa using V
    have hf:mz base br n=false/\kG base br n=0:=by unfold mz kG eM gI;simp[tA]
    rw[hf.1,hf.2];rfl)
  |(have hf:jV br n=false:=by
     rcases hq:jV br n with _|_
     ·rfl
     have h:=tz hq;grind
    rw[(pc hf).1,(pc hf).2];rfl)
 intro h3;refine ae Z<|ak Z<|bj Z<|Y<|cE rfl ?_ ?_
 ·intro h4;refine sL<|ao Z<|ar Z<|Y<|aR<|rT ?_;refine ax ?_ trivial;first
  |(rw[(jW i9).1,(jW i9).2,zw x_86];rfl)
  |(rw[(jW i9).1,(jW i9).2,zx x_86];rfl)
  |(have tA:bb base=false:=by simpa using V
    have hf:mz base br n=false/\kG base br n=0:=by unfold mz kG eM gI;simp[tA]
    rw[hf.1,hf.2];rfl)
  |(have hf:jV br n=false:=by
     rcases hq:jV br n with _|_
     ·rfl
     have h:=tz hq;grind
    rw[(pc hf).1,(pc hf).2];rfl)
 intro h4;refine aK<|gA ?_;have i9:jV br n=true:=by
  unfold jV aI;simp_all
 have hb:=tz i9;refine ae Z<|ae Z<|ab (zL func278 (Y8 n br i9) Z) Z<|lT [0,3,8,9,32] [] ?_;refine cT (.au [c6,c6,vB true]) Z<|dE Z<|dE Z<|iB (vB true) Z<|ao Z<|ao Z<|cI Z<|Y<|aS<|sL<|bM Z<|ma Z<|Y<|aN Z<|aK<|gT<|aS<|sL<|bM Z<|bM Z<|ae Z<|ak Z<|bj Z<|Y<|cE rfl ?_ ?_
 ·intro h5;refine aL<|ae Z<|bg Z<|ao Z<|nA<|ae Z<|ae Z<|ab (zL func197 (tI _ _) Z) Z<|lT [8,9,47] [] ?_;refine dE Z<|eU Z<|ao Z<|bv Z<|Y<|aR ?_;refine ax ?_ trivial;first
  |(rw[(jW i9).1,(jW i9).2,zw x_14];rfl)
  |(rw[(jW i9).1,(jW i9).2,zx (by simpa using h5)];rfl)
  |(have tA:bb base=false:=by simpa using V
    have hf:mz base br n=false/\kG base br n=0:=by unfold mz kG eM gI;simp[tA]
    rw[hf.1,hf.2];rfl)
  |(have hf:jV br n=false:=by
     rcases hq:jV br n with _|_
     ·rfl
     have h:=tz hq;have h2:bb n=true:=cY.2 ⟨h.1,h.2.1⟩;simp_all<;>omega
    rw[(pc hf).1,(pc hf).2];rfl)
 intro h5;refine aK<|gA<|ae Z<|ae Z<|ab (zL func197 (tI _ _) Z) Z<|dE Z<|eU Z<|ao Z<|bv Z<|Y<|aR ?_;refine ax ?_ trivial;first
 |(rw[(jW i9).1,(jW i9).2,zw (by simpa using h5)];rfl)
 |(rw[(jW i9).1,(jW i9).2,zx x_14];rfl)
 |(have tA:bb base=false:=by simpa using V
   have hf:mz base br n=false/\kG base br n=0:=by unfold mz kG eM gI;simp[tA]
   rw[hf.1,hf.2];rfl)
 |(have hf:jV br n=false:=by
    rcases hq:jV br n with _|_
    ·rfl
    have h:=tz hq;have h2:bb n=true:=cY.2 ⟨h.1,h.2.1⟩;simp_all<;>omega
   rw[(pc hf).1,(pc hf).2];rfl)
theorem DC(base br n:Int):GC prog 256 [int base,int br,int n] [] (.au [int (kG base br n),aD (mz base br n)]) []:=by
 refine GC.intro (rs:=[.tmp 6,.tmp 7]) func256 rfl ntmps256 x_8 ⟨rfl,rfl,trivial⟩ ?_;intro L O w0;refine sL<|ao Z<|ar Z<|nA<|ae Z<|ae Z<|ae Z<|ab (zL func271 (Za _ _ _) Z) Z<|dE Z<|eU Z<|ao Z<|bv Z<|Y<|aR ?_;trivial
end Go.Proofs.YtflhgkmhmcfimaaGreat

