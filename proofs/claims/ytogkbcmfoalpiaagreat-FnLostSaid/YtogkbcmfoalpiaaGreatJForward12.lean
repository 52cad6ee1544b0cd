/- Texts of the proof of FnForward, joined: LedS, EG1, FwdS, FwdT, E24, E25, E26, AllF, Cur1, ED1. -/
import Derived.Test.YtogkbcmfoalpiaaGreatJForward11
import Derived.Test.YtogkbcmfoalpiaaGreatJForward10
import Derived.Test.YtogkbcmfoalpiaaGreatKNum
import Derived.Test.YtogkbcmfoalpiaaGreatJForward4
namespace Go.Proofs.YtogkbcmfoalpiaaGreat
open Go.RowKit
set_option linter.unusedSimpArgs false
set_option linter.unusedVariables false
def ledgerOk(x:Ledger):Bool:=inB x.last 0 1125899906842624&&decide (x.lines.length≤320)&&linesOk x.lines
def balAt(l:List Line)(a:Acc):Int:=match l with|[]=>0|x::r=>if x.acc.kind=a.kind∧x.acc.ch=a.ch then x.amt else balAt r a
def balance(x:Ledger)(a:Acc):Int:=if ledgerOk x&&accOk a then balAt x.lines a else 0
def locA(x:Book)(ch:Int):Int:=if 0≤chanAt x.chans ch then (match x.chans[(chanAt x.chans ch).toNat]? with|some c=>c.loc|none=>0)else 0
def outA(x:Book)(ch:Int):Int:=if 0≤chanAt x.chans ch then outOf x ch else 0
def agreeAt(x:Book)(l:Ledger)(ch:Int):Bool:=(balance l ⟨6,ch⟩==locA x ch)&&(balance l ⟨8,ch⟩==outA x ch)&&(balance l ⟨7,ch⟩==0)
def agrees(x:Book)(l:Ledger):Bool:=bookOk x&&ledgerOk l&&(l.last==x.next-1)&&(balance l ⟨1,0⟩==x.wallet)&&(List.range 99).all fun j=>agreeAt x l ((j:Int)+1)
theorem LnS.ok{l:List Line}{m:Nat}(h:LnS l 0 m):linesOk l=true:=by
 rw[linesOk_yes fun j hj=>?_]
 ·have:tot amtOf l=0:=h.sum
  rw[this];rfl
 ·rw[lineAt_eq hj]
  have hm:=List.getElem_mem hj
  obtain⟨a1,a2,a3⟩:=h.amt _ hm
  have hp:prevOk l j l[j]=true:=by
   rcases Nat.eq_zero_or_pos j with q|q
   ·subst q;rfl
   ·rw[prevOk_pos q hj];exact List.pairwise_iff_getElem.1 h.asc _ _ _ _ (by omega)
  have h1:accOk l[j].acc=true:=accOk_iff.2 (h.acc _ hm)
  have h2:rangeA l[j].amt=true:=inB_true.2 ⟨a2,a3⟩
  rw[h1,h2,hp];simpa using a1
theorem LnS.of{l:List Line}(h:linesOk l=true):LnS l 0 l.length:=by
 have hall:∀j,j<l.length→lineAt l j=true:=fun j hj=>by
  unfold linesOk at h
  rw[Bool.and_eq_true,List.all_eq_true]at h
  exact h.1 j (by simpa using hj)
 have hsum:tot lamt l=0:=by
  rw[linesOk_yes hall,beq_iff_eq]at h
  exact h
 have hat:∀j (hj:j<l.length),accOk l[j].acc=true∧l[j].amt≠0∧rangeA l[j].amt=true∧prevOk l j l[j]=true:=fun j hj=>by
  have:=hall j hj
  rw[lineAt_eq hj]at this
  simp only[Bool.and_eq_true]at this
  exact⟨this.1.1.1,by simpa using this.1.1.2,this.1.2,this.2⟩
 have hmem:∀y∈l,accOk y.acc=true∧y.amt≠0∧rangeA y.amt=true:=fun y hy=>by
  obtain⟨j,hj,rfl⟩:=List.getElem_of_mem hy
  have:=hat j hj
  exact⟨this.1,this.2.1,this.2.2.1⟩
 refine⟨?_,fun y hy=>accOk_iff.1 (hmem y hy).1,fun y hy=>⟨(hmem y hy).2.1,inB_true.1 (hmem y hy).2.2⟩,hsum,Nat.le_refl _⟩
 rw[List.pairwise_iff_getElem]
 intro i j hi hj hij
 induction j with
 |zero=>omega
 |succ j ih=>
  have h1:=(hat (j+1) hj).2.2.2
  rw[prevOk_pos (by omega) hj]at h1
  have h1:lessA l[j].acc l[j+1].acc=true:=h1
  by_cases q:i=j
  ·subst q;exact h1
  ·exact lessA_trans (ih (by omega) (by omega)) h1
theorem lessA_ne{a b:Acc}(h:lessA a b=true):¬(a.kind=b.kind∧a.ch=b.ch):=fun⟨h1,h2⟩=>by
 unfold lessA at h
 simp[h1,h2]at h
theorem lessA_eq{a b:Acc}(h:lessA a b=false)(h2:lessA b a=false):a.kind=b.kind∧a.ch=b.ch:=by
 unfold lessA at h h2
 simp only[Bool.or_eq_false_iff,decide_eq_false_iff_not,Bool.and_eq_false_iff,beq_eq_false_iff_ne]at h h2
 omega
theorem Acc.ext2{a b:Acc}(h:a.kind=b.kind∧a.ch=b.ch):a=b:=by
 cases a;cases b;simp at h;simp[h]
structure MgS(a b r:List Line):Prop where
 asc:r.Pairwise fun a b=>lessA a.acc b.acc=true
 acc:∀y∈r,∃z,(z∈a∨z∈b)∧y.acc=z.acc
 amt:∀y∈r,y.amt≠0∧-1125899906842624≤y.amt∧y.amt≤1125899906842624
 sum:tot lamt r=tot lamt a+tot lamt b
 at':∀k c,sumA r k c=sumA a k c+sumA b k c
def Lns(l:List Line):Prop:=(l.Pairwise fun a b=>lessA a.acc b.acc=true)∧∀y∈l,y.amt≠0∧-1125899906842624≤y.amt∧y.amt≤1125899906842624
theorem Lns.tail{x:Line}{l:List Line}(h:Lns (x::l)):Lns l:=⟨(List.pairwise_cons.1 h.1).2,fun y hy=>h.2 y (by simp[hy])⟩
theorem merge_good:∀(n:Nat) (a b r:List Line),a.length+b.length≤n→Lns a→Lns b→mergeL a b=some r→MgS a b r
 |n,[],b,r,_,_,hb,h=>by
  rw[mergeL_nil]at h
  injection h with h
  subst h
  exact⟨hb.1,fun y hy=>⟨y,.inr hy,rfl⟩,hb.2,by rw[tot_nil];omega,fun k c=>by rw[sumA_nil];omega⟩
 |n,x::a,[],r,_,ha,_,h=>by
  rw[mergeL_nil2]at h
  injection h with h
  subst h
  exact⟨ha.1,fun y hy=>⟨y,.inl hy,rfl⟩,ha.2,by rw[tot_nil];omega,fun k c=>by rw[sumA_nil];omega⟩
 |0,x::a,y::b,r,hn,_,_,_=>by simp at hn
 |n+1,x::a,y::b,r,hn,ha,hb,h=>by
  simp only[List.length_cons]at hn
  have ha2:=List.pairwise_cons.1 ha.1
  have hb2:=List.pairwise_cons.1 hb.1
  by_cases q1:lessA x.acc y.acc=true
  ·rw[mergeL_lt q1]at h
   obtain⟨s,hs,rfl⟩:=Option.map_eq_some_iff.1 h
   have g:=merge_good n a (y::b) s (by simp;omega) ha.tail hb hs
   refine⟨List.pairwise_cons.2 ⟨fun z hz=>?_,g.asc⟩,fun z hz=>?_,fun z hz=>?_,?_,fun k c=>?_⟩
   ·obtain⟨u,hu,e⟩:=g.acc z hz
    rw[e]
    rcases hu with hu|hu
    ·exact ha2.1 u hu
    ·rcases List.mem_cons.1 hu with rfl|hu
     ·exact q1
     ·exact lessA_trans q1 (hb2.1 u hu)
   ·rcases List.mem_cons.1 hz with rfl|hz
    ·exact⟨_,.inl (by simp),rfl⟩
    ·obtain⟨u,hu,e⟩:=g.acc z hz
     exact⟨u,hu.imp (by intro q;simp[q]) id,e⟩
   ·rcases List.mem_cons.1 hz with rfl|hz
    ·exact ha.2 _ (by simp)
    ·exact g.amt z hz
   ·rw[tot_cons,tot_cons,g.sum];omega
   ·rw[sumA_cons,sumA_cons,g.at'];omega
  ·have q1:lessA x.acc y.acc=false:=by simpa using q1
   by_cases q2:lessA y.acc x.acc=true
   ·rw[mergeL_gt q1 q2]at h
    obtain⟨s,hs,rfl⟩:=Option.map_eq_some_iff.1 h
    have g:=merge_good n (x::a) b s (by simp;omega) ha hb.tail hs
    refine⟨List.pairwise_cons.2 ⟨fun z hz=>?_,g.asc⟩,fun z hz=>?_,fun z hz=>?_,?_,fun k c=>?_⟩
    ·obtain⟨u,hu,e⟩:=g.acc z hz
     rw[e]
     rcases hu with hu|hu
     ·rcases List.mem_cons.1 hu with rfl|hu
      ·exact q2
      ·exact lessA_trans q2 (ha2.1 u hu)
     ·exact hb2.1 u hu
    ·rcases List.mem_cons.1 hz with rfl|hz
     ·exact⟨_,.inr (by simp),rfl⟩
     ·obtain⟨u,hu,e⟩:=g.acc z hz
      exact⟨u,hu.imp id (by intro q;simp[q]),e⟩
    ·rcases List.mem_cons.1 hz with rfl|hz
     ·exact hb.2 _ (by simp)
     ·exact g.amt z hz
    ·rw[tot_cons,g.sum,tot_cons,tot_cons];omega
    ·rw[sumA_cons,g.at',sumA_cons,sumA_cons];omega
   ·have q2:lessA y.acc x.acc=false:=by simpa using q2
    have e:=lessA_eq q1 q2
    have ee:x.acc=y.acc:=Acc.ext2 e
    have hk:∀k c,accT k c x+accT k c y=if x.acc.kind=k∧x.acc.ch=c then x.amt+y.amt else 0:=fun k c=>by
     unfold accT
     rw[e.1,e.2]
     split<;>omega
    by_cases q3:rangeA (x.amt+y.amt)=true
    ·by_cases q4:x.amt+y.amt=0
     ·rw[mergeL_zero q1 q2 q3 q4]at h
      have g:=merge_good n a b r (by omega) ha.tail hb.tail h
      refine⟨g.asc,fun z hz=>?_,g.amt,?_,fun k c=>?_⟩
      ·obtain⟨u,hu,e⟩:=g.acc z hz
       exact⟨u,hu.imp (by intro q;simp[q]) (by intro q;simp[q]),e⟩
      ·rw[g.sum,tot_cons,tot_cons]
       unfold lamt;omega
      ·rw[g.at',sumA_cons,sumA_cons]
       have:=hk k c
       rw[q4]at this
       split at this<;>omega
     ·rw[mergeL_sum q1 q2 q3 q4]at h
      obtain⟨s,hs,rfl⟩:=Option.map_eq_some_iff.1 h
      have g:=merge_good n a b s (by omega) ha.tail hb.tail hs
      refine⟨List.pairwise_cons.2 ⟨fun z hz=>?_,g.asc⟩,fun z hz=>?_,fun z hz=>?_,?_,fun k c=>?_⟩
      ·obtain⟨u,hu,e⟩:=g.acc z hz
       rw[e]
       rcases hu with hu|hu
       ·exact ha2.1 u hu
       ·show lessA x.acc u.acc=true
        rw[ee];exact hb2.1 u hu
      ·rcases List.mem_cons.1 hz with rfl|hz
       ·exact⟨x,.inl (by simp),rfl⟩
       ·obtain⟨u,hu,e⟩:=g.acc z hz
        exact⟨u,hu.imp (by intro q;simp[q]) (by intro q;simp[q]),e⟩
      ·rcases List.mem_cons.1 hz with rfl|hz
       ·exact⟨q4,inB_true.1 q3⟩
       ·exact g.amt z hz
      ·rw[tot_cons,g.sum,tot_cons,tot_cons]
       unfold lamt;dsimp only;omega
      ·rw[sumA_cons,g.at',sumA_cons,sumA_cons]
       have:=hk k c
       show (if x.acc.kind=k∧x.acc.ch=c then x.amt+y.amt else 0)+_=_
       omega
    ·rw[mergeL_bad q1 q2 (by simpa using q3)]at h
     cases h
theorem LnS.lns{l:List Line}{s:Int}{m:Nat}(h:LnS l s m):Lns l:=⟨h.asc,h.amt⟩
theorem merge_lnS{a b r:List Line}{s t:Int}{m k:Nat}(ha:LnS a s m)(hb:LnS b t k)(h:mergeL a b=some r):LnS r (s+t) r.length∧∀k c,sumA r k c=sumA a k c+sumA b k c:=by
 have g:=merge_good _ a b r (Nat.le_refl _) ha.lns hb.lns h
 exact⟨⟨g.asc,fun y hy=>by
  obtain⟨z,hz,e⟩:=g.acc y hy
  rw[e]
  rcases hz with hz|hz
  ·exact ha.acc z hz
  ·exact hb.acc z hz,g.amt,by rw[g.sum,ha.sum,hb.sum],Nat.le_refl _⟩,g.at'⟩
theorem balAt_sum{a:Acc}:∀ {l:List Line},(l.Pairwise fun a b=>lessA a.acc b.acc=true)→balAt l a=sumA l a.kind a.ch
 |[],_=>rfl
 |x::l,h=>by
  rw[List.pairwise_cons]at h
  have ih:=balAt_sum (a:=a) h.2
  rw[sumA_cons]
  unfold balAt accT
  split
  ·rename_i q
   have:sumA l a.kind a.ch=0:=by
    unfold sumA
    refine tot_none fun y hy=>?_
    unfold accT
    rw[if_neg]
    rintro⟨r1,r2⟩
    exact lessA_ne (h.1 y hy) ⟨by omega,by omega⟩
   omega
  ·rw[ih];omega
structure Agr(x:Book)(l:Ledger):Prop where
 book:bookOk x=true
 lns:LnS l.lines 0 320
 last:l.last=x.next-1
 wal:sumA l.lines 1 0=x.wallet
 loc:∀ch,1≤ch∧ch≤99→sumA l.lines 6 ch=locL x.chans ch
 out:∀ch,1≤ch∧ch≤99→sumA l.lines 8 ch=outOf x ch
 inn:∀ch,1≤ch∧ch≤99→sumA l.lines 7 ch=0
theorem locA_eq(x:Book)(ch:Int):locA x ch=locL x.chans ch:=by
 unfold locA locL
 rcases chan_find x.chans ch with⟨q,r⟩|⟨i,c,q,r,s,_⟩
 ·rw[if_neg (by omega),r];rfl
 ·rw[if_pos (by omega),q,Int.toNat_natCast,r,s]
theorem outA_eq{x:Book}{ch:Int}(b:BOk x):outA x ch=outOf x ch:=by
 unfold outA
 split
 ·rfl
 ·rename_i q
  exact(b.none fun t=>q (there_at.2 t)).1.symm
theorem Agr.ledger{x:Book}{l:Ledger}(h:Agr x l):ledgerOk l=true:=by
 have hn:=(bOk_of h.book).next
 have:=h.last
 unfold ledgerOk
 rw[h.lns.ok,inB_true.2 (by omega),decide_eq_true h.lns.len];rfl
theorem bal_eq{l:Ledger}{k c:Int}(h:ledgerOk l=true)(hl:l.lines.Pairwise fun a b=>lessA a.acc b.acc=true)(ha:accOk ⟨k,c⟩=true):balance l ⟨k,c⟩=sumA l.lines k c:=by
 unfold balance
 rw[h,ha]
 exact balAt_sum hl
theorem acc6{k c:Int}(hk:6≤k∧k≤8)(hc:1≤c∧c≤99):accOk ⟨k,c⟩=true:=accOk_iff.2 (.inr ⟨hk.1,hk.2,hc.1,hc.2⟩)
theorem acc1:accOk ⟨1,0⟩=true:=accOk_iff.2 (.inl ⟨by decide,by decide,rfl⟩)
theorem Agr.yes{x:Book}{l:Ledger}(h:Agr x l):agrees x l=true:=by
 have b:=bOk_of h.book
 have hl:=h.ledger
 have hp:=h.lns.asc
 unfold agrees
 rw[h.book,hl,bal_eq hl hp acc1,h.wal,h.last]
 simp only[beq_self_eq_true,Bool.true_and,List.all_eq_true,List.mem_range]
 intro j hj
 have hc:1≤(j:Int)+1∧(j:Int)+1≤99:=by omega
 unfold agreeAt
 rw[bal_eq hl hp (acc6 (by decide) hc),bal_eq hl hp (acc6 (by decide) hc),bal_eq hl hp (acc6 (by decide) hc),locA_eq,outA_eq b,h.loc _ hc,h.out _ hc,h.inn _ hc]
 simp
theorem Agr.of{x:Book}{l:Ledger}(h:agrees x l=true):Agr x l:=by
 unfold agrees at h
 simp only[Bool.and_eq_true,List.all_eq_true,List.mem_range,beq_iff_eq]at h
 obtain⟨⟨⟨⟨h1,h2⟩,h3⟩,h4⟩,h5⟩:=h
 have b:=bOk_of h1
 have h2':=h2
 unfold ledgerOk at h2'
 simp only[Bool.and_eq_true,decide_eq_true_eq]at h2'
 have ln:=LnS.of h2'.2
 have hp:=ln.asc
 have at':∀ch,1≤ch∧ch≤99→agreeAt x l ch=true:=fun ch hc=>by
  have:=h5 (ch-1).toNat (by omega)
  rwa [show (((ch-1).toNat:Nat):Int)+1=ch by omega]at this
 have at2:∀ch,1≤ch∧ch≤99→sumA l.lines 6 ch=locL x.chans ch∧sumA l.lines 8 ch=outOf x ch∧sumA l.lines 7 ch=0:=fun ch hc=>by
  have:=at' ch hc
  unfold agreeAt at this
  rw[bal_eq h2 hp (acc6 (by decide) hc),bal_eq h2 hp (acc6 (by decide) hc),bal_eq h2 hp (acc6 (by decide) hc),locA_eq,outA_eq b]at this
  simp only[Bool.and_eq_true,beq_iff_eq]at this
  exact⟨this.1.1,this.1.2,this.2⟩
 rw[bal_eq h2 hp acc1]at h4
 exact⟨h1,⟨ln.asc,ln.acc,ln.amt,ln.sum,h2'.1.2⟩,h3,h4,fun ch hc=>(at2 ch hc).1,fun ch hc=>(at2 ch hc).2.1,fun ch hc=>(at2 ch hc).2.2⟩
theorem agr_nil{x:Book}{e:Event}{l:Ledger}(h:Agr x l)(hc:applyC x e=0)(hp:(workR x e).l=[]):Agr (appB x e) l:=by
 have g:=bal_work hc
 rw[hp]at g
 have e1:=(appB_nil hc hp).1
 refine⟨bookOk_appB hc,h.lns,?_,?_,fun ch hh=>?_,fun ch hh=>?_,h.inn⟩
 ·rw[e1,workR_next];exact h.last
 ·rw[e1,h.wal];have:=g.wal;rw[sumA_nil]at this;omega
 ·rw[e1,h.loc ch hh];have:=g.loc ch;rw[sumA_nil]at this;omega
 ·rw[e1,h.out ch hh];have:=g.out ch;rw[sumA_nil]at this;omega
theorem agr_post{x:Book}{e:Event}{l:Ledger}(h:Agr x l)(hc:applyC x e=0)(hp:(workR x e).l≠[]){m:List Line}(hm:mergeL l.lines (appP x e).lines=some m)(hl:m.length≤320):Agr (appB x e) ⟨(appP x e).id,m⟩:=by
 have g:=bal_work hc
 obtain⟨e1,e2⟩:=appB_yes hc hp
 rw[e2]at hm
 obtain⟨k1,k2⟩:=merge_lnS h.lns (ln_work hc) hm
 refine⟨bookOk_appB hc,⟨k1.asc,k1.acc,k1.amt,k1.sum,hl⟩,?_,?_,fun ch hh=>?_,fun ch hh=>?_,fun ch hh=>?_⟩
 ·rw[e1,e2]
  show x.next=(workR x e).b.next+1-1
  rw[workR_next];omega
 ·rw[e1]
  show sumA m 1 0=(workR x e).b.wallet
  rw[k2,h.wal,g.wal]
 ·rw[e1]
  show sumA m 6 ch=locL (workR x e).b.chans ch
  rw[k2,h.loc ch hh,g.loc ch]
 ·rw[e1]
  show sumA m 8 ch=outOf (workR x e).b ch
  rw[k2,h.out ch hh,g.out ch]
 ·show sumA m 7 ch=0
  rw[k2,h.inn ch hh,g.inn ch];rfl
-- ---------- postings taken
def postC(l:Ledger)(p:Posting):Int:=if (ledgerOk l&&postOk p.id p.lines)=true then (if p.id≤l.last then 2 else match mergeL l.lines p.lines with|none=>3|some m=>if 320<m.length then 3 else 0)else 1
def postL(l:Ledger)(p:Posting):Ledger:=if postC l p=0 then ⟨p.id,(mergeL l.lines p.lines).getD []⟩else ⟨0,[]⟩
theorem postC_zero{l:Ledger}{p:Posting}(h:postC l p=0):ledgerOk l=true∧postOk p.id p.lines=true∧l.last<p.id∧∃m,mergeL l.lines p.lines=some m∧m.length≤320:=by
 unfold postC at h
 split at h
 ·rename_i q
  rw[Bool.and_eq_true]at q
  split at h
  ·cases h
  ·rename_i r
   split at h
   ·cases h
   ·rename_i m hm
    split at h
    ·cases h
    ·exact⟨q.1,q.2,by omega,m,hm,by omega⟩
 ·cases h
theorem postL_yes{l:Ledger}{p:Posting}(h:postC l p=0){m:List Line}(hm:mergeL l.lines p.lines=some m):postL l p=⟨p.id,m⟩:=by unfold postL;rw[if_pos h,hm];rfl
theorem postL_no{l:Ledger}{p:Posting}(h:postC l p≠0):postL l p=⟨0,[]⟩:=if_neg h
theorem agr_step{x:Book}{e:Event}{l:Ledger}(h:Agr x l)(hc:applyC x e=0)(hp:(appP x e).lines≠[])(hq:postC l (appP x e)=0):Agr (appB x e) (postL l (appP x e)):=by
 obtain⟨_,_,_,m,hm,hl⟩:=postC_zero hq
 rw[postL_yes hq hm]
 refine agr_post h hc (fun r=>hp ?_) hm hl
 rw[(appB_nil hc r).2]
theorem led_rng{l:Ledger}(h:ledgerOk l=true):l.lines.length≤320∧(∀z∈l.lines,rangeA z.amt=true)∧0≤l.last∧l.last≤1125899906842624:=by
 unfold ledgerOk at h
 simp only[Bool.and_eq_true,decide_eq_true_eq]at h
 have:=inB_true.1 h.1.1
 exact⟨h.1.2,fun z hz=>inB_true.2 ((LnS.of h.2).amt z hz).2,this.1,this.2⟩
theorem post_rng{n:Int}{l:List Line}(h:postOk n l=true):l.length≤8∧(∀z∈l,rangeA z.amt=true)∧1≤n∧n≤1125899906842624:=by
 unfold postOk at h
 simp only[Bool.and_eq_true]at h
 have h1:=inB_true.1 h.1.1
 have h2:=inB_true.1 h.1.2
 exact⟨by omega,fun z hz=>inB_true.2 ((LnS.of h.2).amt z hz).2,h1.1,h1.2⟩
theorem postC_bad{l:Ledger}{p:Posting}(h:(ledgerOk l&&postOk p.id p.lines)=false):postC l p=1:=by unfold postC;rw[if_neg (by simp[h])]
theorem postC_old{l:Ledger}{p:Posting}(h:ledgerOk l=true)(h2:postOk p.id p.lines=true)(h3:p.id≤l.last):postC l p=2:=by unfold postC;rw[h,h2,if_pos (by rfl),if_pos h3]
theorem postC_none{l:Ledger}{p:Posting}(h:ledgerOk l=true)(h2:postOk p.id p.lines=true)(h3:¬p.id≤l.last)(h4:mergeL l.lines p.lines=none):postC l p=3:=by unfold postC;rw[h,h2,if_pos (by rfl),if_neg h3,h4]
theorem postC_long{l:Ledger}{p:Posting}(h:ledgerOk l=true)(h2:postOk p.id p.lines=true)(h3:¬p.id≤l.last){m:List Line}(h4:mergeL l.lines p.lines=some m)(h5:320<m.length):postC l p=3:=by unfold postC;rw[h,h2,if_pos (by rfl),if_neg h3,h4];exact if_pos h5
theorem postC_fine{l:Ledger}{p:Posting}(h:ledgerOk l=true)(h2:postOk p.id p.lines=true)(h3:¬p.id≤l.last){m:List Line}(h4:mergeL l.lines p.lines=some m)(h5:m.length≤320):postC l p=0:=by unfold postC;rw[h,h2,if_pos (by rfl),if_neg h3,h4];exact if_neg (by omega)

set_option maxHeartbeats 16000000
set_option maxRecDepth 100000
abbrev ledV(l:Ledger):AV:=.agg [int l.last,.p (.lst 120 3 (rowsOf encLine l.lines))]
abbrev posV(p:Posting):AV:=.agg [int p.id,.p (.lst 120 3 (rowsOf encLine p.lines))]
theorem balAt_drop{l:List Line}{a:Acc}{k:Nat}(h:k<l.length):balAt (l.drop k) a=if l[k].acc.kind=a.kind∧l[k].acc.ch=a.ch then l[k].amt else balAt (l.drop (k+1)) a:=by
 rw[List.drop_eq_getElem_cons h];rfl
theorem ledgerOk_e(x:Ledger):GC Tryz.prog 71 [ledV x] [] (boo (ledgerOk x)) []:=by
 refine gi 2 Tryz.func71 rfl Tryz.ntmps71 rfl ?_
 intro L O w0
 refine sL<|lst (zX 2001 Z) Z<|laZ Z<|nA<|lf 0 ty.F54_0 Z<|loI ty.kd3 Z<|lst (zC [] [] [] Tryz.func62 (amtOk_e _) (trivial) Z Z) Z<|lmB Z ?_
 refine AL.bool (t:=6) rfl ?_ ?_
 ·intro h1
  refine lf 1 ty.F54_1 Z<|loL ty.kd32 Z<|lnI ty.sl32 Z<|lbB Z<|lkB Z<|lmB Z ?_
  refine AL.bool (t:=12) rfl ?_ ?_
  ·intro h2
   refine lf 1 ty.F54_1 Z<|loL ty.kd32 Z<|lst (zC [] [] [] Tryz.func68 (linesOk_e x.lines (by have h:=h2;simp only[length_rowsOf,decide_eq_true_eq]at h;omega)) (trivial) rfl rfl) Z<|lT [2,12,15] [2001] ?_
   refine lkB Z<|laB Z<|nG<|aR ?_
   refine eBo trivial ?_
   unfold ledgerOk
   simp_all[length_rowsOf,amtOk,inB]<;>(intros;omega)
  ·intro h2
   refine lno Z<|lno Z<|lno Z<|lkZ Z<|laZ Z<|nG<|aR ?_
   refine eBo trivial ?_
   unfold ledgerOk
   simp_all[length_rowsOf,amtOk,inB]<;>(intros;omega)
 ·intro h1
  refine lno Z<|lno Z<|lno Z<|lno Z<|lkZ Z<|lmZ Z<|lno Z<|lno Z<|lno Z<|lkZ Z<|laZ Z<|nG<|aR ?_
  refine eBo trivial ?_
  unfold ledgerOk
  simp_all[length_rowsOf,amtOk,inB]<;>(intros;omega)
theorem balance_e(x:Ledger)(a:Acc)(hm:x.lines.length≤9007199254740992):GC Tryz.prog 73 [ledV x,.agg [int a.kind,int a.ch]] [] (int (balance x a)) []:=by
 refine gi 4 Tryz.func73 rfl Tryz.ntmps73 rfl ?_
 intro L O w0
 refine sL<|lst (zX 2002 Z) Z<|lst (zX 2003 Z) Z<|laI Z<|nG<|aS<|sL<|loX (.agg [vI _ _,vL _ _ _]) ty.kd54 Z<|lst (zC [] [] [] Tryz.func71 (ledgerOk_e x) (trivial) Z Z) Z<|luB Z<|lmB Z ?_
 refine AL.bool (t:=10) rfl ?_ ?_
 ·intro h1
  refine lno Z<|lno Z<|lno Z<|lkT Z<|nG<|aY Z<|sL<|laI Z<|nG<|aR<|rT ?_
  refine end_ret ?_ trivial
  refine congrArg (fun b=>some (int b)) ?_
  unfold balance
  simp_all
 ·intro h1
  refine loX (.agg [vI _ _,vI _ _]) ty.kd110 Z<|lst (zC [] [] [] Tryz.func120 (accOk_e a) (trivial) Z Z) Z<|luB Z<|lkB Z<|nG ?_
  refine AW.cond rfl ?_ ?_
  ·intro h2
   refine sL<|laI Z<|nG<|aR<|rT ?_
   refine end_ret ?_ trivial
   refine congrArg (fun b=>some (int b)) ?_
   unfold balance
   simp_all
  ·intro h2
   refine aK<|gT<|aS<|sL<|lf 1 ty.F54_1 Z<|loL ty.kd32 Z<|lnI ty.sl32 Z<|lmI Z<|nG<|aB ?_
   refine aW [3,4,16,17] [2002,2003] (D:=Nat) (fun k=>[(18,int (k:Int))]) (fun k=>[]) (fun k=>k≤x.lines.length∧balAt (x.lines.drop k) a=balance x a) (fun k=>x.lines.length-k) (0) (⟨Nat.zero_le _,by unfold balance;simp_all⟩) ⟨rfl,trivial⟩ trivial ?_
   intro k hI
   obtain⟨hkl,hbal⟩:=hI
   refine sL<|lbB Z<|nG<|aS ?_
   refine AW.cond rfl ?_ ?_
   ·intro h3
    refine aK<|gT<|aS<|aB<|sL ?_
    have hk:k<x.lines.length:=by simpa[length_rowsOf]using h3
    refine li k ty.el32 Z (row_map hk)<|lrX (.agg [vI _ _,vI _ _,vI _ _]) ty.kd120 Z<|lst (zA 2006 ty.ze120 Z) Z<|lT [3,4,6,16,17,18,21] [2002,2003,2006] ?_
    refine lst (zB 2006 ty.co120 ty.inf120 rfl) Z<|nA<|lf 0 ty.F120_0 Z<|loX (.agg [vI _ _,vI _ _]) ty.kd110 Z<|loX (.agg [vI _ _,vI _ _]) ty.kd110 Z<|lq (rd (x:=vB _) (rd_eqS rfl (.inl rfl) rfl rfl ty.sf110 ty.su110 ty.sh110 ty.sg110 ?hn1) rfl) ?_
    case hn1=>exact⟨rfl,by decide,rfl,⟨_,Tryz.underlying3⟩,rfl,by decide,rfl,⟨_,Tryz.underlying3⟩,trivial⟩
    refine nG ?_
    refine AW.cond rfl ?_ ?_
    ·intro h4
     refine sL<|lf 2 ty.F120_1 Z<|loI ty.kd3 Z<|laI Z<|nG<|aR<|rB<|rT<|rT<|rB<|rT ?_
     refine end_ret ?_ trivial
     refine congrArg (fun b=>some (int b)) ?_
     have hc:x.lines[k].acc.kind=a.kind∧x.lines[k].acc.ch=a.ch:=by
      have h:=h4
      simp only[eqVals,Bool.and_true,Bool.and_eq_true,beq_iff_eq]at h
      exact h
     rw[←hbal,balAt_drop hk,if_pos hc]
    ·intro h4
     refine aK<|gB<|gT<|aL ?_
     have hne:balAt (x.lines.drop (k+1)) a=balance x a:=by
      rw[←hbal,balAt_drop hk,if_neg]
      have h:=h4
      intro q
      simp[eqVals,q.1,q.2]at h
     refine lgI Z<|lmI Z<|nG ?_
     refine⟨k+1,⟨hk,hne⟩,by omega,⟨(iq rfl),trivial⟩,trivial,rfl,rfl⟩
   ·intro h3
    refine aE<|eT<|eT<|eB<|gA<|laI Z<|nG<|aR ?_
    refine end_ret ?_ trivial
    refine congrArg (fun b=>some (int b)) ?_
    have hkn:¬k<x.lines.length:=by simpa[length_rowsOf]using h3
    rw[←hbal,List.drop_eq_nil_of_le (by omega)]
    rfl
theorem locA_some{x:Book}{ch:Int}{q:Nat}(hq:q<x.chans.length)(h:chanAt x.chans ch=(q:Int)):locA x ch=x.chans[q].loc:=by
 unfold locA
 rw[if_pos (by omega),h,Int.toNat_natCast,List.getElem?_eq_getElem hq]
theorem locA_none{x:Book}{ch:Int}(h:¬0≤chanAt x.chans ch):locA x ch=0:=if_neg h
theorem outA_some{x:Book}{ch:Int}(h:0≤chanAt x.chans ch):outA x ch=outOf x ch:=if_pos h
theorem outA_none{x:Book}{ch:Int}(h:¬0≤chanAt x.chans ch):outA x ch=0:=if_neg h
theorem agrees_no{x:Book}{l:Ledger}{k:Nat}(hk:k<99)(h:agreeAt x l ((k:Int)+1)=false):agrees x l=false:=by
 unfold agrees
 rw[show ((List.range 99).all fun j=>agreeAt x l ((j:Int)+1))=false from List.all_eq_false.2 ⟨k,by simpa using hk,by simp[h]⟩,Bool.and_false]
theorem agrees_yes{x:Book}{l:Ledger}(h:∀j:Nat,j<99→agreeAt x l ((j:Int)+1)=true):agrees x l=(bookOk x&&ledgerOk l&&(l.last==x.next-1)&&(balance l ⟨1,0⟩==x.wallet)):=by
 unfold agrees
 rw[show ((List.range 99).all fun j=>agreeAt x l ((j:Int)+1))=true from List.all_eq_true.2 fun j hj=>h j (by simpa using hj),Bool.and_true]
theorem agrees_e(x:Book)(l:Ledger)(hw:BookWf x)(hm:l.lines.length≤9007199254740992):GC Tryz.prog 20 [bookV x,ledV l] [] (boo (agrees x l)) []:=by
 refine gi 4 Tryz.func20 rfl Tryz.ntmps20 rfl ?_
 intro L O w0
 refine sL<|lst (zX 2002 Z) Z<|lst (zX 2003 Z) Z<|laZ Z<|nG<|aS<|aS<|aG 23 []<|yq 0 (roX (.agg [vI _ _,vI _ _,vI _ _,vL _ _ _,vL _ _ _,vL _ _ _]) ty.kd27 Z)<|yst 1 Z (zC [] [] [] Tryz.func11 (impl_BookOk_e x hw) (trivial) Z Z)<|yq 2 (ruB Z)<|yq 3 (rmB Z) ?_
 refine AG.bool (t:=12) rfl ?_ ?_
 ·intro h1
  refine yno 4 Z<|yno 5 Z<|yno 6 Z<|yq 7 (rkT Z)<|yq 8 (rmT Z)<|tno 9 Z<|tno 10 Z<|yno 11 Z<|yno 12 Z<|yno 13 Z<|yno 14 Z<|yq 15 (rkT Z)<|yq 16 (rmT Z)<|tno 17 Z<|tno 18 Z<|tno 19 Z<|yno 20 Z<|yno 21 Z<|yno 22 Z<|yq 23 (rkT Z)<|gD<|gT<|aY Z<|sL<|laZ Z<|nG<|aR<|rT ?_
  refine eBo trivial ?_
  unfold agrees
  simp_all
 ·intro h1
  refine yq 4 (roX (.agg [vI _ _,vL _ _ _]) ty.kd54 Z)<|yst 5 Z (zC [] [] [] Tryz.func71 (ledgerOk_e l) (trivial) Z Z)<|gX [2,3,4,12,14] [2002,2003] ?_
  refine yq 6 (ruB Z)<|yq 7 (rkB Z)<|yq 8 (rmB Z) ?_
  refine AG.bool (t:=17) rfl ?_ ?_
  ·intro h2
   refine tno 9 Z<|tno 10 Z<|yno 11 Z<|yno 12 Z<|yno 13 Z<|yno 14 Z<|yq 15 (rkT Z)<|yq 16 (rmT Z)<|tno 17 Z<|tno 18 Z<|tno 19 Z<|yno 20 Z<|yno 21 Z<|yno 22 Z<|yq 23 (rkT Z)<|gD<|gT<|aY Z<|sL<|laZ Z<|nG<|aR<|rT ?_
   refine eBo trivial ?_
   unfold agrees
   simp_all
  ·intro h2
   refine tq 9 (rf 0 ty.F54_0 Z)<|tq 10 (roI ty.kd3 Z)<|yq 11 (rf 1 ty.F27_1 Z)<|yq 12 (roI ty.kd3 Z) ?_
   have hbk:bookOk x=true:=by simpa using h1
   have hnx:=bookOk_next hbk
   refine yq 13 (rgI rfl (by unfold i64;omega))<|yq 14 (rbB rfl)<|yq 15 (rkB rfl)<|yq 16 (rmB rfl) ?_
   refine AG.bool (t:=25) rfl ?_ ?_
   ·intro h3
    refine tno 17 Z<|tno 18 Z<|tno 19 Z<|yno 20 Z<|yno 21 Z<|yno 22 Z<|yq 23 (rkT Z)<|gD<|gT<|aY Z<|sL<|laZ Z<|nG<|aR<|rT ?_
    refine eBo trivial ?_
    unfold agrees
    simp_all
   ·intro h3
    refine tq 17 (roX (.agg [vI _ _,vL _ _ _]) ty.kd54 Z)<|tq 18 (rd (x:=.agg [vI _ _,vI _ _]) (rd_build Z ty.sa110 Z Z Z) Z)<|tq 20 (rf 2 ty.F27_2 Z)<|tq 21 (roI ty.kd3 Z) ?_
    refine yst 19 rfl (zC [] [] [] Tryz.func73 (balance_e l ⟨1,0⟩ hm) (trivial) rfl rfl)<|gX [2,3,4,25,28,30] [2002,2003] ?_
    refine yq 22 (rbB Z)<|yq 23 (rkB Z)<|gD<|gT ?_
    refine AW.cond rfl ?_ ?_
    ·intro h4
     refine sL<|laZ Z<|nG<|aR<|rT ?_
     refine eBo trivial ?_
     unfold agrees
     simp_all
    ·intro h4
     refine aK<|gT<|aS<|sL<|laI Z<|nG<|aB ?_
     refine aW [2,3,4] [2002,2003] (D:=Nat) (fun k=>[(5,int ((k:Int)+1))]) (fun k=>[]) (fun k=>k≤99∧∀j:Nat,j<k→agreeAt x l ((j:Int)+1)=true) (fun k=>99-k) (0) (⟨Nat.zero_le _,fun j h=>absurd h (by omega)⟩) ⟨(Eq.trans (b:=int _) rfl (congrArg int (by simp))),trivial⟩ trivial ?_
     intro k hI
     obtain⟨hk99,hall⟩:=hI
     refine aS<|sL<|lmI Z<|lbB Z<|nG ?_
     refine AW.cond rfl ?_ ?_
     ·intro h5
      refine aK<|gT<|aS<|aB<|sL ?_
      have hk:k<99:=by have h:=h5;simp only[decide_eq_true_eq]at h;omega
      refine laI Z<|laI Z<|nG<|aS<|sL<|loX (.agg [vI _ _,vI _ _,vI _ _,vL _ _ _,vL _ _ _,vL _ _ _]) ty.kd27 Z<|lmI Z<|lst (zC [] [] [] Tryz.func69 (impl_chanAt_e x ((k:Int)+1) hw) (trivial) Z Z) Z<|laI Z<|nA<|lmI Z<|lbB Z<|nG ?_
      refine AW.cond rfl ?_ ?_
      ·intro h6
       refine sL<|lf 3 ty.F27_3 Z<|loL ty.kd23 Z<|lmI Z ?_
       have hpos:0≤chanAt x.chans ((k:Int)+1):=by simpa using h6
       obtain⟨q,hq,hqe,hqi⟩:∃q,∃h:q<x.chans.length,chanAt x.chans ((k:Int)+1)=(q:Int)∧x.chans[q].id=(k:Int)+1:=(chanAt_cases x.chans ((k:Int)+1)).resolve_left (by omega)
       have hloc:=locA_some hq hqe
       have hout:=outA_some hpos
       refine lq (rd (x:=.rp _) (rd_iaddr_p (i:=q) rfl ty.el23 rfl rfl ?hn1 (row_map hq)) rfl) ?_
       case hn1=>exact hqe
       refine lq (rd (x:=.rp _) (zfr ty.F40_2 Z) Z)<|lrI ty.kd3 Z<|laI Z<|nG<|aL<|loX (.agg [vI _ _,vI _ _,vI _ _,vL _ _ _,vL _ _ _,vL _ _ _]) ty.kd27 Z<|lmI Z<|lst (zC [] [] [] Tryz.func67 (transit_e x ((k:Int)+1) hw (bookOk_small hbk)) (trivial) Z Z) Z<|lT [2,3,4,5,6,7,51] [2002,2003] ?_
       refine lmX (.tup [vI _ _,vI _ _]) Z<|lxI Z<|lxI Z<|laI Z<|nA<|loX (.agg [vI _ _,vL _ _ _]) ty.kd54 Z<|lmI Z<|lq (rd (x:=.agg [vI _ _,vI _ _]) (rd_build Z ty.sa110 Z Z Z) Z) ?_
       refine lst (zC [] [] [] Tryz.func73 (balance_e l ⟨6,(k:Int)+1⟩ hm) (trivial) rfl rfl) Z<|lmI Z<|lbB Z<|lmB rfl ?_
       refine AL.bool (t:=60) rfl ?_ ?_
       ·intro h7
        refine lno Z<|lno Z<|lno Z<|lno Z<|lno Z<|lno Z<|lkT Z<|lmT Z<|lno Z<|lno Z<|lno Z<|lno Z<|lno Z<|lkT Z<|nG<|aY Z<|sL<|laZ Z<|nG<|aR<|rB<|rT<|rT<|rB<|rT ?_
        refine eBo trivial ?_
        first
        |(exact(agrees_no hk (by unfold agreeAt;rw[hloc,hout];simp_all)).symm)
        |(have hke:k=99:=by simp only[decide_eq_false_iff_not]at *;omega
          subst hke
          rw[agrees_yes hall]
          simp_all)
       ·intro h7
        refine loX (.agg [vI _ _,vL _ _ _]) ty.kd54 Z<|lmI Z<|lq (rd (x:=.agg [vI _ _,vI _ _]) (rd_build Z ty.sa110 Z Z Z) Z) ?_
        refine lst (zC [] [] [] Tryz.func73 (balance_e l ⟨8,(k:Int)+1⟩ hm) (trivial) rfl rfl) Z<|lT [2,3,4,5,7,60,64] [2002,2003] ?_
        refine lmI Z<|lbB Z<|lkB Z<|lmB Z ?_
        refine AL.bool (t:=68) rfl ?_ ?_
        ·intro h8
         refine lno Z<|lno Z<|lno Z<|lno Z<|lno Z<|lkT Z<|nG<|aY Z<|sL<|laZ Z<|nG<|aR<|rB<|rT<|rT<|rB<|rT ?_
         refine eBo trivial ?_
         first
         |(exact(agrees_no hk (by unfold agreeAt;rw[hloc,hout];simp_all)).symm)
         |(have hke:k=99:=by simp only[decide_eq_false_iff_not]at *;omega
           subst hke
           rw[agrees_yes hall]
           simp_all)
        ·intro h8
         refine loX (.agg [vI _ _,vL _ _ _]) ty.kd54 Z<|lmI Z<|lq (rd (x:=.agg [vI _ _,vI _ _]) (rd_build Z ty.sa110 Z Z Z) Z) ?_
         refine lst (zC [] [] [] Tryz.func73 (balance_e l ⟨7,(k:Int)+1⟩ hm) (trivial) rfl rfl) Z<|lbB Z<|lkB Z<|nG ?_
         refine AW.cond rfl ?_ ?_
         ·intro h9
          refine sL<|laZ Z<|nG<|aR<|rB<|rT<|rT<|rB<|rT ?_
          refine eBo trivial ?_
          first
          |(exact(agrees_no hk (by unfold agreeAt;rw[hloc,hout];simp_all)).symm)
          |(have hke:k=99:=by simp only[decide_eq_false_iff_not]at *;omega
            subst hke
            rw[agrees_yes hall]
            simp_all)
         ·intro h9
          refine aK<|gB<|gT<|aL<|lmI Z ?_
          have hgood:agreeAt x l ((k:Int)+1)=true:=by unfold agreeAt;rw[hloc,hout];simp_all
          refine lgI Z<|laI Z<|nG ?_
          refine⟨k+1,⟨hk,fun j hj=>(Nat.lt_or_ge j k).elim (hall j) (fun q=>by rw[show j=k by omega];exact hgood)⟩,by omega,⟨(Eq.trans (b:=int _) rfl (congrArg int (by push_cast;rfl))),trivial⟩,trivial,rfl,rfl⟩
      ·intro h6
       refine aK<|gA ?_
       have hneg:¬0≤chanAt x.chans ((k:Int)+1):=by simpa using h6
       have hloc:=locA_none hneg
       have hout:=outA_none hneg
       refine loX (.agg [vI _ _,vL _ _ _]) ty.kd54 Z<|lmI Z<|lq (rd (x:=.agg [vI _ _,vI _ _]) (rd_build Z ty.sa110 Z Z Z) Z) ?_
       refine lst (zC [] [] [] Tryz.func73 (balance_e l ⟨6,(k:Int)+1⟩ hm) (trivial) rfl rfl) Z<|lT [2,3,4,5,6,7,57] [2002,2003] ?_
       refine lmI Z<|lbB Z<|lmB Z ?_
       refine AL.bool (t:=60) rfl ?_ ?_
       ·intro h10
        refine lno Z<|lno Z<|lno Z<|lno Z<|lno Z<|lno Z<|lkT Z<|lmT Z<|lno Z<|lno Z<|lno Z<|lno Z<|lno Z<|lkT Z<|nG<|aY Z<|sL<|laZ Z<|nG<|aR<|rB<|rT<|rT<|rB<|rT ?_
        refine eBo trivial ?_
        first
        |(exact(agrees_no hk (by unfold agreeAt;rw[hloc,hout];simp_all)).symm)
        |(have hke:k=99:=by simp only[decide_eq_false_iff_not]at *;omega
          subst hke
          rw[agrees_yes hall]
          simp_all)
       ·intro h10
        refine loX (.agg [vI _ _,vL _ _ _]) ty.kd54 Z<|lmI Z<|lq (rd (x:=.agg [vI _ _,vI _ _]) (rd_build Z ty.sa110 Z Z Z) Z) ?_
        refine lst (zC [] [] [] Tryz.func73 (balance_e l ⟨8,(k:Int)+1⟩ hm) (trivial) rfl rfl) Z<|lmI Z<|lbB Z<|lkB Z<|lmB rfl ?_
        refine AL.bool (t:=68) rfl ?_ ?_
        ·intro h11
         refine lno Z<|lno Z<|lno Z<|lno Z<|lno Z<|lkT Z<|nG<|aY Z<|sL<|laZ Z<|nG<|aR<|rB<|rT<|rT<|rB<|rT ?_
         refine eBo trivial ?_
         first
         |(exact(agrees_no hk (by unfold agreeAt;rw[hloc,hout];simp_all)).symm)
         |(have hke:k=99:=by simp only[decide_eq_false_iff_not]at *;omega
           subst hke
           rw[agrees_yes hall]
           simp_all)
        ·intro h11
         refine loX (.agg [vI _ _,vL _ _ _]) ty.kd54 Z<|lmI Z<|lq (rd (x:=.agg [vI _ _,vI _ _]) (rd_build Z ty.sa110 Z Z Z) Z) ?_
         refine lst (zC [] [] [] Tryz.func73 (balance_e l ⟨7,(k:Int)+1⟩ hm) (trivial) rfl rfl) Z<|lT [2,3,4,5,68,72] [2002,2003] ?_
         refine lbB Z<|lkB Z<|nG ?_
         refine AW.cond rfl ?_ ?_
         ·intro h12
          refine sL<|laZ Z<|nG<|aR<|rB<|rT<|rT<|rB<|rT ?_
          refine eBo trivial ?_
          first
          |(exact(agrees_no hk (by unfold agreeAt;rw[hloc,hout];simp_all)).symm)
          |(have hke:k=99:=by simp only[decide_eq_false_iff_not]at *;omega
            subst hke
            rw[agrees_yes hall]
            simp_all)
         ·intro h12
          refine aK<|gB<|gT<|aL<|lmI Z ?_
          have hgood:agreeAt x l ((k:Int)+1)=true:=by unfold agreeAt;rw[hloc,hout];simp_all
          refine lgI Z<|laI Z<|nG ?_
          refine⟨k+1,⟨hk,fun j hj=>(Nat.lt_or_ge j k).elim (hall j) (fun q=>by rw[show j=k by omega];exact hgood)⟩,by omega,⟨(Eq.trans (b:=int _) rfl (congrArg int (by push_cast;rfl))),trivial⟩,trivial,rfl,rfl⟩
     ·intro h5
      refine aE<|eT<|eT<|eB<|gA<|laT Z<|nG<|aR ?_
      refine eBo trivial ?_
      first
      |(exact(agrees_no hk (by unfold agreeAt;rw[hloc,hout];simp_all)).symm)
      |(have hke:k=99:=by simp only[decide_eq_false_iff_not]at *;omega
        subst hke
        rw[agrees_yes hall]
        simp_all)
def poR(l:Ledger)(p:Posting):AV→List (Nat×AO)→Prop:=fun y ob=>ob=[]∧((postC l p≠0∧y=.tup [.agg [int 0,.p (.v (.slice none 0 0))],int (postC l p)])∨(postC l p=0∧y=.tup [.agg [int p.id,.p (.lst 120 3 (rowsOf encLine ((mergeL l.lines p.lines).getD [])))],int 0]))
theorem merged_some{a b r:List Line}(hn:a.length+b.length≤1000000)(ha:∀z∈a,rangeA z.amt=true)(hb:∀z∈b,rangeA z.amt=true)(h:mergeL a b=some r):GC Tryz.prog 89 [.p (.lst 120 3 (rowsOf encLine a)),.p (.lst 120 3 (rowsOf encLine b))] [] (.tup [.own 50,boo true]) [(50,lAr r)]:=
 (merged_e a b hn ha hb).gc fun y o q=>by unfold mgR at q;rw[h]at q;exact q
theorem merged_none{a b:List Line}(hn:a.length+b.length≤1000000)(ha:∀z∈a,rangeA z.amt=true)(hb:∀z∈b,rangeA z.amt=true)(h:mergeL a b=none):GC Tryz.prog 89 [.p (.lst 120 3 (rowsOf encLine a)),.p (.lst 120 3 (rowsOf encLine b))] [] (.tup [.p (.v (.slice none 0 0)),boo false]) []:=
 (merged_e a b hn ha hb).gc fun y o q=>by unfold mgR at q;rw[h]at q;exact q
theorem post_x(l:Ledger)(p:Posting)(hp:p.lines.length≤1000):GX Tryz.prog 28 [ledV l,posV p] [] (poR l p):=by
 refine GX.intro (rs:=[.cell 4 54 (some 2),.tmp 5]) Tryz.func28 rfl Tryz.ntmps28 (Nat.le_of_ble_eq_true rfl) ⟨rfl,rfl,ty.kd54,rfl,trivial⟩ ?_
 intro L O w0
 refine sL<|lst (zX 2002 Z) Z<|lst (zX 2003 Z) Z<|lst (zA 2004 ty.ze54 Z) Z<|laI Z<|nG<|aS<|sL<|loX (.agg [vI _ _,vL _ _ _]) ty.kd54 Z<|lst (zC [] [] [] Tryz.func71 (ledgerOk_e l) (trivial) Z Z) Z<|luB Z<|lmB Z ?_
 refine AL.bool (t:=11) rfl ?_ ?_
 ·intro h1
  refine lno Z<|lno Z<|lno Z<|lkT Z<|nG<|aY Z<|sL<|lq (rd (x:=.agg [vI _ _,vV _]) (rd_build Z ty.sa54 Z Z Z) Z)<|lst (zB 2004 ty.co54 ty.inf54 Z) Z<|laI Z<|nG<|aR<|rT ?_
  refine end_xret ((.tup [.agg [int 0,.p (.v (.slice none 0 0))],int 1])) [] ?_ rfl trivial
  have hc:postC l p=1:=postC_bad (by simp_all)
  exact⟨rfl,.inl ⟨by omega,by rw[hc]⟩⟩
 ·intro h1
  refine loX (.agg [vI _ _,vL _ _ _]) ty.kd34 Z<|lst (zC [] [] [] Tryz.func12 (postOk_e p.id p.lines hp) (trivial) Z Z) Z<|lT [2,3,4,5,11,13] [2002,2003,2004] ?_
  refine luB Z<|lkB Z<|nG ?_
  refine AW.cond rfl ?_ ?_
  ·intro h2
   refine sL<|lq (rd (x:=.agg [vI _ _,vV _]) (rd_build Z ty.sa54 Z Z Z) Z)<|lst (zB 2004 ty.co54 ty.inf54 Z) Z<|laI Z<|nG<|aR<|rT ?_
   refine end_xret ((.tup [.agg [int 0,.p (.v (.slice none 0 0))],int 1])) [] ?_ rfl trivial
   have hc:postC l p=1:=postC_bad (by simp_all)
   exact⟨rfl,.inl ⟨by omega,by rw[hc]⟩⟩
  ·intro h2
   refine aK<|gT<|aS<|sL<|lf 0 ty.F34_0 Z<|loI ty.kd3 Z<|lf 0 ty.F54_0 Z<|loI ty.kd3 Z<|lbB Z<|nG ?_
   refine AW.cond rfl ?_ ?_
   ·intro h3
    refine sL<|lq (rd (x:=.agg [vI _ _,vV _]) (rd_build Z ty.sa54 Z Z Z) Z)<|lst (zB 2004 ty.co54 ty.inf54 Z) Z<|laI Z<|nG<|aR<|rT ?_
    refine end_xret ((.tup [.agg [int 0,.p (.v (.slice none 0 0))],int 2])) [] ?_ rfl trivial
    have hc:postC l p=2:=postC_old (by simpa using h1) (by simpa using h2) (by simpa using h3)
    exact⟨rfl,.inl ⟨by omega,by rw[hc]⟩⟩
   ·intro h3
    refine aK<|gA<|lf 1 ty.F54_1 Z<|loL ty.kd32 Z<|lf 1 ty.F34_1 Z<|loL ty.kd32 Z ?_
    have hlo:ledgerOk l=true:=by simpa using h1
    have hpo:postOk p.id p.lines=true:=by simpa using h2
    obtain⟨hr1,hr2,-,-⟩:=led_rng hlo
    obtain⟨hr3,hr4,-,-⟩:=post_rng hpo
    have hold:¬p.id≤l.last:=by simpa using h3
    rcases hmg:mergeL l.lines p.lines with _|r
    ·skip
     refine lst (zC [] [] [] Tryz.func89 (merged_none (by omega) hr2 hr4 hmg) (trivial) rfl rfl) Z<|lT [3,4,5,28] [2002,2003,2004] ?_
     refine lmX (.tup [vV _,vB false]) Z<|lxV Z<|lxX (vB false) Z<|laV Z<|laZ Z<|nG<|aS<|sL<|lmZ Z<|luT Z<|lmT Z<|lno Z<|lno Z<|lno Z<|lkT Z<|nG<|aY Z<|sL<|lq (rd (x:=.agg [vI _ _,vV _]) (rd_build Z ty.sa54 Z Z Z) Z)<|lst (zB 2004 ty.co54 ty.inf54 Z) Z<|laI Z<|nG<|aR<|rT ?_
     refine end_xret ((.tup [.agg [int 0,.p (.v (.slice none 0 0))],int 3])) [] ?_ rfl trivial
     have hc:postC l p=3:=postC_none hlo hpo hold hmg
     exact⟨rfl,.inl ⟨by omega,by rw[hc]⟩⟩
    ·skip
     refine lst (zC [(50,50)] [50] [] Tryz.func89 (merged_some (by omega) hr2 hr4 hmg) (trivial) rfl rfl) Z<|lmX (.tup [.own _,vB true]) Z<|lxO Z<|lxX (vB true) Z<|laO Z<|laT Z<|nG<|aS<|sL<|lmT Z<|luZ Z<|lmZ Z<|lmO Z<|lnI ty.sl32 Z<|lbB Z<|lkB Z<|nG ?_
     refine AW.cond rfl ?_ ?_
     ·intro h4
      refine sL<|lq (rd (x:=.agg [vI _ _,vV _]) (rd_build Z ty.sa54 Z Z Z) Z)<|lst (zB 2004 ty.co54 ty.inf54 Z) Z<|lT [3,4,5,6] [50,2002,2003,2004] ?_
      refine laI Z<|nG<|aR<|rT ?_
      refine end_xret ((.tup [.agg [int 0,.p (.v (.slice none 0 0))],int 3])) [] ?_ rfl trivial
      have hc:postC l p=3:=postC_long hlo hpo hold hmg (by have h:=h4;simp[length_rowsOf]at h;omega)
      exact⟨rfl,.inl ⟨by omega,by rw[hc]⟩⟩
     ·intro h4
      refine aK<|gA<|lf 0 ty.F34_0 Z<|loI ty.kd3 Z ?_
      refine AL.freeze 50 rfl ?_
      refine lmL Z<|lq (rd (x:=.agg [vI _ _,vL _ _ _]) (rd_build Z ty.sa54 Z Z Z) Z)<|lst (zB 2004 ty.co54 ty.inf54 Z) Z<|laI Z<|nG<|aR ?_
      refine end_xret ((.tup [.agg [int p.id,.p (.lst 120 3 (rowsOf encLine r))],int 0])) [] ?_ rfl trivial
      exact⟨rfl,.inr ⟨postC_fine hlo hpo hold hmg (by have h:=h4;simp[length_rowsOf]at h;omega),by rw[hmg];rfl⟩⟩
theorem post_e(l:Ledger)(p:Posting)(hp:p.lines.length≤1000):GC Tryz.prog 28 [ledV l,posV p] [] (.tup [ledV (postL l p),int (postC l p)]) []:=GX.imp (post_x l p hp) (fun x ob1 ⟨e1,e2⟩=>by
 subst e1
 rcases e2 with⟨h,rfl⟩|⟨h,rfl⟩
 ·rw[postL_no h]
  exact⟨_,Imp.tup (ImpL.cons (Imp.agg (ImpL.cons (Imp.refl _) (ImpL.cons (Imp.nil _ _) ImpL.nil))) (ImpL.cons (Imp.refl _) ImpL.nil)),rfl,rfl⟩
 ·have e:postL l p=⟨p.id,(mergeL l.lines p.lines).getD []⟩:=if_pos h
  rw[e,h]
  exact⟨_,Imp.refl _,rfl,rfl⟩)
theorem rowsP_at{ps:List Posting}{k:Nat}(h:k<ps.length):(rowsP ps)[k]? = some [.v (.int .i64 ps[k].id),.lst 120 3 (rowsOf encLine ps[k].lines)]:=by unfold rowsP;rw[List.getElem?_map,List.getElem?_eq_getElem h];rfl

-- ---------- lines told by their sums
theorem sumA_high{k c:Int}{a:Acc}:∀ {l:List Line},(∀y∈l,lessA a y.acc=true)→a.kind=k→a.ch=c→sumA l k c=0
 |[],_,_,_=>rfl
 |x::l,h,h1,h2=>by
  rw[sumA_cons,sumA_high (fun y hy=>h y (by simp[hy])) h1 h2]
  have:=lessA_ne (h x (by simp))
  unfold accT
  rw[if_neg (fun z=>this ⟨by omega,by omega⟩)]
  rfl
theorem lines_eq:∀ {a b:List Line},Lns a→Lns b→(∀k c,sumA a k c=sumA b k c)→a=b
 |[],[],_,_,_=>rfl
 |x::a,[],ha,_,h=>by
  have h1:=h x.acc.kind x.acc.ch
  rw[sumA_cons,sumA_high (List.pairwise_cons.1 ha.1).1 rfl rfl,sumA_nil]at h1
  unfold accT at h1
  rw[if_pos ⟨rfl,rfl⟩]at h1
  exact absurd (by omega) (ha.2 x (by simp)).1
 |[],y::b,_,hb,h=>by
  have h1:=h y.acc.kind y.acc.ch
  rw[sumA_cons,sumA_high (List.pairwise_cons.1 hb.1).1 rfl rfl,sumA_nil]at h1
  unfold accT at h1
  rw[if_pos ⟨rfl,rfl⟩]at h1
  exact absurd (by omega) (hb.2 y (by simp)).1
 |x::a,y::b,ha,hb,h=>by
  have pa:=List.pairwise_cons.1 ha.1
  have pb:=List.pairwise_cons.1 hb.1
  by_cases q1:lessA x.acc y.acc=true
  ·have h1:=h x.acc.kind x.acc.ch
   rw[sumA_cons,sumA_high pa.1 rfl rfl,sumA_high (a:=x.acc) (l:=y::b) (fun z hz=>by
    rcases List.mem_cons.1 hz with rfl|hz
    ·exact q1
    ·exact lessA_trans q1 (pb.1 z hz)) rfl rfl]at h1
   unfold accT at h1
   rw[if_pos ⟨rfl,rfl⟩]at h1
   exact absurd (by omega) (ha.2 x (by simp)).1
  by_cases q2:lessA y.acc x.acc=true
  ·have h1:=h y.acc.kind y.acc.ch
   rw[sumA_cons (x:=y),sumA_high pb.1 rfl rfl,sumA_high (a:=y.acc) (l:=x::a) (fun z hz=>by
    rcases List.mem_cons.1 hz with rfl|hz
    ·exact q2
    ·exact lessA_trans q2 (pa.1 z hz)) rfl rfl]at h1
   unfold accT at h1
   rw[if_pos ⟨rfl,rfl⟩]at h1
   exact absurd (by omega) (hb.2 y (by simp)).1
  have e:=Acc.ext2 (lessA_eq (by simpa using q1) (by simpa using q2))
  have h1:=h x.acc.kind x.acc.ch
  rw[sumA_cons,sumA_high pa.1 rfl rfl,sumA_cons,sumA_high pb.1 (by rw[e]) (by rw[e])]at h1
  unfold accT at h1
  rw[if_pos ⟨rfl,rfl⟩,if_pos ⟨by rw[e],by rw[e]⟩]at h1
  have exy:x=y:=by
   cases x;cases y;simp at e h1;simp[e,h1]
  subst exy
  rw[lines_eq ha.tail hb.tail fun k c=>by
   have:=h k c
   rw[sumA_cons,sumA_cons]at this
   omega]
theorem postL_sum{l:Ledger}{p:Posting}(h:postC l p=0):LnS (postL l p).lines 0 320∧(∀k c,sumA (postL l p).lines k c=sumA l.lines k c+sumA p.lines k c)∧(postL l p).last=p.id:=by
 obtain⟨h1,h2,_,m,hm,hl⟩:=postC_zero h
 rw[postL_yes h hm]
 unfold ledgerOk at h1
 unfold postOk at h2
 simp only[Bool.and_eq_true]at h1 h2
 obtain⟨k1,k2⟩:=merge_lnS (LnS.of h1.2) (LnS.of h2.2) hm
 exact⟨⟨k1.asc,k1.acc,k1.amt,k1.sum,hl⟩,k2,rfl⟩
-- ---------- all accounts together
def S99(l:List Line):Int:=tot (fun j:Nat=>sumA l 6 (j+1)+sumA l 7 (j+1)+sumA l 8 (j+1)) (List.range 99)
theorem tot_addf{α:Type}{f g:α→Int}:∀(l:List α),tot (fun x=>f x+g x) l=tot f l+tot g l
 |[]=>rfl
 |x::l=>by rw[tot_cons,tot_cons,tot_cons,tot_addf l];omega
theorem tot_congr{α:Type}{f g:α→Int}:∀ {l:List α},(∀x∈l,f x=g x)→tot f l=tot g l
 |[],_=>rfl
 |x::l,h=>by rw[tot_cons,tot_cons,h x (by simp),tot_congr fun y hy=>h y (by simp[hy])]
theorem tot_pick(n:Int)(c:Int):∀(m:Nat),1≤c→c≤m→tot (fun j:Nat=>if c=(j:Int)+1 then n else 0) (List.range m)=n
 |0,h1,h2=>by omega
 |m+1,h1,h2=>by
  rw[List.range_succ]
  have e:tot (fun j:Nat=>if c=(j:Int)+1 then n else 0) (List.range m++[m])=tot (fun j:Nat=>if c=(j:Int)+1 then n else 0) (List.range m)+(if c=(m:Int)+1 then n else 0):=tot_snoc _ _ _
  rw[e]
  by_cases q:c=(m:Int)+1
  ·rw[if_pos q,tot_none fun j hj=>?_,Int.zero_add]
   have:=List.mem_range.1 hj
   rw[if_neg (by omega)]
  ·rw[if_neg q,tot_pick n c m h1 (by omega),Int.add_zero]
def wT(x:Line):Int:=if x.acc.kind=1∨6≤x.acc.kind then x.amt else 0
def worthT(l:List Line):Int:=tot wT l
theorem S99_nil:S99 []=0:=tot_none fun j _=>rfl
theorem S99_cons(x:Line)(l:List Line)(hv:AccV x.acc):S99 (x::l)=S99 l+(if 6≤x.acc.kind then x.amt else 0):=by
 have e:S99 (x::l)=tot (fun j:Nat=>(sumA l 6 (j+1)+sumA l 7 (j+1)+sumA l 8 (j+1))+(if 6≤x.acc.kind∧x.acc.ch=(j:Int)+1 then x.amt else 0)) (List.range 99):=tot_congr fun j hj=>by
  rw[sumA_cons,sumA_cons,sumA_cons]
  unfold accT
  rcases hv with⟨v1,v2,v3⟩|⟨v1,v2,v3,v4⟩
  ·rw[if_neg (by omega),if_neg (by omega),if_neg (by omega),if_neg (by omega)];omega
  ·by_cases r:x.acc.ch=(j:Int)+1
   ·rcases(by omega:x.acc.kind=6∨x.acc.kind=7∨x.acc.kind=8)with q|q|q
    ·rw[if_pos ⟨q,r⟩,if_neg (by omega),if_neg (by omega),if_pos ⟨by omega,r⟩];omega
    ·rw[if_neg (by omega),if_pos ⟨q,r⟩,if_neg (by omega),if_pos ⟨by omega,r⟩];omega
    ·rw[if_neg (by omega),if_neg (by omega),if_pos ⟨q,r⟩,if_pos ⟨by omega,r⟩];omega
   ·rw[if_neg (fun z=>r z.2),if_neg (fun z=>r z.2),if_neg (fun z=>r z.2),if_neg (fun z=>r z.2)];omega
 rw[e,tot_addf]
 show S99 l+_=_
 by_cases q:6≤x.acc.kind
 ·rw[if_pos q]
  rcases hv with⟨v1,v2,v3⟩|⟨v1,v2,v3,v4⟩
  ·omega
  ·rw[tot_congr (g:=fun j:Nat=>if x.acc.ch=(j:Int)+1 then x.amt else 0) fun j _=>by simp[q],tot_pick x.amt x.acc.ch 99 v3 (by omega)]
 ·rw[if_neg q,tot_none fun j _=>if_neg fun z=>q z.1]
theorem tot_all{l:List Line}(hv:∀y∈l,AccV y.acc):tot lamt l=sumA l 1 0+sumA l 2 0+sumA l 3 0+sumA l 4 0+sumA l 5 0+S99 l∧worthT l=sumA l 1 0+S99 l:=by
 induction l with
 |nil=>rw[S99_nil];exact⟨rfl,rfl⟩
 |cons x l ih=>
  obtain⟨i1,i2⟩:=ih (fun y hy=>hv y (by simp[hy]))
  have v:=hv x (by simp)
  have e1:tot lamt (x::l)=x.amt+tot lamt l:=tot_cons _ _ _
  have e2:worthT (x::l)=wT x+worthT l:=tot_cons _ _ _
  rw[e1,e2,i1,i2,S99_cons x l v]
  simp only[sumA_cons]
  unfold accT wT
  rcases v with⟨v1,v2,v3⟩|⟨v1,v2,v3,v4⟩
  ·rw[v3,if_neg (by omega:¬6≤x.acc.kind)]
   rcases(by omega:x.acc.kind=1∨x.acc.kind=2∨x.acc.kind=3∨x.acc.kind=4∨x.acc.kind=5)with q|q|q|q|q<;>rw[q]<;>simp<;>omega
  ·have q0:x.acc.ch≠0:=by omega
   rw[if_pos v1]
   simp[q0,v1]
   omega
theorem lines_few{l:List Line}(h:l.Pairwise fun a b=>lessA a.acc b.acc=true)(hv:∀y∈l,AccV y.acc):l.length≤302:=by
 have key:∀(l:List Line) (b:Int),(l.Pairwise fun a b=>lessA a.acc b.acc=true)→(∀y∈l,AccV y.acc)→(∀y∈l,b≤(if y.acc.kind≤5 then y.acc.kind-1 else 5+(y.acc.kind-6)*99+(y.acc.ch-1)))→b≤302→(l.length:Int)≤302-b:=by
  intro l
  induction l with
  |nil=>intro b _ _ _ hb;simp;omega
  |cons x l ih=>
   intro b hp hv hb _
   rw[List.pairwise_cons]at hp
   have hx:=hb x (by simp)
   have vx:=hv x (by simp)
   have:=ih (b+1) hp.2 (fun y hy=>hv y (by simp[hy])) (fun y hy=>by
    have vy:=hv y (by simp[hy])
    have hl:=hp.1 y hy
    unfold lessA at hl
    simp only[Bool.or_eq_true,Bool.and_eq_true,decide_eq_true_eq,beq_iff_eq]at hl
    unfold AccV at vx vy
    split at hx<;>split<;>omega) (by unfold AccV at vx;split at hx<;>omega)
   simp;omega
 have:=key l 0 h hv (fun y hy=>by
  have vy:=hv y hy
  unfold AccV at vy
  split<;>omega) (by omega)
 omega
theorem merge_goes:∀(n:Nat) (a b:List Line),a.length+b.length≤n→Lns a→Lns b→(∀k c,rangeA (sumA a k c+sumA b k c)=true)→∃m,mergeL a b=some m
 |n,[],b,_,_,_,_=>⟨b,mergeL_nil b⟩
 |n,x::a,[],_,_,_,_=>⟨_,mergeL_nil2 _⟩
 |0,x::a,y::b,hn,_,_,_=>by simp at hn
 |n+1,x::a,y::b,hn,ha,hb,h=>by
  simp only[List.length_cons]at hn
  have pa:=List.pairwise_cons.1 ha.1
  have pb:=List.pairwise_cons.1 hb.1
  -- what stays of the sums when heads go
  have r0:rangeA 0=true:=inB_true.2 (by omega)
  have cut:∀ {z:Line} {a' b':List Line},(∀k c,z.acc.kind=k→z.acc.ch=c→sumA a' k c=0∧sumA b' k c=0)→(∀k c,¬(z.acc.kind=k∧z.acc.ch=c)→sumA a' k c+sumA b' k c=sumA (x::a) k c+sumA (y::b) k c)→∀k c,rangeA (sumA a' k c+sumA b' k c)=true:=fun h1 h2 k c=>by
   rename_i z a' b'
   by_cases q:z.acc.kind=k∧z.acc.ch=c
   ·obtain⟨e1,e2⟩:=h1 k c q.1 q.2
    rw[e1,e2];exact r0
   ·rw[h2 k c q];exact h k c
  by_cases q1:lessA x.acc y.acc=true
  ·obtain⟨m,hm⟩:=merge_goes n a (y::b) (by simp;omega) ha.tail hb (cut (z:=x) (fun k c e1 e2=>⟨sumA_high pa.1 e1 e2,sumA_high (a:=x.acc) (fun w hw=>by
    rcases List.mem_cons.1 hw with rfl|hw
    ·exact q1
    ·exact lessA_trans q1 (pb.1 w hw)) e1 e2⟩) (fun k c q=>by rw[sumA_cons x];unfold accT;rw[if_neg q];omega))
   exact⟨_,by rw[mergeL_lt q1,hm];rfl⟩
  have q1:lessA x.acc y.acc=false:=by simpa using q1
  by_cases q2:lessA y.acc x.acc=true
  ·obtain⟨m,hm⟩:=merge_goes n (x::a) b (by simp;omega) ha hb.tail (cut (z:=y) (fun k c e1 e2=>⟨sumA_high (a:=y.acc) (fun w hw=>by
    rcases List.mem_cons.1 hw with rfl|hw
    ·exact q2
    ·exact lessA_trans q2 (pa.1 w hw)) e1 e2,sumA_high pb.1 e1 e2⟩) (fun k c q=>by rw[sumA_cons y];unfold accT;rw[if_neg q];omega))
   exact⟨_,by rw[mergeL_gt q1 q2,hm];rfl⟩
  have q2:lessA y.acc x.acc=false:=by simpa using q2
  have e:=Acc.ext2 (lessA_eq q1 q2)
  have hr:rangeA (x.amt+y.amt)=true:=by
   have:=h x.acc.kind x.acc.ch
   rw[sumA_cons,sumA_high pa.1 rfl rfl,sumA_cons,sumA_high pb.1 (by rw[e]) (by rw[e])]at this
   unfold accT at this
   rw[if_pos ⟨rfl,rfl⟩,if_pos ⟨by rw[e],by rw[e]⟩,Int.add_zero,Int.add_zero]at this
   exact this
  obtain⟨m,hm⟩:=merge_goes n a b (by omega) ha.tail hb.tail (cut (z:=x) (fun k c e1 e2=>⟨sumA_high pa.1 e1 e2,sumA_high pb.1 (by rw[←e];exact e1) (by rw[←e];exact e2)⟩) (fun k c q=>by
   rw[sumA_cons x,sumA_cons y];unfold accT;rw[if_neg q,if_neg (fun z=>q ⟨by rw[e];exact z.1,by rw[e];exact z.2⟩)];omega))
  by_cases q4:x.amt+y.amt=0
  ·exact⟨m,by rw[mergeL_zero q1 q2 hr q4,hm]⟩
  ·exact⟨_,by rw[mergeL_sum q1 q2 hr q4,hm];rfl⟩
theorem sumA_none{l:List Line}(hv:∀y∈l,AccV y.acc){k c:Int}(h:¬AccV ⟨k,c⟩):sumA l k c=0:=tot_none fun y hy=>by
 unfold accT
 rw[if_neg]
 rintro⟨e1,e2⟩
 apply h
 rw[←e1,←e2]
 exact hv y hy
theorem post_good{x:Book}{e:Event}(h:applyC x e=0)(hp:(appP x e).id≠0):postOk (appP x e).id (appP x e).lines=true:=by
 obtain⟨q1,q2,q3,q4⟩:=appP_next h hp
 have hn:=(bOk_of (applyC_ok h).1).next
 unfold postOk
 rw[q3.ok,q1,inB_true.2 hn,inB_true.2 ⟨by omega,by have:=q3.len;omega⟩];rfl
theorem post_goes{x:Book}{e:Event}{l:Ledger}(h:Agr x l)(hc:applyC x e=0)(hp:(appP x e).lines≠[])(hq:∀k,2≤k→k≤5→rangeA (sumA l.lines k 0+sumA (workR x e).l k 0)=true):postC l (appP x e)=0:=by
 have hpn:(workR x e).l≠[]:=fun r=>hp (by rw[(appB_nil hc r).2])
 obtain⟨e1,e2⟩:=appB_yes hc hpn
 have g:=bal_work hc
 have ln:=ln_work hc
 have by':=bOk_of (bookOk_appB hc)
 have hid:(appP x e).id≠0:=by
  rw[e2]
  have:=(bOk_of h.book).next
  show x.next≠0
  omega
 have hl:(appP x e).lines=(workR x e).l:=by rw[e2]
 have hw:(appB x e).wallet=(workR x e).b.wallet:=by rw[e1]
 have hch:(appB x e).chans=(workR x e).b.chans:=by rw[e1]
 have ho:∀ch,outOf (appB x e) ch=outOf (workR x e).b ch:=fun ch=>by rw[e1];rfl
 obtain⟨m,hm⟩:=merge_goes _ l.lines (workR x e).l (Nat.le_refl _) h.lns.lns ln.lns (fun k c=>by
  by_cases v:AccV ⟨k,c⟩
  ·rcases v with⟨v1,v2,v3⟩|⟨v1,v2,v3,v4⟩
   ·have v3:c=0:=v3
    subst v3
    by_cases k1:k=1
    ·subst k1
     have:=by'.wallet
     rw[hw,g.wal]at this
     rw[h.wal]
     unfold Amt at this
     exact inB_true.2 (by omega)
    ·exact hq k (by simp at v1;omega) v2
   ·have v3:1≤c:=v3
    have v4:c≤99:=v4
    rcases(by simp at v1 v2;omega:k=6∨k=7∨k=8)with q|q|q
    ·subst q
     rw[h.loc c ⟨v3,v4⟩,←g.loc c,←hch]
     unfold locL
     rcases chan_find (appB x e).chans c with⟨_,r⟩|⟨i,d,_,r2,r3,_⟩
     ·rw[r];exact inB_true.2 (by show -1125899906842624≤(0:Int)∧(0:Int)≤_;omega)
     ·rw[r3]
      have:=(by'.ch d (mem_of_get r2)).loc
      unfold Amt at this
      exact inB_true.2 (by omega)
    ·subst q
     rw[h.inn c ⟨v3,v4⟩,g.inn c]
     exact inB_true.2 (by omega)
    ·subst q
     rw[h.out c ⟨v3,v4⟩,←g.out c,←ho]
     by_cases t:There (appB x e).chans c
     ·obtain⟨d,hd,rfl⟩:=t
      have k1:=by'.sum d hd
      have k2:=by'.ch d hd
      have k3:=outs_l by'.hs by'.cs d.id
      have k4:=k2.loc;have k5:=k2.remote;have k6:=k2.size
      unfold outOf intoOf at *
      unfold Amt at *
      exact inB_true.2 (by omega)
     ·rw[(by'.none t).1];exact inB_true.2 (by omega)
  ·rw[sumA_none h.lns.acc v,sumA_none ln.acc v]
   exact inB_true.2 (by omega))
 obtain⟨k1,_⟩:=merge_lnS h.lns ln hm
 rw[←hl]at hm
 refine postC_fine h.ledger (post_good hc hid) ?_ hm (by have:=lines_few k1.asc k1.acc;omega)
 rw[e2,h.last]
 show ¬x.next≤x.next-1
 omega

structure Outer(x:Book)(e:Event):Prop where
 eq:sumA (workR x e).l 2 0=if e.kind=1 then -e.amt else 0
 inc:-2000001≤sumA (workR x e).l 3 0∧sumA (workR x e).l 3 0≤0
 reb:0≤sumA (workR x e).l 4 0
 chn:sumA (workR x e).l 5 0=0
structure Wl(K:Int)(x:Book)(l:Ledger)(n:Nat):Prop where
 agr:Agr x l
 eq:-(200000+n*1000000)≤sumA l.lines 2 0∧sumA l.lines 2 0≤0
 inc:-(n*2000001)≤sumA l.lines 3 0∧sumA l.lines 3 0≤0
 reb:0≤sumA l.lines 4 0
 chn:sumA l.lines 5 0=0
 base:∀c∈x.chans,c.base≤1000000
 htl:∀h∈x.htlcs,h.amtIn≤h.amtOut+2000001
 next:x.next≤10+n
 keys:∀k∈keysOf x,k≤K
theorem feeV_small{b p a:Int}(hb:0≤b∧b≤1000000)(hp:0≤p∧p≤1000000)(ha:0≤a∧a≤1000000):0≤feeV b p a∧feeV b p a≤2000001:=by
 unfold feeV
 split
 ·unfold addV
  split
  ·unfold feeQ
   have h1:0≤a*p:=Int.mul_nonneg ha.1 hp.1
   have h2:a*p≤1000000*1000000:=Int.mul_le_mul ha.2 hp.2 hp.1 (by omega)
   split<;>omega
  ·omega
 ·omega
theorem outer{x:Book}{e:Event}(h:applyC x e=0)(hk:e.kind≠3)(hh:∀h∈x.htlcs,h.amtIn≤h.amtOut+2000001):Outer x e:=by
 obtain⟨h1,h2,h3⟩:=applyC_ok h
 have b:=bOk_of h1
 have zero:∀ {l:List Line},l=[]→e.kind≠1→(workR x e).l=l→Outer x e:=fun e1 e2 e3=>by
  subst e1
  exact⟨by rw[e3,if_neg e2];rfl,by rw[e3,sumA_nil];omega,by rw[e3,sumA_nil];omega,by rw[e3];rfl⟩
 by_cases k1:e.kind=1
 ·have hw:(workR x e).l=addL (addL [] 1 0 e.amt) 2 0 (-e.amt):=by rw[←wk1 k1];rfl
  refine⟨?_,?_,?_,?_⟩<;>rw[hw]<;>simp only[sumA_add,sumA_nil]<;>simp[k1]
 by_cases k2:e.kind=2
 ·by_cases q:openC x e=0
  ·have hw:(workR x e).l=addL (addL [] 6 e.ch e.amt) 1 0 (-e.amt):=by rw[←wk2 k2,openR_yes q]
   refine⟨?_,?_,?_,?_⟩<;>rw[hw]<;>simp only[sumA_add,sumA_nil]<;>simp[k1]
  ·exact zero rfl k1 (by rw[←wk2 k2,openR_no q])
 by_cases k4:e.kind=4
 ·exact zero rfl k1 (by rw[←wk4 k4];unfold priR;split<;>rfl)
 by_cases k5:e.kind=5
 ·by_cases q:admC x e=0
  ·have hw:(workR x e).l=addL (addL [] 6 e.to (-e.amt)) 8 e.to e.amt:=by rw[←wk5 k5,admR_yes q];rfl
   refine⟨?_,?_,?_,?_⟩<;>rw[hw]<;>simp only[sumA_add,sumA_nil]<;>simp[k1]
  ·exact zero rfl k1 (by rw[←wk5 k5,admR_no q])
 by_cases k6:e.kind=6∨e.kind=7
 ·cases hy:x.htlcs.find? (fun c=>c.key==e.key)with
  |none=>exact zero rfl k1 (by rw[←wk6 k6,setR_none hy])
  |some y=>
   have hm:=List.mem_of_find?_eq_some hy
   have q:=b.hs y hm
   have q2:=q.out
   have q3:=hh y hm
   have hw:workR x e=setY x (decide (e.kind=6)) y:=by rw[←wk6 k6,setR_some hy]
   by_cases g:e.kind=6
   ·have hw2:(workR x e).l=addL (addL (addL [] 3 0 (y.amtOut-y.amtIn)) 6 y.inn y.amtIn) 8 y.out (-y.amtOut):=by rw[hw,decide_eq_true g];rfl
    refine⟨?_,?_,?_,?_⟩<;>rw[hw2]<;>simp only[sumA_add,sumA_nil]<;>simp[k1]<;>omega
   ·have hw2:(workR x e).l=addL (addL [] 6 y.out y.amtOut) 8 y.out (-y.amtOut):=by rw[hw,decide_eq_false g];rfl
    refine⟨?_,?_,?_,?_⟩<;>rw[hw2]<;>simp only[sumA_add,sumA_nil]<;>simp[k1]
 by_cases k8:e.kind=8
 ·exact zero rfl k1 (by rw[←wk8 k8];rfl)
 by_cases k9:e.kind=9
 ·by_cases q:lauC x e=0
  ·have hw:(workR x e).l=addL (addL [] 6 e.ch (-addV e.amt e.fee)) 8 e.ch (addV e.amt e.fee):=by rw[←wk9 k9,lauR_yes q];rfl
   refine⟨?_,?_,?_,?_⟩<;>rw[hw]<;>simp only[sumA_add,sumA_nil]<;>simp[k1]
  ·exact zero rfl k1 (by rw[←wk9 k9,lauR_no q])
 ·have:=ev_kind h2
  cases hy:x.circles.find? (fun c=>c.key==e.key)with
  |none=>exact zero rfl k1 (by rw[←wk10 (by omega),landR_none hy])
  |some y=>
   have hm:=List.mem_of_find?_eq_some hy
   have q:=(b.cs y hm).fee
   unfold Amt at q
   have hw:workR x e=landY x (decide (e.kind=10)) y:=by rw[←wk10 (by omega),landR_some hy]
   by_cases g:e.kind=10
   ·have hw2:(workR x e).l=addL (addL (addL [] 4 0 y.fee) 6 y.to y.amt) 8 y.frm (-y.amt-y.fee):=by rw[hw,decide_eq_true g];rfl
    refine⟨?_,?_,?_,?_⟩<;>rw[hw2]<;>simp only[sumA_add,sumA_nil]<;>simp[k1]
    omega
   ·have hw2:(workR x e).l=addL (addL [] 6 y.frm (y.amt+y.fee)) 8 y.frm (-y.amt-y.fee):=by rw[hw,decide_eq_false g];rfl
    refine⟨?_,?_,?_,?_⟩<;>rw[hw2]<;>simp only[sumA_add,sumA_nil]<;>simp[k1]
theorem base_upd{l:List Chan}{a:Int}{f:Chan→Chan}(hf:∀c,c.base≤1000000→(f c).base≤1000000)(h:∀c∈l,c.base≤1000000):∀c∈updC l a f,c.base≤1000000:=fun c hc=>by
 obtain⟨d,hd,rfl⟩:=mem_upd hc
 split
 ·exact hf d (h d hd)
 ·exact h d hd
theorem base_upd2{l:List Chan}{a b:Int}{f g:Chan→Chan}(hf:∀c,(f c).base=c.base)(hg:∀c,(g c).base=c.base)(h:∀c∈l,c.base≤1000000):∀c∈updC (updC l a f) b g,c.base≤1000000:=base_upd (fun c q=>by rw[hg];exact q) (base_upd (fun c q=>by rw[hf];exact q) h)
theorem small_work{K:Int}{x:Book}{e:Event}(h:applyC x e=0)(ha:e.amt≤1000000)(hkey:e.key≤K)(hb:∀c∈x.chans,c.base≤1000000)(hh:∀h∈x.htlcs,h.amtIn≤h.amtOut+2000001)(hks:∀k∈keysOf x,k≤K) :
 (∀c∈(workR x e).b.chans,c.base≤1000000)∧(∀h∈(workR x e).b.htlcs,h.amtIn≤h.amtOut+2000001)∧∀k∈keysOf (workR x e).b,k≤K:=by
 obtain⟨h1,h2,h3⟩:=applyC_ok h
 have b:=bOk_of h1
 have hbe:(bookOk x&&eventOk e)=true:=by rw[h1,h2];rfl
 have hw:(workR x e).c=0:=by rw[←applyC_work hbe h3];exact h
 have am:=evAmt h2
 rw[amtOk_true,amtOk_true]at am
 by_cases k1:e.kind=1
 ·rw[←wk1 k1];exact⟨hb,hh,hks⟩
 by_cases k2:e.kind=2
 ·rw[←wk2 k2]at hw ⊢
  by_cases q:openC x e=0
  ·rw[openR_yes q]
   refine⟨fun c hc=>?_,hh,hks⟩
   rcases mem_insC hc with r|rfl
   ·exact hb c r
   ·show (0:Int)≤1000000;omega
  ·rw[openR_no q]at hw;exact absurd hw q
 by_cases k3:e.kind=3
 ·rw[←wk3 k3]at hw ⊢
  by_cases q:shutC x e=0
  ·rw[shutR_yes q]
   exact⟨fun c hc=>hb c (List.mem_filter.1 hc).1,hh,hks⟩
  ·rw[shutR_no q]at hw;exact absurd hw q
 by_cases k4:e.kind=4
 ·rw[←wk4 k4]
  unfold priR
  split
  ·exact⟨hb,hh,hks⟩
  ·exact⟨base_upd (fun c _=>ha) hb,hh,hks⟩
 by_cases k5:e.kind=5
 ·rw[←wk5 k5]at hw ⊢
  by_cases q:admC x e=0
  ·rw[admR_yes q]
   have hfee:admSum x e≤e.amt+2000001:=by
    have hc:(chanOr x.chans e.to).base≤1000000∧0≤(chanOr x.chans e.to).base∧0≤(chanOr x.chans e.to).ppm∧(chanOr x.chans e.to).ppm≤1000000:=by
     rcases chan_find x.chans e.to with⟨_,r⟩|⟨i,c,_,r2,r3,_⟩
     ·rw[r];exact⟨by decide,by decide,by decide,by decide⟩
     ·rw[r3]
      have k:=b.ch c (mem_of_get r2)
      have k2:=k.base
      unfold Amt at k2
      exact⟨hb c (mem_of_get r2),k2.1,k.ppm.1,k.ppm.2⟩
    have hf:=feeV_small (b:=(chanOr x.chans e.to).base) (p:=(chanOr x.chans e.to).ppm) (a:=e.amt) ⟨hc.2.1,hc.1⟩ hc.2.2 ⟨am.1.1,ha⟩
    unfold admSum addV
    split<;>omega
   refine⟨base_upd2 (fun _=>rfl) (fun _=>rfl) hb,fun y hy=>?_,fun k hk=>?_⟩
   ·rcases List.mem_append.1 hy with r|r
    ·exact hh y r
    ·rw[List.mem_singleton.1 r];exact hfee
   ·unfold keysOf admY at hk
    dsimp only at hk
    rw[List.map_append,List.append_assoc]at hk
    rcases List.mem_append.1 hk with r|r
    ·exact hks k (List.mem_append_left _ r)
    ·rcases List.mem_append.1 r with r|r
     ·simp at r;omega
     ·exact hks k (List.mem_append_right _ r)
  ·rw[admR_no q]at hw;exact absurd hw q
 by_cases k6:e.kind=6∨e.kind=7
 ·rw[←wk6 k6]
  unfold setR
  split
  ·rename_i y hy
   have hsub:∀z∈delH x.htlcs y.key,z∈x.htlcs:=fun z hz=>(List.mem_filter.1 hz).1
   have hk':∀k∈(delH x.htlcs y.key).map (fun h=>h.key)++x.circles.map (fun h=>h.key),k≤K:=fun k hk=>by
    rcases List.mem_append.1 hk with r|r
    ·obtain⟨z,hz,rfl⟩:=List.mem_map.1 r
     exact hks _ (List.mem_append_left _ (List.mem_map_of_mem (hsub z hz)))
    ·exact hks k (List.mem_append_right _ r)
   unfold setY
   split
   ·exact⟨base_upd2 (fun _=>rfl) (fun _=>rfl) hb,fun z hz=>hh z (hsub z hz),hk'⟩
   ·exact⟨base_upd2 (fun _=>rfl) (fun _=>rfl) hb,fun z hz=>hh z (hsub z hz),hk'⟩
  ·exact⟨hb,hh,hks⟩
 by_cases k8:e.kind=8
 ·rw[←wk8 k8]
  refine⟨fun c hc=>?_,fun z hz=>?_,fun k hk=>?_⟩
  ·obtain⟨d,hd,rfl⟩:=List.mem_map.1 hc
   have:=hb d hd
   unfold fadeC
   split<;>exact this
  ·obtain⟨d,hd,rfl⟩:=List.mem_map.1 hz
   exact hh d hd
  ·refine hks k ?_
   unfold keysOf tickR at hk
   dsimp only at hk
   rw[List.map_map]at hk
   exact hk
 by_cases k9:e.kind=9
 ·rw[←wk9 k9]at hw ⊢
  by_cases q:lauC x e=0
  ·rw[lauR_yes q]
   refine⟨base_upd2 (fun _=>rfl) (fun _=>rfl) hb,hh,fun k hk=>?_⟩
   unfold keysOf lauY at hk
   dsimp only at hk
   rw[List.map_append]at hk
   rcases List.mem_append.1 hk with r|r
   ·exact hks k (List.mem_append_left _ r)
   ·rcases List.mem_append.1 r with r|r
    ·exact hks k (List.mem_append_right _ r)
    ·simp at r;omega
  ·rw[lauR_no q]at hw;exact absurd hw q
 ·have:=ev_kind h2
  rw[←wk10 (by omega)]
  unfold landR
  split
  ·rename_i y hy
   have hk':∀k∈x.htlcs.map (fun h=>h.key)++(delI x.circles y.key).map (fun h=>h.key),k≤K:=fun k hk=>by
    rcases List.mem_append.1 hk with r|r
    ·exact hks k (List.mem_append_left _ r)
    ·obtain⟨z,hz,rfl⟩:=List.mem_map.1 r
     exact hks _ (List.mem_append_right _ (List.mem_map_of_mem (List.mem_filter.1 hz).1))
   unfold landY
   split
   ·exact⟨base_upd2 (fun _=>rfl) (fun _=>rfl) hb,hh,hk'⟩
   ·exact⟨base_upd2 (fun _=>rfl) (fun _=>rfl) hb,hh,hk'⟩
  ·exact⟨hb,hh,hks⟩
theorem appB_parts{x:Book}{e:Event}(h:applyC x e=0):(appB x e).chans=(workR x e).b.chans∧(appB x e).htlcs=(workR x e).b.htlcs∧(appB x e).circles=(workR x e).b.circles∧(appB x e).next≤x.next+1:=by
 by_cases r:(workR x e).l=[]
 ·rw[(appB_nil h r).1]
  exact⟨rfl,rfl,rfl,by rw[workR_next];omega⟩
 ·rw[(appB_yes h r).1]
  exact⟨rfl,rfl,rfl,by show (workR x e).b.next+1≤_;rw[workR_next];omega⟩
theorem Wl.step{K:Int}{x:Book}{l l':Ledger}{n:Nat}{e:Event}(h:Wl K x l n)(hc:applyC x e=0)(hk:e.kind≠3)(ha:e.amt≤1000000)(hkey:e.key≤K)(hl:Agr (appB x e) l')(hs:∀k c,sumA l'.lines k c=sumA l.lines k c+sumA (workR x e).l k c):Wl K (appB x e) l' (n+1):=by
 have o:=outer hc hk h.htl
 obtain⟨s1,s2,s3⟩:=small_work hc ha hkey h.base h.htl h.keys
 obtain⟨p1,p2,p3,p4⟩:=appB_parts hc
 have am:=evAmt (applyC_ok hc).2.1
 rw[amtOk_true,amtOk_true]at am
 have e1:=h.eq;have e2:=h.inc;have e3:=h.reb;have e4:=h.chn;have e5:=h.next
 have o1:=o.eq;have o2:=o.inc;have o3:=o.reb;have o4:=o.chn
 refine⟨hl,?_,?_,?_,?_,by rw[p1];exact s1,by rw[p2];exact s2,by omega,fun k hk=>s3 k ?_⟩
 ·rw[hs,o1]
  push_cast
  split<;>omega
 ·rw[hs];push_cast;omega
 ·rw[hs];omega
 ·rw[hs];omega
 ·unfold keysOf at hk ⊢
  rw[p2,p3]at hk
  exact hk
theorem Wl.reb_le{K:Int}{x:Book}{l:Ledger}{n:Nat}(h:Wl K x l n):sumA l.lines 4 0≤200000+n*3000001:=by
 have t:=(tot_all h.agr.lns.acc).1
 have t0:tot lamt l.lines=0:=h.agr.lns.sum
 have b:=bOk_of h.agr.book
 have hw:=b.wallet
 rw[←h.agr.wal]at hw
 unfold Amt at hw
 have hS:0≤S99 l.lines:=by
  unfold S99
  have key:∀(m:List Nat),(∀j∈m,j<99)→0≤tot (fun j:Nat=>sumA l.lines 6 (j+1)+sumA l.lines 7 (j+1)+sumA l.lines 8 (j+1)) m:=by
   intro m
   induction m with
   |nil=>intro _;exact Int.le_refl _
   |cons j m ih=>
    intro hm
    rw[tot_cons]
    have hj:=hm j (by simp)
    have i1:=ih (fun z hz=>hm z (by simp[hz]))
    have hc:1≤(j:Int)+1∧(j:Int)+1≤99:=by omega
    rw[h.agr.loc _ hc,h.agr.inn _ hc,h.agr.out _ hc]
    have l1:0≤locL x.chans ((j:Int)+1):=by
     unfold locL
     rcases chan_find x.chans ((j:Int)+1)with⟨_,r⟩|⟨i,d,_,r2,r3,_⟩
     ·rw[r];exact Int.le_refl _
     ·rw[r3]
      have:=(b.ch d (mem_of_get r2)).loc
      unfold Amt at this
      exact this.1
    have l2:0≤outOf x ((j:Int)+1):=by
     have:=outs_l b.hs b.cs ((j:Int)+1)
     unfold outOf
     omega
    omega
  exact key _ (fun j hj=>List.mem_range.1 hj)
 have e1:=h.eq;have e2:=h.inc;have e3:=h.chn
 omega
theorem Wl.goes{K:Int}{x:Book}{l:Ledger}{n:Nat}{e:Event}(h:Wl K x l n)(hn:n≤100)(hc:applyC x e=0)(hk:e.kind≠3)(hp:(appP x e).lines≠[])(ha:e.amt≤1000000)(hr:sumA (workR x e).l 4 0≤1000000000):postC l (appP x e)=0:=by
 have o:=outer hc hk h.htl
 have am:=evAmt (applyC_ok hc).2.1
 rw[amtOk_true,amtOk_true]at am
 have e1:=h.eq;have e2:=h.inc;have e3:=h.reb;have e4:=h.chn;have e5:=h.reb_le
 have o1:=o.eq;have o2:=o.inc;have o3:=o.reb;have o4:=o.chn
 refine post_goes h.agr hc hp fun k k2 k5=>inB_true.2 ?_
 rcases(by omega:k=2∨k=3∨k=4∨k=5)with q|q|q|q<;>subst q
 ·rw[o1];split<;>omega
 ·omega
 ·omega
 ·omega

def flatR:AO→Prop
 |.arr e sz rows=>∀r∈rows,∀p∈r,∃v,p=PV.v v
 |_=>False
theorem GX.lent{P:Program}{f:FuncId}{args args':List AV}{ob0:List (Nat×AO)}{R:AV→List (Nat×AO)→Prop}(hc:GX P f args [] R)(hl:lendL (ofO ob0) args'=args)(h0:∀p∈ob0,arrO p.2=true)
 (hR:∀x ob1,R x ob1→ownA x=true∧(∀id∈ownN x,inO ob1 id=true)∧(∀p∈ob1,flatR p.2)∧(∀p∈ob0,inO ob1 p.1=false)) :
 GX P f args' ob0 fun x ob=>∃ob1,R x ob1∧ob=ob1++ob0:=by
 intro L w cs ρ fp hL hargs hob hdj hLf
 have hv:=RVL.lend (fun id=>⟨_,hob id⟩) args' hargs
 rw[hl]at hv
 refine Calls.mono (hc L0 w cs ρ0 (fun _=>[]) (fun _ q=>q.elim) hv (fun i=>rfl) (by simp) (by simp)) ?_
 rintro e w' ⟨x,ob1,hR1,v,ρ',fp',rfl,g1,g2,g3,g4,g5⟩
 obtain⟨hx,hn,h1,hd⟩:=hR x ob1 hR1
 have hnew:∀i,∀b∈fp' i,w.heap.size≤b:=fun i b hb=>by
  rcases(g5 i b hb).1 with⟨j,q⟩|q
  ·cases q
  ·exact q
 have hsame:∀b,b<w.heap.size→w'.heap[b]? = w.heap[b]?:=fun b hb=>g1.block b hb (by simp)
 generalize hρ2:(fun i=>if inO ob1 i=true then ρ' i else ρ i)=ρ2
 generalize hf2:(fun i=>if inO ob1 i=true then fp' i else fp i)=f2
 have eρ1:∀ {i},inO ob1 i=true→ρ2 i=ρ' i:=fun{i} h=>by rw[←hρ2];simp only[h,if_true]
 have eρ0:∀ {i},inO ob1 i=false→ρ2 i=ρ i:=fun{i} h=>by rw[←hρ2];simp[h]
 have ef1:∀ {i},inO ob1 i=true→f2 i=fp' i:=fun{i} h=>by rw[←hf2];simp only[h,if_true]
 have ef0:∀ {i},inO ob1 i=false→f2 i=fp i:=fun{i} h=>by rw[←hf2];simp[h]
 have eH1:∀ {i},inO ob1 i=true→ofO (ob1++ob0) i=ofO ob1 i:=fun{i} h=>by rw[ofO_app,if_pos h]
 have eH0:∀ {i},inO ob1 i=false→ofO (ob1++ob0) i=ofO ob0 i:=fun{i} h=>by rw[ofO_app,if_neg (by simp[h])]
 have hlive:∀b,b<w.heap.size→¬live L ρ (ofO ob0) b→¬live L ρ2 (ofO (ob1++ob0)) b:=by
  rintro b hb hn (hl|⟨i,q1,q2⟩)
  ·exact hn (.inl hl)
  ·rcases hi:inO ob1 i with _|_
   ·rw[eH0 hi]at q1;rw[eρ0 hi]at q2;exact hn (.inr ⟨i,q1,q2⟩)
   ·rw[eH1 hi]at q1;rw[eρ1 hi]at q2
    have:=hnew i b ((g3 i).top q1 q2)
    omega
 have E:Env L ρ ρ2 (ofO ob0) (ofO (ob1++ob0)) w w' (inO ob1):=⟨g1.size,fun b hb hn=>⟨hsame b hb,hlive b hb hn⟩,fun i hk hi=>by
  rw[eH0 hk]at hi ⊢
  exact⟨hi,eρ0 hk,rfl,rfl⟩⟩
 refine⟨x,ob1++ob0,⟨ob1,hR1,rfl⟩,v,ρ2,f2,rfl,⟨g1.os,g1.tape,g1.output,g1.size,fun b hb _=>hsame b hb,fun b o hb hlt=>?_⟩,?_,fun i=>?_,fun i j hij b hb hb'=>?_,fun i b hb=>?_⟩
 ·rcases Nat.lt_or_ge b w.heap.size with hb2|hb2
  ·rcases hb with⟨i,hi⟩|hb
   ·rw[World.frozen?_of_block (w:=w) (hsame b hb2)]
    exact(hob i).frozen b hi o
   ·omega
  ·exact g1.nf b o (.inr hb2) hlt
 ·refine RV.owned x hx g2 fun id hid=>?_
  obtain⟨o,q1,q2⟩:=ofO_mem (hn id hid)
  have hfl:=h1 _ q1
  refine⟨?_,eρ1 (hn id hid)⟩
  rw[q2]
  cases o with
  |arr e sz rows=>rfl
  |box T p c=>exact hfl.elim
  |gone=>exact hfl.elim
 ·rcases hi:inO ob1 i with _|_
  ·rw[eH0 hi,eρ0 hi,ef0 hi]
   have h:=(hob i).env E (fun b hb=>hsame b ((hob i).lt b hb))
   have ek:(ofO ob0 i).kil (inO ob1)=ofO ob0 i:=by
    rcases hj:inO ob0 i with _|_
    ·rw[ofO_out hj];rfl
    ·obtain⟨o,q1,q2⟩:=ofO_mem hj
     have:=h0 _ q1
     rw[q2]
     cases o with
     |arr e sz rows=>rfl
     |box T p c=>cases this
     |gone=>rfl
   rwa [ek]at h
  ·rw[eH1 hi,eρ1 hi,ef1 hi]
   obtain⟨o,q1,q2⟩:=ofO_mem hi
   have hfl:=h1 _ q1
   have h:=g3 i
   rw[q2]at h ⊢
   cases o with
   |arr e sz rows=>
    obtain⟨xs,fr,k1,k2,k3,k4,k5⟩:=h
    have hfr:=k1.flat_fp hfl
    subst hfr
    exact⟨xs,[],k1,by simp,k3,k4,k5⟩
   |box T p c=>exact hfl.elim
   |gone=>exact hfl.elim
 ·rcases hi:inO ob1 i with _|_<;>rcases hj:inO ob1 j with _|_
  ·rw[ef0 hi]at hb;rw[ef0 hj]at hb';exact hdj i j hij b hb hb'
  ·rw[ef0 hi]at hb;rw[ef1 hj]at hb'
   have:=(hob i).lt b hb
   have:=hnew j b hb'
   omega
  ·rw[ef1 hi]at hb;rw[ef0 hj]at hb'
   have:=(hob j).lt b hb'
   have:=hnew i b hb
   omega
  ·rw[ef1 hi]at hb;rw[ef1 hj]at hb';exact g4 i j hij b hb hb'
 ·rcases hi:inO ob1 i with _|_
  ·rw[ef0 hi]at hb;exact⟨.inl ⟨i,hb⟩,hLf i b hb⟩
  ·rw[ef1 hi]at hb
   have:=hnew i b hb
   exact⟨.inr this,fun hl=>by have:=hL b hl;omega⟩
theorem GX.same{P:Program}{f:FuncId}{args:List AV}{ob0:List (Nat×AO)}{R R':AV→List (Nat×AO)→Prop}(h:GX P f args ob0 R)(hR:∀x ob,R x ob→∃ob',R' x ob'∧ofO ob'=ofO ob):GX P f args ob0 R':=fun L w cs ρ fp h1 h2 h3 h4 h5=>
 Calls.mono (h L w cs ρ fp h1 h2 h3 h4 h5) fun e w' ⟨x,ob,q,r⟩=>by
  obtain⟨ob',q1,q2⟩:=hR x ob q
  exact⟨x,ob',q1,by rw[q2];exact r⟩
theorem inO_fam{F:List AO}{i:Nat}(h:i<1000000):inO (famL 1000000 F) i=false:=by
 cases e:inO (famL 1000000 F) i with
 |false=>rfl
 |true=>
  obtain⟨o,q,_⟩:=ofO_mem e
  obtain⟨m,_,q2⟩:=mem_famL q
  omega
theorem inO_app{l m:List (Nat×AO)}{i:Nat}:inO (l++m) i=(inO l i||inO m i):=by unfold inO;rw[List.map_append,List.contains_eq_any_beq,List.any_append,←List.contains_eq_any_beq,←List.contains_eq_any_beq]
theorem GN.lent{P:Program}{f:FuncId}{args args':List AV}{ob0:List (Nat×AO)}{R:AV→List (Nat×AO)→List AO→Prop}(hc:GN P f args [] [] R)(hl:lendL (ofO ob0) args'=args)(h0:(ob0.all fun p=>arrO p.2&&(lowO p.2&&Nat.blt p.1 1000000))=true)
 (hR:∀x l1 F1,R x l1 F1→ownA x=true∧(∀id∈ownN x,inO l1 id=true)∧(∀p∈l1,flatR p.2)∧(∀o∈F1,flatR o)∧(∀p∈ob0,inO l1 p.1=false)) :
 GN P f args' ob0 [] fun x l F=>∃l1,R x l1 F∧l=l1++ob0:=by
 have hs:smallO ob0=true:=List.all_eq_true.2 fun p hp=>by
  have:=List.all_eq_true.1 h0 p hp
  simp only[Bool.and_eq_true]at this
  exact this.2.2
 have hlo:(ob0.all fun p=>lowO p.2)=true:=List.all_eq_true.2 fun p hp=>by
  have:=List.all_eq_true.1 h0 p hp
  simp only[Bool.and_eq_true]at this
  exact this.2.1
 have hc':GX P f args [] _:=hc
 have h:=GX.lent (ob0:=ob0) hc' hl (fun p hp=>by
  have:=List.all_eq_true.1 h0 p hp
  simp only[Bool.and_eq_true]at this
  exact this.1) (fun x ob1 ⟨l1,F1,q1,q2,q3,q4,q5⟩=>by
  subst q4
  obtain⟨r1,r2,r3,r4,r5⟩:=hR x l1 F1 q5
  refine⟨r1,fun id hid=>by rw[inO_app,r2 id hid];rfl,fun p hp=>?_,fun p hp=>?_⟩
  ·rcases List.mem_append.1 hp with hp|hp
   ·exact r3 p hp
   ·have:∀(F:List AO) (n:Nat),p∈famL n F→p.2∈F:=by
     intro F
     induction F with
     |nil=>intro n h;cases h
     |cons o F ih=>
      intro n h
      rcases List.mem_cons.1 h with h|h
      ·rw[h];simp
      ·exact List.mem_cons_of_mem _ (ih _ h)
    exact r4 _ (this _ _ hp)
  ·rw[inO_app,r5 p hp,inO_fam (Nat.le_of_ble_eq_true (List.all_eq_true.1 hs p hp))];rfl)
 show GX P f args' (ob0++[]) _
 rw[List.append_nil]
 refine h.same fun x ob ⟨ob1,⟨l1,F1,q1,q2,q3,q4,q5⟩,q6⟩=>?_
 subst q4 q6
 simp only[Bool.and_eq_true]at q1
 have s1:smallO (l1++ob0)=true:=by unfold smallO at *;rw[List.all_append,q1.1,hs];rfl
 refine⟨(l1++ob0)++famL 1000000 F1,⟨l1++ob0,F1,?_,q2,q3,rfl,l1,q5,rfl⟩,?_⟩
 ·rw[s1,List.all_append,q1.2.1,hlo,q1.2.2];rfl
 ·funext i
  rcases lo_or_hi i with q|⟨m,rfl⟩
  ·rw[ofO_lo q,ofO_app,ofO_app,inO_app,inO_fam q,Bool.or_false,ofO_lo q]
  ·rw[ofO_hi s1,List.append_assoc,ofO_hi q1.1,ofO_app]
   split
   ·rfl
   ·rename_i z
    rw[ofO_out (by simpa using z)]
    have:inO ob0 (1000000+m)=false:=by
     cases e:inO ob0 (1000000+m)with
     |false=>rfl
     |true=>
      obtain⟨o,w1,_⟩:=ofO_mem e
      have:=List.all_eq_true.1 hs _ w1
      have:1000000+m<1000000:=Nat.le_of_ble_eq_true this
      omega
    rw[ofO_out this]
theorem exK{E l:List Nat}{X:Nat→Bool}(h:E=l)(h2:l.all X=true):∀id∈E,X id=true:=fun id hid=>by subst h;exact List.all_eq_true.1 h2 id hid

section
variable {P:Program}{o:Oper}{N:Nat}{τ:Nat→AV}{H:Nat→AO}
theorem St.trunc(id:Nat){t e e':TypeId}{pn:Option Value}{x:Operand}{hi:Option Operand}{sz h d:Nat}{rows:List (List PV)}(ho:o.op=.slice t x none hi none)(hd:o.dst=some d)(hN:d<N)(ht:elA P t=some (e,sz))(hx:ev τ x=.own id)(hH:H id=.arr ⟨e',pn⟩ sz rows)(hhi:bnd τ rows.length hi h)(hn:h≤rows.length) :
 St P o N τ H [] (updo (fun s=>kil (one? id) (τ s)) o.dst (.own id)) (upd (fun j=>(H j).kil (one? id)) id (.arr ⟨e',none⟩ sz (rows.take h))):=by
 refine St.turn id (one? id) (.own id) (.arr ⟨e',none⟩ sz (rows.take h)) [] (fun s hs=>by rw[hd]at hs;cases hs;exact hN) (fun{L O w0 ρ fp a w} hr=>?_)
 have hv:=hr.ev x
 rw[hx,RV]at hv
 have h0:=hv.2 (by rw[hH];rfl)
 have hO:=hr.ob id
 rw[hH]at hO
 obtain⟨xs,fr,r1,r2,hown,hfp,_⟩:=hO
 have hlen:(rows.take h).length=h:=by rw[List.length_take];omega
 obtain⟨g1,t1,t2⟩:=r1.take h
 have hgrow:w.grownBy w none:=⟨rfl,rfl,rfl,Nat.le_refl _,fun _ _ _=>rfl⟩
 rcases hown.2 with⟨q,q'⟩|⟨g,cap,cur,q,hb0,hg,c1,c2,c3,c4⟩
 ·have hrun:=slc_run (o:=o) (a:=a) (l:=0) (fun z=>hr.ev z) ho ht (by show (0:Nat)=0;rfl) hhi (Nat.zero_le _) hn (Nat.le_of_eq q') (by rw[h0,q,q']) w
  have hz:h=0:=by omega
  subst hz
  refine⟨w,.slice none 0 0,none,_,_,hrun,.inl rfl,hgrow,by simp,(fun b off hb hlt=>?_),(fun hk=>by simp[one?]at hk),(fun b hb=>by cases hb),(fun E=>⟨⟨[],g1,?_,?_,?_,rfl,(fun u hu=>by cases hu)⟩,?_⟩)⟩
  ·rcases hb with hb|hb
   ·cases hb
   ·omega
  ·have:xs.take (0*sz)=[]:=by simp
   rw[this]at t1;exact t1
  ·intro b hb hl
   have hlt:=RWR.lt _ r1 b (t2 hb)
   exact(E.block b hlt (r2 b (t2 hb))).2 hl
  ·have:(rows.take 0).length=0:=by simp
   rw[this]
   exact World.ownsRow_nil _ _ _ _
  ·rw[RV,upd_same]
   exact⟨by rfl,fun _=>by rw[upd_same];(try rfl);(try simp)⟩
 ·have hrun:=slc_run (o:=o) (a:=a) (l:=0) (fun z=>hr.ev z) ho ht (by show (0:Nat)=0;rfl) hhi (Nat.zero_le _) hn c1 (h0.trans q) w
  have ead:(if cap=0 then (some ⟨g,0,none⟩:Option Addr)else (some ⟨g,0,none⟩:Option Addr).map (·.add (0*sz)))=some ⟨g,0,none⟩:=by
   split
   ·rfl
   ·show some ((⟨g,0,none⟩:Addr).add (0*sz))=_
    unfold Addr.add;split<;>simp_all
  rw[ead,Nat.sub_zero,Nat.sub_zero]at hrun
  refine⟨w,.slice (some ⟨g,0,none⟩) h cap,none,_,_,hrun,.inl rfl,hgrow,by simp,(fun b off hb hlt=>?_),(fun hk=>by simp[one?]at hk),(fun b hb=>.inr ⟨by rw[hH];rfl,by rw[q];exact hb⟩),(fun E=>⟨⟨xs.take (h*sz),g1,t1,?_,?_,rfl,(fun u hu=>by cases hu)⟩,?_⟩)⟩
  ·rcases hb with hb|hb
   ·cases hb
   ·omega
  ·intro b hb hl
   have hlt:=RWR.lt _ r1 b (t2 hb)
   exact(E.block b hlt (r2 b (t2 hb))).2 hl
  ·rw[hlen]
   refine⟨?_,.inr ⟨g,cap,cur,rfl,hb0,hg,by omega,c2,c3,?_⟩⟩
   ·rw[List.length_take,hown.1]
    have:=Nat.mul_le_mul_right sz hn
    omega
   ·rw[←c4,List.take_take]
    have:=Nat.mul_le_mul_right sz hn
    congr 1
    omega
  ·rw[RV,upd_same]
   exact⟨by rfl,fun _=>by rw[upd_same];(try rfl);(try simp)⟩
end

theorem GC.imp_args{P:Program}{f:FuncId}{args args':List AV}{x:AV}(h:GC P f args [] x [])(hi:ImpL args' args):GC P f args' [] x []:=fun L w cs ρ fp h1 h2 h3 h4 h5=>h L w cs ρ fp h1 (hi h2) h3 h4 h5
theorem no_liveN{L:Nat→Prop}{ρ:Nat→Value}{b:Nat}(h:¬L b):¬live L ρ (ofO []) b:=by
 rintro(q|⟨_,q,_⟩)
 ·exact h q
 ·cases q
def RowN{α:Type}(sz:Nat)(rep:World→Nat→Nat→List Value→α→Prop)(xs:List α)(w:World)(lo:Nat)(v:Value):Prop:=SlR sz rep w lo w.heap.size v xs
theorem RowN.rv{α:Type}{enc:α→List Value}{e:TypeId}{sz:Nat}{rep:World→Nat→Nat→List Value→α→Prop}{xs:List α}(hrep:∀w lo hi cs x,rep w lo hi cs x→cs=enc x)(hs:∀x,(enc x).length=sz)(h1:∀x,∀u∈enc x,u.oneCell'=true)
 {L:Nat→Prop} {ρ:Nat→Value} {w:World} {lo:Nat} {v:Value} (hL:∀b,L b→b<lo) (h:RowN sz rep xs w lo v):RV L ρ (ofO []) w (.p (.lst e sz (rowsOf enc xs))) v:=
 RV.of_slr h (fun _ _ q=>hrep _ _ _ _ _ q) hs h1 (Nat.le_refl _) (fun b q _=>no_liveN fun z=>by have:=hL b z;omega)
section
variable {L:Nat→Prop}{ρ:Nat→Value}{H:Nat→AO}{w:World}{S:Nat→Prop}
def Lie(L:Nat→Prop)(ρ:Nat→Value)(H:Nat→AO)(w:World)(S:Nat→Prop):Prop:=(∀id,∃f,OB L ρ H w (ρ id) f (H id)∧∀b∈f,S b)∧∀b,¬live L ρ H b→S b
theorem Lie.row(hl:Lie L ρ H w S){id:Nat}{e:Pin}{sz:Nat}{rows rows':List (List PV)}(hH:H id=.arr e sz rows)(h:∀ {xs fp},RWR w false sz rows xs fp→(∀b∈fp,S b)→∃g,RWR w false sz rows' xs g∧∀b∈g,S b)(hlen:rows'.length=rows.length) :
 ∃g,RW w false (.lst e.ty sz rows') (ρ id) g∧∀b∈g,S b:=by
 obtain⟨f,ho,hf⟩:=hl.1 id
 rw[hH]at ho
 obtain⟨xs,fr,b1,b2,b3,b4,b5⟩:=ho
 obtain⟨g,k1,k2⟩:=h b1 (fun b hb=>hl.2 b (b2 b hb))
 rcases b3.2 with⟨q,q2⟩|⟨gb,cap,cur,q,_,hg,hnc,hcm,_⟩
 ·refine⟨[]++g,?_,fun b hb=>k2 b (by simpa using hb)⟩
  rw[RW]
  refine⟨xs,[],g,k1,?_,rfl⟩
  unfold SlAt
  simp only[Bool.false_eq_true,if_false]
  exact⟨none,0,by rw[q,hlen,q2],by omega,by simp[maxLen],.inl ⟨by omega,trivial⟩⟩
 ·have b3':=b3
  rw[q]at b3'
  refine⟨[gb]++g,?_,fun b hb=>?_⟩
  ·rw[RW]
   refine⟨xs,[gb],g,k1,?_,rfl⟩
   unfold SlAt
   simp only[Bool.false_eq_true,if_false]
   exact⟨_,cap,by rw[q,hlen],by omega,hcm,.inr ⟨gb,0,rfl,cellsAt_of_own b3',(Array.getElem?_eq_some_iff.1 hg).1,rfl⟩⟩
  ·rcases List.mem_append.1 hb with hb|hb
   ·refine hf b ?_
    rw[List.mem_singleton.1 hb,b4,q]
    simp[Value.ownBlock]
   ·exact k2 b hb
theorem Lie.self(hl:Lie L ρ H w S){id:Nat}{e:Pin}{sz:Nat}{rows:List (List PV)}(hH:H id=.arr e sz rows):∃g,RW w false (.lst e.ty sz rows) (ρ id) g∧∀b∈g,S b:=hl.row hH (fun h hs=>⟨_,h,hs⟩) rfl
theorem RWL.deepS(hl:Lie L ρ H w S):∀ {x y:List PV} {c:List Value} {fp:List Nat},All2 (dpC H) x y→RWL w false x c fp→(∀b∈fp,S b)→∃fp',RWL w false y c fp'∧∀b∈fp',S b
 |_,_,c,fp,.nil,h,hs=>⟨fp,h,hs⟩
 |_,_,c,fp,.cons h1 h2,h,hs=>by
  rw[RWL]at h
  obtain⟨c,r,f1,f2,rfl,rfl,k1,k2⟩:=h
  obtain⟨g2,k3,k4⟩:=RWL.deepS hl h2 k2 (fun b hb=>hs b (List.mem_append_right _ hb))
  rcases h1 with rfl|⟨v,m,e,sz,rows,rfl,hm,rfl⟩
  ·refine⟨f1++g2,by rw[RWL];exact⟨c,r,f1,g2,rfl,rfl,k1,k3⟩,fun b hb=>?_⟩
   rcases List.mem_append.1 hb with q|q
   ·exact hs b (List.mem_append_left _ q)
   ·exact k4 b q
  ·obtain⟨g1,k5,k6⟩:=hl.self hm
   have hv:ρ m=v:=by
    obtain⟨f,ho,_⟩:=hl.1 m
    rw[hm]at ho
    obtain⟨_,_,_,_,_,_,k⟩:=ho
    exact k v rfl
   rw[RW]at k1
   rw[k1.1,←hv]
   refine⟨g1++g2,by rw[RWL];exact⟨ρ m,r,g1,g2,rfl,rfl,k5,k3⟩,fun b hb=>?_⟩
   rcases List.mem_append.1 hb with q|q
   ·exact k6 b q
   ·exact k4 b q
theorem RWR.deepS(hl:Lie L ρ H w S){sz:Nat}:∀ {x y:List (List PV)} {c:List Value} {fp:List Nat},All2 (All2 (dpC H)) x y→RWR w false sz x c fp→(∀b∈fp,S b)→∃fp',RWR w false sz y c fp'∧∀b∈fp',S b
 |_,_,c,fp,.nil,h,hs=>⟨fp,h,hs⟩
 |_,_,c,fp,.cons h1 h2,h,hs=>by
  rw[RWR]at h
  obtain⟨hn,c,r,f1,f2,rfl,rfl,k1,k2⟩:=h
  obtain⟨g1,k3,k5⟩:=RWL.deepS hl h1 k1 (fun b hb=>hs b (List.mem_append_left _ hb))
  obtain⟨g2,k4,k6⟩:=RWR.deepS hl h2 k2 (fun b hb=>hs b (List.mem_append_right _ hb))
  refine⟨g1++g2,by rw[RWR];exact⟨by rw[←h1.len];exact hn,c,r,g1,g2,rfl,rfl,k3,k4⟩,fun b hb=>?_⟩
  rcases List.mem_append.1 hb with q|q
  ·exact k5 b q
  ·exact k6 b q
end
structure Still(H:Nat→AO)(x y:AV):Prop where
 to:∀ {L:Nat→Prop} {ρ:Nat→Value} {w:World} {c:Value},Lie L ρ H w (fun b=>¬L b)→RV L ρ H w x c→RV L ρ (ofO []) w y c
theorem Still.p{H:Nat→AO}(x:PV):Still H (.p x) (.p x):=.mk fun{L ρ w c} hl h=>by
 rw[RV]at *
 obtain⟨fp,h1,h2⟩:=h
 exact⟨fp,h1,fun b hb=>no_liveN (hl.2 b (h2 b hb))⟩
theorem Still.own{H:Nat→AO}{id:Nat}{e:Pin}{sz:Nat}{rows rows':List (List PV)}(hH:H id=.arr e sz rows)(h:All2 (All2 (dpC H)) rows rows'):Still H (.own id) (.p (.lst e.ty sz rows')):=.mk fun{L ρ w c} hl hx=>by
 rw[RV]at hx
 have hc:=hx.2 (by rw[hH];rfl)
 obtain⟨g,k1,k2⟩:=hl.row hH (fun q hs=>RWR.deepS hl h q hs) h.len.symm
 rw[hc,RV]
 exact⟨g,k1,fun b hb=>no_liveN (k2 b hb)⟩
theorem Still.row{H:Nat→AO}{id:Nat}{e:Pin}{sz:Nat}{rows:List (List PV)}(hH:H id=.arr e sz rows):Still H (.own id) (.p (.lst e.ty sz rows)):=.mk fun{L ρ w c} hl hx=>by
 rw[RV]at hx
 have hc:=hx.2 (by rw[hH];rfl)
 obtain⟨g,k1,k2⟩:=hl.self hH
 rw[hc,RV]
 exact⟨g,k1,fun b hb=>no_liveN (k2 b hb)⟩
theorem RVL.still{H:Nat→AO}{L:Nat→Prop}{ρ:Nat→Value}{w:World}(hl:Lie L ρ H w (fun b=>¬L b)):∀ {l m:List AV} {cs:List Value},All2 (Still H) l m→RVL L ρ H w l cs→RVL L ρ (ofO []) w m cs
 |_,_,cs,.nil,h=>by rw[RVL]at *;exact h
 |_,_,cs,.cons h1 h2,h=>by
  rw[RVL]at *
  obtain⟨c,r,rfl,k1,k2⟩:=h
  exact⟨c,r,rfl,h1.to hl k1,RVL.still hl h2 k2⟩
theorem Still.agg{H:Nat→AO}{l m:List AV}(h:All2 (Still H) l m):Still H (.agg l) (.agg m):=.mk fun hl hx=>by
 rw[RV]at *
 obtain⟨cs,rfl,h1⟩:=hx
 exact⟨cs,rfl,RVL.still hl h h1⟩
theorem Still.tup{H:Nat→AO}{l m:List AV}(h:All2 (Still H) l m):Still H (.tup l) (.tup m):=.mk fun hl hx=>by
 rw[RV]at *
 obtain⟨cs,rfl,h1⟩:=hx
 exact⟨cs,rfl,RVL.still hl h h1⟩
theorem GX.frozen{P:Program}{f:FuncId}{args:List AV}{R:AV→List (Nat×AO)→Prop}{Z:AV→Prop}(h:GX P f args [] R)(hR:∀x ob1,R x ob1→∃y,Still (ofO ob1) x y∧Z y):GX P f args [] fun y ob=>ob=[]∧Z y:=fun L w cs ρ fp h1 h2 h3 h4 h5=>
 Calls.mono (h L w cs ρ fp h1 h2 h3 h4 h5) fun e w' ⟨x,ob1,q,v,ρ',fp',q1,q2,q3,q4,q5,q6⟩=>by
  obtain⟨y,hy,hz⟩:=hR x ob1 q
  have hl:Lie L ρ' (ofO ob1) w' (fun b=>¬L b):=⟨fun id=>⟨fp' id,q4 id,fun b hb=>(q6 id b hb).2⟩,fun b hb=>fun z=>hb (.inl z)⟩
  exact⟨y,[],⟨rfl,hz⟩,v,ρ',fun _=>[],q1,q2,hy.to hl q3,fun i=>rfl,by simp,by simp⟩

abbrev allW(r:AllS):AV:=.tup [bookV r.now,.p (.lst 34 2 (rowsP r.ps)),.p (.lst 3 1 (rowsOf encKey r.codes))]
theorem all_frozen{f:FuncId}{args:List AV}{r:AllS}(h:GN Tryz.prog f args [] [] (allRel r)):GC Tryz.prog f args [] (allW r) []:=
 (GX.frozen (Z:=fun y=>y=allW r) (show GX Tryz.prog f args [] _ from h) fun x ob ⟨l1,F1,hs,hF,hM,e,⟨vs,hv,e1,e2,e3⟩⟩=>by
   subst e e1 e2 e3
   refine⟨allW r,?_,rfl⟩
   have hT:Tl (ofO (allOb r vs++famL 1000000 (famP vs r.ps))) (famP vs r.ps):=by
    rw[ofO_fam rfl]
    exact Tl.tl hF
   exact Still.tup (.cons (Still.agg (.cons (Still.p _) (.cons (Still.p _) (.cons (Still.p _) (.cons (Still.row (id:=1) (e:=⟨40,none⟩) (sz:=7) (rows:=rowsOf encChan r.now.chans) rfl) (.cons (Still.row (id:=2) (e:=⟨68,none⟩) (sz:=7) (rows:=rowsOf encHtlc r.now.htlcs) rfl) (.cons (Still.row (id:=3) (e:=⟨78,none⟩) (sz:=5) (rows:=rowsOf encCircle r.now.circles) rfl) .nil)))))))
    (.cons (Still.own (id:=14) (e:=⟨34,none⟩) (sz:=2) (rows:=rowsV vs r.ps) rfl (deepV hT hv (s:=0) fun i hi=>by rw[Nat.zero_add])) (.cons (Still.row (id:=15) (e:=⟨3,none⟩) (sz:=1) (rows:=rowsOf encKey r.codes) rfl) .nil)))).mono fun y o ⟨e1,e2⟩=>⟨e2,e1⟩
theorem sapplyAll_f(x:Book)(es:List Event)(hw:BookWf x)(we:∀e∈es,wfEvent e)(hm:es.length≤1048576):GC Tryz.prog 87 [bookV x,.p (.lst 29 7 (rowsOf encEvent es))] [] (allW (allA x es)) []:=all_frozen (sapplyAll_e x es hw we hm)

theorem bits_and_le(x:Int)(m:Nat)(hm:m<9223372036854775808):0≤bits BinOp.and IntKind.i64 x (m:Int)∧bits BinOp.and IntKind.i64 x (m:Int)≤m:=by
 have h1:(BitVec.ofInt 64 x &&& BitVec.ofInt 64 (m:Int)).toNat≤m:=by
  rw[BitVec.toNat_and]
  have h2:(BitVec.ofInt 64 (m:Int)).toNat=m:=by
   rw[BitVec.toNat_ofInt]
   omega
  rw[h2]
  exact Nat.and_le_right
 have h3:bits BinOp.and IntKind.i64 x (m:Int)=IntKind.i64.wrap ((BitVec.ofInt 64 x &&& BitVec.ofInt 64 (m:Int)).toNat:Int):=rfl
 rw[h3]
 generalize (BitVec.ofInt 64 x &&& BitVec.ofInt 64 (m:Int)).toNat=z at *
 have h4:IntKind.i64.wrap (z:Int)=z:=by
  simp[IntKind.wrap,IntKind.bits,IntKind.signed]
  omega
 rw[h4]
 omega
abbrev encU8(b:Int):List Value:=[.int .u8 b]
abbrev curO(g:Value)(code:List Int)(i:Nat)(h:Int):AO:=.box 122 (some g) [.p (.lst 5 1 (rowsOf encU8 code)),int (i:Int),int h]
def CurOk(code:List Int)(i:Nat):Prop:=i≤code.length∧code.length≤1048576
def DrR(g:Value)(code:List Int)(R:AV→Prop):AV→List (Nat×AO)→Prop:=fun x ob=>∃i h,CurOk code i∧R x∧ob=[(0,curO g code i h)]
def DrI(R:Int→Prop):AV→Prop:=fun x=>∃n,R n∧x=int n
theorem pins_cur{g:Value}{code:List Int}{i:Nat}{h:Int}{R:AV→Prop}:∀x ob1,DrR g code R x ob1→pins [(0,curO g code i h)] ob1 [0]:=fun x ob1 ⟨_,_,_,_,e⟩=>by
 subst e
 exact⟨stays.box (Eq.refl 3),trivial⟩
theorem and_bd(x:Int)(m:Nat)(hm:m<9223372036854775808):0≤bits .and .i64 x (m:Int)∧bits .and .i64 x (m:Int)≤m:=bits_and_le x m hm
theorem tmod_bd{n m:Int}(h0:0≤n)(hm:1≤m):0≤n.tmod m∧n.tmod m<m:=⟨Int.tmod_nonneg _ h0,Int.tmod_lt_of_pos _ (by omega)⟩

theorem l01New_e(code:List Int)(hm:code.length≤1048576):GX Tryz.prog 32 [.p (.lst 5 1 (rowsOf encU8 code))] [] (fun x ob=>∃h,x=.ptr 31 0 0∧ob=[(31,.box 122 none [.p (.lst 5 1 (rowsOf encU8 code)),int ((0:Nat):Int),int h])]):=by
 refine GX.intro (rs:=[.tmp 2]) Tryz.func32 rfl Tryz.ntmps32 (Nat.le_of_ble_eq_true rfl) ⟨rfl,trivial⟩ ?_
 intro L O w0
 refine sL<|laV Z<|nA<|lmL Z<|lnI ty.sl22 Z ?_
 refine lhI rfl ⟨rfl,fits_i64 (by rw[length_rowsOf];unfold i64;omega)⟩<|laI Z<|nG<|aS<|sL<|laI Z<|nG<|aB ?_
 refine aW [0,2] [] (D:=Nat×Int) (fun d=>[(4,int (d.1:Int)),(3,int d.2)]) (fun d=>[]) (fun d=>d.1≤code.length) (fun d=>code.length-d.1) ((0,_)) (Nat.zero_le _) ⟨rfl,rfl,trivial⟩ trivial ?_
 intro ⟨j,q⟩ hI
 replace hI:j≤code.length:=hI
 refine aS<|sL<|lmI Z<|lmL Z<|lnI ty.sl22 Z<|lbB Z<|lmB Z ?_
 refine AL.bool (t:=12) rfl ?_ ?_
 ·intro h1
  refine lmI Z<|lbB Z<|lkB Z<|nG ?_
  refine AW.cond rfl ?_ ?_
  ·intro h2
   refine aK<|gT<|aS<|aB<|aL<|lmI Z<|lq (rd (x:=vI _ _) (rd_val Z Z Z (run_mulw Z) Z) Z)<|lmL Z<|lmI Z ?_
   have hj:j<code.length:=by have h:=h1;rw[length_rowsOf]at h;simp only[decide_eq_true_eq,Bool.and_eq_true]at h;omega
   refine li j ty.el22 Z (row_map hj)<|lrI ty.kd5 Z<|lq (rd (x:=vI _ _) (rd_conv Z ty.ik5 ty.ik3 Z) Z)<|lq (rd (x:=vI _ _) (rd_val Z Z Z (run_addw Z) Z) Z)<|lq (rd (x:=vI _ _) (rd_val Z Z Z (run_addw Z) Z) Z)<|lq (rd (x:=vI _ _) (rd_val Z Z Z (run_and Z) Z) Z)<|laI Z<|lN<|gB<|gT<|aL<|lmI Z<|lgI Z<|laI Z<|nG ?_
   refine⟨(j+1,_),hj,by show code.length-(j+1)<code.length-j;omega,⟨(iq rfl),rfl,trivial⟩,trivial,rfl,rfl⟩
  ·intro h2
   refine aE<|eT<|eT<|eB<|gA<|lmL Z<|lmI Z<|lT [2,28,29] [] ?_
   refine lq (rd (x:=.agg [vL _ _ _,vI _ _,vI _ _]) (rd_build Z ty.sa122 Z Z Z) Z)<|lst (zX 31 Z) Z<|laP Z<|nG<|aR ?_
   refine end_xret (.ptr 31 0 0) [(31,.box 122 none [.p (.lst 5 1 (rowsOf encU8 code)),int ((0:Nat):Int),int q])] ?_ rfl ⟨rfl,trivial⟩
   exact⟨_,rfl,rfl⟩
 ·intro h1
  refine lno Z<|lno Z<|lkZ Z<|nG<|aN Z<|aE<|eT<|eT<|eB<|gA<|lmL Z<|lmI Z<|lq (rd (x:=.agg [vL _ _ _,vI _ _,vI _ _]) (rd_build Z ty.sa122 Z Z Z) Z)<|lst (zX 31 Z) Z<|laP Z<|nG<|aR ?_
  refine end_xret (.ptr 31 0 0) [(31,.box 122 none [.p (.lst 5 1 (rowsOf encU8 code)),int ((0:Nat):Int),int q])] ?_ rfl ⟨rfl,trivial⟩
  exact⟨_,rfl,rfl⟩
theorem l01Byte_e(g:Value)(code:List Int)(i:Nat)(h:Int)(hc:CurOk code i):GX Tryz.prog 93 [.ptr 0 0 0] [(0,curO g code i h)] (DrR g code (DrI fun n=>0≤n∧n≤255)):=by
 refine GX.intro (rs:=[.tmp 2]) Tryz.func93 rfl Tryz.ntmps93 (Nat.le_of_ble_eq_true rfl) ⟨rfl,trivial⟩ ?_
 intro L O w0
 refine sL<|laI Z<|nA<|lmP Z<|lmP Z<|lc Z<|lf 2 ty.F122_2 Z<|loI ty.kd3 Z<|lq (rd (x:=vI _ _) (rd_val Z Z Z (run_mulw Z) Z) Z)<|lq (rd (x:=vI _ _) (rd_val Z Z Z (run_addw Z) Z) Z)<|lc Z<|lf 2 ty.F122_2 Z<|lst (zB 0 ty.co3 ty.inf3 Z) Z<|nG<|aS<|aF []<|pq 0 (qmP Z)<|pq 1 (qc Z)<|pq 2 (qf 2 ty.F122_2 Z)<|sq 3 (roI ty.kd3 Z) ?_
 refine sq 4 (rhI rfl ⟨rfl,by decide,by decide⟩)<|vq 5 (rmP rfl)<|vq 6 (rc rfl)<|vq 7 (rf 2 ty.F122_2 rfl)<|vq 8 (roI ty.kd3 rfl) ?_
 refine vq 9 (rhI rfl ⟨rfl,by decide,by decide⟩)<|vq 10 (rd (x:=vI _ _) (rd_val rfl rfl rfl (run_xor rfl) rfl) rfl)<|vq 11 (rd (x:=vI _ _) (rd_val rfl rfl rfl (run_and rfl) rfl) rfl)<|vq 12 (raI rfl)<|fD<|gT<|aS<|aS<|aF []<|pq 0 (qmP rfl)<|pq 1 (qc rfl)<|pq 2 (qf 1 ty.F122_1 rfl)<|sq 3 (roI ty.kd3 rfl)<|vq 4 (rmP rfl)<|vq 5 (rc rfl)<|fT [0,2,3,28,30] [0] ?_
 refine vq 6 (rf 0 ty.F122_0 Z)<|vq 7 (roL ty.kd22 Z)<|vq 8 (rnI ty.sl22 Z)<|vq 9 (rbB Z)<|fD<|gT ?_
 refine AW.cond rfl ?_ ?_
 ·intro h1
  refine aS<|aF []<|pq 0 (qmX (vI _ _) Z)<|pq 1 (qmP Z)<|pq 2 (qc Z)<|pq 3 (qf 0 ty.F122_0 Z)<|sq 4 (roL ty.kd22 Z)<|vq 5 (rmP Z)<|vq 6 (rc Z)<|vq 7 (rf 1 ty.F122_1 Z)<|vq 8 (roI ty.kd3 Z) ?_
  have hi:i<code.length:=by have h:=h1;rw[length_rowsOf]at h;simp only[decide_eq_true_eq]at h;omega
  refine vq 9 (ri i ty.el22 Z (row_map hi))<|vq 10 (rrI ty.kd5 Z)<|vq 11 (rd (x:=vI _ _) (rd_conv Z ty.ik5 ty.ik3 Z) Z)<|vq 12 (rd (x:=vI _ _) (rd_val Z Z Z (run_addw Z) Z) Z)<|vq 13 (rd (x:=vI _ _) (rd_val Z Z Z (run_and Z) Z) Z)<|vq 14 (raI Z)<|fD<|gT<|aL<|lmP Z<|lmP Z<|lc Z<|lf 1 ty.F122_1 Z<|loI ty.kd3 Z ?_
  refine lhI rfl ⟨rfl,fits_i64 (by unfold i64;have:=hc.2;omega)⟩<|lc Z<|lf 1 ty.F122_1 Z<|lst (zB 0 ty.co3 ty.inf3 rfl) Z<|lT [2,3] [0] ?_
  refine nA<|lmI Z<|laI Z<|nG<|aR ?_
  refine end_xret (int _) [(0,curO g code (i+1) _)] ?_ rfl ⟨(congrArg (fun z:Int=>AO.box 122 (some g) [.p (.lst 5 1 (rowsOf encU8 code)),int z,int _]) (by omega)),trivial⟩
  exact⟨i+1,_,⟨hi,hc.2⟩,⟨_,and_bd _ 255 (by decide),rfl⟩,rfl⟩
 ·intro h1
  refine aK<|gA<|lmI Z<|laI Z<|nG<|aR ?_
  refine end_xret (int _) [(0,curO g code i _)] ?_ rfl ⟨rfl,trivial⟩
  exact⟨i,_,hc,⟨_,and_bd _ 255 (by decide),rfl⟩,rfl⟩
theorem l01Below_e(g:Value)(code:List Int)(i:Nat)(h m:Int)(hc:CurOk code i):GX Tryz.prog 35 [.ptr 0 0 0,int m] [(0,curO g code i h)] (DrR g code (DrI fun n=>0≤n∧(n<m∨m≤0∧n=0))):=by
 refine GX.intro (rs:=[.tmp 4]) Tryz.func35 rfl Tryz.ntmps35 (Nat.le_of_ble_eq_true rfl) ⟨rfl,trivial⟩ ?_
 intro L O w0
 refine sL<|laI Z<|nG<|aS<|sL<|lmI Z<|lbB Z<|nG ?_
 refine AW.cond rfl ?_ ?_
 ·intro h1
  refine sL<|laI Z<|nG<|aR<|rT ?_
  have hm0:m≤0:=by have h:=h1;simpa using h
  refine end_xret (int 0) [(0,curO g code i h)] ?_ rfl ⟨rfl,trivial⟩
  exact⟨i,h,hc,⟨0,⟨by omega,.inr ⟨hm0,rfl⟩⟩,rfl⟩,rfl⟩
 ·intro h1
  refine aK<|gT<|aS<|sL<|lmI Z<|lbB Z<|nG ?_
  refine AW.cond rfl ?_ ?_
  ·intro h2
   refine sL<|lmP Z ?_
   refine lX [(0,0)] [] [0] Tryz.func93 (l01Byte_e g code _ _ hc) (⟨⟨0,rfl,rfl⟩,trivial⟩) (pins_cur) Z ?_
   intro xz1 oz1 hz1
   obtain⟨i1,q1,hc1,⟨n1,⟨na1,nb1⟩,rfl⟩,rfl⟩:=hz1
   refine lmI rfl ?_
   refine lhI rfl ⟨rfl,by have h:=h1;simp only[decide_eq_false_iff_not]at h;omega⟩<|laI Z<|nG<|aR<|rT ?_
   have hm1:1≤m:=by have h:=h1;simp only[decide_eq_false_iff_not]at h;omega
   obtain⟨z1,z2⟩:=tmod_bd (n:=n1) (m:=m) (by omega) hm1
   refine end_xret (int (n1.tmod m)) [(0,curO g code i1 q1)] ?_ rfl ⟨rfl,trivial⟩
   exact⟨i1,q1,hc1,⟨_,⟨z1,.inl z2⟩,rfl⟩,rfl⟩
  ·intro h2
   refine aK<|gA<|lmP Z ?_
   refine lX [(0,0)] [] [0] Tryz.func93 (l01Byte_e g code _ _ hc) (⟨⟨0,rfl,rfl⟩,trivial⟩) (pins_cur) Z ?_
   intro xz2 oz2 hz2
   obtain⟨i2,q2,hc2,⟨n2,⟨na2,nb2⟩,rfl⟩,rfl⟩:=hz2
   refine laI Z<|nA<|lmP Z ?_
   refine lX [(0,0)] [] [0] Tryz.func93 (l01Byte_e g code _ _ hc2) (⟨⟨0,rfl,rfl⟩,trivial⟩) (pins_cur) Z ?_
   intro xz3 oz3 hz3
   obtain⟨i3,q3,hc3,⟨n3,⟨na3,nb3⟩,rfl⟩,rfl⟩:=hz3
   refine lT [0,1,4,5,20] [0] ?_
   refine laI Z<|nA<|lmP Z ?_
   refine lX [(0,0)] [] [0] Tryz.func93 (l01Byte_e g code _ _ hc3) (⟨⟨0,rfl,rfl⟩,trivial⟩) (pins_cur) Z ?_
   intro xz4 oz4 hz4
   obtain⟨i4,q4,hc4,⟨n4,⟨na4,nb4⟩,rfl⟩,rfl⟩:=hz4
   refine laI Z<|nA<|lmP Z ?_
   refine lX [(0,0)] [] [0] Tryz.func93 (l01Byte_e g code _ _ hc4) (⟨⟨0,rfl,rfl⟩,trivial⟩) (pins_cur) Z ?_
   intro xz5 oz5 hz5
   obtain⟨i5,q5,hc5,⟨n5,⟨na5,nb5⟩,rfl⟩,rfl⟩:=hz5
   refine laI Z<|nA<|lmI Z<|lgI Z<|lmI Z<|lgI Z<|lgI Z<|lmI Z<|lgI Z<|lgI Z<|lmI Z<|lgI Z<|lmI Z ?_
   refine lhI rfl ⟨rfl,by have h:=h1;simp only[decide_eq_false_iff_not]at h;omega⟩<|laI Z<|nG<|aR ?_
   have hm1:1≤m:=by have h:=h1;simp only[decide_eq_false_iff_not]at h;omega
   obtain⟨z1,z2⟩:=tmod_bd (n:=(n2*16777216+n3*65536+n4*256+n5)) (m:=m) (by omega) hm1
   refine end_xret (int ((n2*16777216+n3*65536+n4*256+n5).tmod m)) [(0,curO g code i5 q5)] ?_ rfl ⟨rfl,trivial⟩
   exact⟨i5,q5,hc5,⟨_,⟨z1,.inl z2⟩,rfl⟩,rfl⟩
end Go.Proofs.YtogkbcmfoalpiaaGreat

