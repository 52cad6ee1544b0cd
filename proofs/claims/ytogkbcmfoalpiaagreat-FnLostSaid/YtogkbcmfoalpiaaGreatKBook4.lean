/- A book: what is under way is valid, of the program. -/
import Derived.Test.YtogkbcmfoalpiaaGreatKBook3
namespace Go.Proofs.YtogkbcmfoalpiaaGreat
open Go.RowKit
set_option maxHeartbeats 16000000
set_option maxRecDepth 100000
set_option linter.unusedSimpArgs false
set_option linter.unusedVariables false
def hOk(l:List Chan)(h:Htlc):Bool:=amtOk h.amtIn&&decide (1≤h.amtOut)&&decide (h.amtOut≤h.amtIn)&&amtOk h.age&&two l h.inn h.out
def cOk(l:List Chan)(c:Circle):Bool:=amtOk c.amt&&decide (1≤c.amt)&&amtOk c.fee&&two l c.frm c.to
def keysOf(x:Book):List Int:=x.htlcs.map (·.key)++x.circles.map (·.key)
def keyAt(ks:List Int)(i:Nat):Bool:=keyOk (ks.getD i 0)&&!hasI (ks.take i) (ks.getD i 0)
def keysOk(ks:List Int):Bool:=(List.range ks.length).all (keyAt ks)
def partsOk(x:Book):Bool:=decide (x.htlcs.length≤60)&&decide (x.circles.length≤20)&&x.htlcs.all (hOk x.chans)&&x.circles.all (cOk x.chans)&&keysOk (keysOf x)
theorem hOk_iff{l:List Chan}{h:Htlc}:hOk l h=true↔amtOk h.amtIn=true∧1≤h.amtOut∧h.amtOut≤h.amtIn∧amtOk h.age=true∧two l h.inn h.out=true:=by
 simp[hOk,and_assoc]
theorem cOk_iff{l:List Chan}{c:Circle}:cOk l c=true↔amtOk c.amt=true∧1≤c.amt∧amtOk c.fee=true∧two l c.frm c.to=true:=by
 simp[cOk,and_assoc]
theorem all_take_succ{α:Type}{p:α→Bool}{l:List α}{k:Nat}(hk:k<l.length):(l.take (k+1)).all p=((l.take k).all p&&p l[k]):=by
 rw[List.take_succ_eq_append_getElem hk,List.all_append];simp
theorem all_false_of{α:Type}{p:α→Bool}{l:List α}{k:Nat}(hk:k<l.length)(h:p l[k]=false):l.all p=false:=by
 rw[List.all_eq_false];exact⟨l[k],List.getElem_mem hk,by simp[h]⟩
theorem keysOk_no{ks:List Int}{k:Nat}(hk:k<ks.length)(h:keyAt ks k=false):keysOk ks=false:=by
 unfold keysOk;rw[List.all_eq_false];exact⟨k,by simpa using hk,by simp[h]⟩
theorem keysOk_yes{ks:List Int}(h:∀j,j<ks.length→keyAt ks j=true):keysOk ks=true:=by
 unfold keysOk;rw[List.all_eq_true];intro j hj;exact h j (by simpa using hj)
theorem SlR.take{α:Type}{sz:Nat}{rep:World→Nat→Nat→List Value→α→Prop}{w:World}{lo hi c:Nat}{a:Option Addr}{xs:List α}(h:SlR sz rep w lo hi (.slice a xs.length c) xs)(k:Nat)(hk:k≤xs.length) :
 SlR sz rep w lo hi (.slice a (xs.take k).length c) (xs.take k):=by
 obtain⟨a_,c_,heq,h1,h2,h3⟩:=h
 injection heq with q1 q2 q3
 subst q1 q3
 have hl:(xs.take k).length=k:=by rw[List.length_take];omega
 refine⟨_,_,rfl,by omega,h2,?_⟩
 rcases h3 with h3|⟨b,off,ha,hb1,hb2,he⟩
 ·exact .inl (by rw[h3];simp)
 ·exact .inr ⟨b,off,ha,hb1,hb2,fun i hi'=>by
   obtain⟨cs,hr,hc⟩:=he i (by omega)
   exact⟨cs,by simpa using hr,hc⟩⟩
theorem infoInt:(Tryz.prog.info? 3).map (fun i=>(i.zero,i.size,i.bytes))=some (some (.int .i64 0),1,8):=by kernel_rfl
theorem SlR.wfAll{α:Type}{sz:Nat}{rep:World→Nat→Nat→List Value→α→Prop}{w:World}{lo hi:Nat}{v:Value}{xs:List α}{P:α→Prop}(h:SlR sz rep w lo hi v xs)(hp:∀cs x,rep w lo hi cs x→P x):∀x∈xs,P x:=fun x hx=>by
 obtain⟨i,hi',rfl⟩:=List.getElem_of_mem hx
 obtain⟨a_,c_,heq,_,_,h3⟩:=h
 rcases h3 with h3|⟨b,off,_,_,_,he⟩
 ·subst h3;exact absurd hi' (by simp)
 ·obtain⟨cs,hr,_⟩:=he i hi'
  exact hp _ _ hr
theorem keys_i64{x:Book}{w:World}{v1 v2:Value}{lo hi lo' hi':Nat}(h1:SlR 7 repHtlc w lo hi v1 x.htlcs)(h2:SlR 5 repCircle w lo' hi' v2 x.circles):∀y∈keysOf x,i64 y:=fun y hy=>by
 unfold keysOf at hy
 rcases List.mem_append.1 hy with hy|hy
 ·obtain⟨e,he,rfl⟩:=List.mem_map.1 hy
  exact h1.wfAll (P:=fun e=>i64 e.key) (fun _ _ hr=>hr.2.1) e he
 ·obtain⟨e,he,rfl⟩:=List.mem_map.1 hy
  exact h2.wfAll (P:=fun e=>i64 e.key) (fun _ _ hr=>hr.2.1) e he
theorem hasTake_c(xs:List Int)(a:Option Addr)(c k:Nat)(n:Int)(lo hi:Nat)(w:World)(h0:SlR 1 repInt w lo hi (.slice a xs.length c) xs)(hk:k≤xs.length)(hn:xs.length≤1048576) :
 Calls Tryz.prog 119 #[.slice a k c,.int .i64 n] w fun e w'=>e=.returned (.bool (hasI (xs.take k) n))∧w=w':=by
 have hl:(xs.take k).length=k:=by rw[List.length_take];omega
 have:=impl_hasInt_c (xs.take k) a c n lo hi w (h0.take k hk) (by omega)
 rw[hl]at this
 exact this
theorem length_encInt(x:Int):(encInt x).length=1:=rfl
theorem own_snoc{w:World}{base:Nat}{e:TypeId}{v:Value}{l:List Int}{y:Int}(h:w.ownsRow base e 1 v (l.length+1) (l.flatMap encInt++[.int .i64 y])) :
 w.ownsRow base e 1 v (l++[y]).length ((l++[y]).flatMap encInt):=by
 rw[List.flatMap_append,List.length_append];exact h
theorem one_int(y:Int):∀u∈[Value.int .i64 y],u.oneCell'=true:=by
 intro u hu;rw[List.mem_singleton]at hu;subst hu;rfl
theorem impl_partsOk_c(x:Book)(a0:Option Addr)(c0:Nat)(a1:Option Addr)(c1:Nat)(a2:Option Addr)(c2:Nat)(w:World)(h0:SlR 7 repChan w 0 w.heap.size (.slice a0 x.chans.length c0) x.chans)(h1:SlR 7 repHtlc w 0 w.heap.size (.slice a1 x.htlcs.length c1) x.htlcs)(h2:SlR 5 repCircle w 0 w.heap.size (.slice a2 x.circles.length c2) x.circles)(hn:x.chans.length≤1048576) :
 Calls Tryz.prog 64 #[.agg #[.int .i64 x.tick,.int .i64 x.next,.int .i64 x.wallet,.slice a0 x.chans.length c0,.slice a1 x.htlcs.length c1,.slice a2 x.circles.length c2]] w fun e w'=>e=.returned (.bool (partsOk x))∧Grow w w':=by
 obtain⟨i0,hi0,hz0,hz1,hz2⟩:=info_parts infoInt
 have hg0:Grow w (w.alloc (.cells #[.int .i64 x.tick,.int .i64 x.next,.int .i64 x.wallet,.slice a0 x.chans.length c0,.slice a1 x.htlcs.length c1,.slice a2 x.circles.length c2] 27)):=(Grow.refl _).alloc _ _
 have H0:=Lib.hid h0;have H1:=Lib.hid h1;have H2:=Lib.hid h2
 clear h0 h1 h2
 by_cases nh:x.htlcs.length≤60
 rotate_left
 ·have q:decide ((60:Int)<(x.htlcs.length:Int))=true:=by simp;omega
  have hr:partsOk x=false:=by simp[partsOk,nh]
  have HR:=Lib.hid hr;have HG:=Lib.hid hg0;clear hr nh hg0
  go_enter Tryz.func64,Tryz.ntmps64
  go_wp2
  all_goals
   go_ret
   exact⟨by rw[HR.out];rfl,HG.out⟩
 have q:decide ((60:Int)<(x.htlcs.length:Int))=false:=by simp;omega
 by_cases nc:x.circles.length≤20
 rotate_left
 ·have q:decide ((20:Int)<(x.circles.length:Int))=true:=by simp;omega
  have hr:partsOk x=false:=by simp[partsOk,nc]
  have HR:=Lib.hid hr;have HG:=Lib.hid hg0;clear hr nc hg0
  go_enter Tryz.func64,Tryz.ntmps64
  go_wp2
  all_goals
   go_ret
   exact⟨by rw[HR.out];rfl,HG.out⟩
 have q2:decide ((20:Int)<(x.circles.length:Int))=false:=by simp;omega
 have hmf:∀(fn:Fn) (first cap:Array Value) (w:World),(Instr.makeFunc fn first cap).run Tryz.prog w=.ok (.func fn first cap) w:=fun _ _ _ _=>rfl
 have hb:BookAt (w.alloc (.cells #[.int .i64 x.tick,.int .i64 x.next,.int .i64 x.wallet,.slice a0 x.chans.length c0,.slice a1 x.htlcs.length c1,.slice a2 x.circles.length c2] 27)) w.heap.size x a0 c0 a1 c1 a2 c2:=BookAt.new x a0 c0 a1 c1 a2 c2 w
 have HB:=Lib.hid hb;have HG0:=Lib.hid hg0
 clear hb hg0
 go_enter Tryz.func64,Tryz.ntmps64
 go_wp2
 obtain⟨W,hW⟩:∃W,W=w.alloc (.cells #[.int .i64 x.tick,.int .i64 x.next,.int .i64 x.wallet,.slice a0 x.chans.length c0,.slice a1 x.htlcs.length c1,.slice a2 x.circles.length c2] 27):=⟨_,rfl⟩
 rw[←hW]at HB HG0 ⊢
 clear hW
 go_loopg [4,25] x.htlcs.length (fun g v i wr=>∃k:Nat,k+g=x.htlcs.length∧i=.int .i64 k∧(x.htlcs.take k).all (hOk x.chans)=true∧Grow W wr∧wr.ownsRow W.heap.size 3 1 v ((x.htlcs.take k).map (·.key)).length (((x.htlcs.take k).map (·.key)).flatMap encInt))
 case atStart=>exact⟨0,by simp,rfl,by simp,Grow.refl _,World.ownsRow_nil _ _ _ _⟩
 case round=>
  obtain⟨k,hk,rfl,hall,hg,hown⟩:=hrel
  have HALL:=Lib.hid hall;have HOWN:=Lib.hid hown;clear hall hown
  by_cases hlt:k<x.htlcs.length
  ·obtain⟨b,off,rfl,hb1,hb2,hel⟩:=H1.out.elems k hlt
   obtain⟨e0,e1,e2,e3,e4,e5,e6,_⟩:=Htlc.atCell (hel.same repHtlc_stable ((HG0.out.trans hg).same (Nat.le_refl _)) hb1 hb2) k hlt
   have HE:Hid (hOk x.chans x.htlcs[k]=false→partsOk x=false):=fun h=>by
    unfold partsOk;rw[all_false_of hlt h];simp
   have HT:Hid ((x.htlcs.take (k+1)).all (hOk x.chans)=((x.htlcs.take k).all (hOk x.chans)&&hOk x.chans x.htlcs[k])):=all_take_succ hlt
   have HM:Hid ((x.htlcs.take (k+1)).map (·.key)=(x.htlcs.take k).map (·.key)++[x.htlcs[k].key]):=by
    show _=_
    rw[List.take_succ_eq_append_getElem hlt,List.map_append];rfl
   have HL:Hid (((x.htlcs.take k).map (·.key)).length≤60):=by
    show _≤_
    rw[List.length_map,List.length_take];omega
   have HG:=Lib.hid hg;have HK:=Lib.hid hk
   have hwz:W.heap.size≤wr.heap.size:=hg.size
   have hz0':b<wr.heap.size:=by have:=(HG0.out.trans hg).size;omega
   clear hg hk hel
   generalize x.htlcs[k]=e at *
   generalize (x.htlcs.take k).map (·.key)=ks at *
   by_cases hok:hOk x.chans e=true
   ·obtain⟨d1,d2,d3,d4,d5⟩:=hOk_iff.1 hok
    have HOK:=Lib.hid hok;clear hok
    go_wp2_with (first
     |(go_at_call 62;refine(impl_AmtOk_c _ _).mono ?_;rintro e w' ⟨rfl,rfl⟩)
     |(go_at_call 118;refine(apart_c x _ _ _ _ _ _ _ _ w.heap.size _ (HB.out.grow (HG.out.alloc _ _)) (H0.out.grow' repChan_stable ((HG0.out.trans HG.out).alloc _ _).below) hn).mono ?_;rintro e wc ⟨rfl,gc⟩
       have kc:wc.cell? ⟨wr.heap.size,0,none⟩=some (.int .i64 e.key):=cellGrow gc (cell_new 0 rfl)
       have hgc:=(HG.out.alloc _ _).trans gc
       have hoc:=own_grow HOWN.out (((Grow.refl _).alloc _ _).trans gc)
       have HGC:=Lib.hid hgc;have HOC:=Lib.hid hoc;clear hgc hoc gc)
     |(at_builtin
       refine wpList_append_g rfl (.tmp 60) (.tmp 63) 50 rfl W (HGC.out.alloc _ _) 3 i0 _ 1 8 Tryz.underlying50 hi0 hz0 hz1 hz2 rfl (by omega) u4 ks.length (ks.flatMap encInt) rfl (own_grow HOC.out ((Grow.refl _).alloc _ _)) ⟨wc.heap.size,0,none⟩ 1 1 [.int .i64 e.key] rfl rfl (cell_one_new _ _ _) (one_int _) (by have:=HL.out;simp only[maxLen];omega) (by have:=HL.out;omega) ?_
       intro v' w' hown' hg' hgb hat
       have HOWN':=Lib.hid (own_snoc hown');have HG':=Lib.hid hg';clear hown' hg' hgb hat))
    go_roundg (x.htlcs.length-(k+1))
    case measure=>have:=HK.out;omega
    case rel=>exact⟨k+1,by have:=HK.out;omega,by go_num,by rw[HT.out,HALL.out,HOK.out];rfl,HG'.out,by rw[HM.out];exact HOWN'.out⟩
   ·have hr:=HE.out (by simpa using hok)
    have HR:=Lib.hid hr;have HOK:=Lib.hid hok;clear hr hok
    cases d5:two x.chans e.inn e.out
    all_goals
     go_wp2_with (first
      |(go_at_call 62;refine(impl_AmtOk_c _ _).mono ?_;rintro e w' ⟨rfl,rfl⟩)
      |(go_at_call 118;refine(apart_c x _ _ _ _ _ _ _ _ w.heap.size _ (HB.out.grow (HG.out.alloc _ _)) (H0.out.grow' repChan_stable ((HG0.out.trans HG.out).alloc _ _).below) hn).mono ?_;rintro e wc ⟨rfl,gc⟩
        have kc:wc.cell? ⟨wr.heap.size,0,none⟩=some (.int .i64 e.key):=cellGrow gc (cell_new 0 rfl)
        have hgc:=(HG.out.alloc _ _).trans gc
        have hoc:=own_grow HOWN.out (((Grow.refl _).alloc _ _).trans gc)
        have HGC:=Lib.hid hgc;have HOC:=Lib.hid hoc;clear hgc hoc gc)
      |(at_builtin
        refine wpList_append_g rfl (.tmp 60) (.tmp 63) 50 rfl W (HGC.out.alloc _ _) 3 i0 _ 1 8 Tryz.underlying50 hi0 hz0 hz1 hz2 rfl (by omega) u4 ks.length (ks.flatMap encInt) rfl (own_grow HOC.out ((Grow.refl _).alloc _ _)) ⟨wc.heap.size,0,none⟩ 1 1 [.int .i64 e.key] rfl rfl (cell_one_new _ _ _) (one_int _) (by have:=HL.out;simp only[maxLen];omega) (by have:=HL.out;omega) ?_
        intro v' w' hown' hg' hgb hat
        have HOWN':=Lib.hid (own_snoc hown');have HG':=Lib.hid hg';clear hown' hg' hgb hat))
     all_goals first
      |(go_ret
        exact⟨by rw[HR.out];rfl,HG0.out.trans HGC.out⟩)
      |(go_ret
        exact⟨by rw[HR.out];rfl,HG0.out.trans (HG.out.alloc _ _)⟩)
      |(exfalso;exact HOK.out (hOk_iff.2 ⟨by assumption,by omega,by omega,by assumption,by assumption⟩))
  ·have hke:k=x.htlcs.length:=by omega
   have HAH:=HALL.out
   rw[hke,List.take_length]at HAH
   have hown:=HOWN.out
   rw[hke,List.take_length]at hown
   have hl0:(x.htlcs.map (·.key)).length≤60:=by rw[List.length_map];omega
   have HKO:Hid (keysOf x=x.htlcs.map (·.key)++x.circles.map (·.key)):=rfl
   generalize x.htlcs.map (·.key)=ks0 at *
   obtain⟨k0,k1,k2,k3,k4,k5⟩:=HB.out.grow hg
   have HG0:=HG0
   have HGA:=Lib.hid hg;have HOWN0:=Lib.hid hown;have HAH':=Lib.hid HAH
   clear hke hk hg hown HAH HALL HOWN
   go_wp2
   clear k0 k1 k2 k3 k4 k5
   go_loopg [4,69] x.circles.length (fun g v i wr'=>∃k:Nat,k+g=x.circles.length∧i=.int .i64 k∧(x.circles.take k).all (cOk x.chans)=true∧Grow W wr'∧wr'.ownsRow W.heap.size 3 1 v (ks0++(x.circles.take k).map (·.key)).length ((ks0++(x.circles.take k).map (·.key)).flatMap encInt))
   case atStart=>exact⟨0,by simp,rfl,by simp,HGA.out,by simpa using HOWN0.out⟩
   case round=>
    obtain⟨k,hk,rfl,hall,hg,hown⟩:=hrel
    have HALL:=Lib.hid hall;have HOWN:=Lib.hid hown;clear hall hown
    by_cases hlt:k<x.circles.length
    ·obtain⟨b,off,rfl,hb1,hb2,hel⟩:=H2.out.elems k hlt
     obtain⟨e0,e1,e2,e3,e4,_⟩:=Circle.atCell (hel.same repCircle_stable ((HG0.out.trans hg).same (Nat.le_refl _)) hb1 hb2) k hlt
     have HE:Hid (cOk x.chans x.circles[k]=false→partsOk x=false):=fun h=>by
      unfold partsOk;rw[all_false_of hlt h];simp
     have HT:Hid ((x.circles.take (k+1)).all (cOk x.chans)=((x.circles.take k).all (cOk x.chans)&&cOk x.chans x.circles[k])):=all_take_succ hlt
     have HM:Hid (ks0++(x.circles.take (k+1)).map (·.key)=(ks0++(x.circles.take k).map (·.key))++[x.circles[k].key]):=by
      show _=_
      rw[List.take_succ_eq_append_getElem hlt,List.map_append,List.append_assoc];rfl
     have HL:Hid ((ks0++(x.circles.take k).map (·.key)).length≤80):=by
      show _≤_
      rw[List.length_append,List.length_map,List.length_take];omega
     have HG:=Lib.hid hg;have HK:=Lib.hid hk
     have hwz:W.heap.size≤wr.heap.size:=hg.size
     have hz0':b<wr.heap.size:=by have:=(HG0.out.trans hg).size;omega
     clear hg hk hel
     generalize x.circles[k]=e at *
     generalize hks:ks0++(x.circles.take k).map (·.key)=ks at *
     have HKS:=Lib.hid hks;clear hks
     by_cases hok:cOk x.chans e=true
     ·obtain⟨d1,d2,d3,d5⟩:=cOk_iff.1 hok
      have HOK:=Lib.hid hok;clear hok
      go_wp2_with (first
       |(go_at_call 62;refine(impl_AmtOk_c _ _).mono ?_;rintro e w' ⟨rfl,rfl⟩)
       |(go_at_call 118;refine(apart_c x _ _ _ _ _ _ _ _ w.heap.size _ (HB.out.grow (HG.out.alloc _ _)) (H0.out.grow' repChan_stable ((HG0.out.trans HG.out).alloc _ _).below) hn).mono ?_;rintro e wc ⟨rfl,gc⟩
         have kc:wc.cell? ⟨wr.heap.size,0,none⟩=some (.int .i64 e.key):=cellGrow gc (cell_new 0 rfl)
         have hgc:=(HG.out.alloc _ _).trans gc
         have hoc:=own_grow HOWN.out (((Grow.refl _).alloc _ _).trans gc)
         have HGC:=Lib.hid hgc;have HOC:=Lib.hid hoc;clear hgc hoc gc)
       |(at_builtin
         refine wpList_append_g rfl (.tmp 97) (.tmp 100) 50 rfl W (HGC.out.alloc _ _) 3 i0 _ 1 8 Tryz.underlying50 hi0 hz0 hz1 hz2 rfl (by omega) u4 ks.length (ks.flatMap encInt) rfl (own_grow HOC.out ((Grow.refl _).alloc _ _)) ⟨wc.heap.size,0,none⟩ 1 1 [.int .i64 e.key] rfl rfl (cell_one_new _ _ _) (one_int _) (by have:=HL.out;simp only[maxLen];omega) (by have:=HL.out;omega) ?_
         intro v' w' hown' hg' hgb hat
         have HOWN':=Lib.hid (own_snoc hown');have HG':=Lib.hid hg';clear hown' hg' hgb hat))
      go_roundg (x.circles.length-(k+1))
      case measure=>have:=HK.out;omega
      case rel=>exact⟨k+1,by have:=HK.out;omega,by go_num,by rw[HT.out,HALL.out,HOK.out];rfl,HG'.out,by rw[HM.out];exact HOWN'.out⟩
     ·have hr:=HE.out (by simpa using hok)
      have HR:=Lib.hid hr;have HOK:=Lib.hid hok;clear hr hok
      cases d5:two x.chans e.frm e.to
      all_goals
       go_wp2_with (first
        |(go_at_call 62;refine(impl_AmtOk_c _ _).mono ?_;rintro e w' ⟨rfl,rfl⟩)
        |(go_at_call 118;refine(apart_c x _ _ _ _ _ _ _ _ w.heap.size _ (HB.out.grow (HG.out.alloc _ _)) (H0.out.grow' repChan_stable ((HG0.out.trans HG.out).alloc _ _).below) hn).mono ?_;rintro e wc ⟨rfl,gc⟩
          have kc:wc.cell? ⟨wr.heap.size,0,none⟩=some (.int .i64 e.key):=cellGrow gc (cell_new 0 rfl)
          have hgc:=(HG.out.alloc _ _).trans gc
          have hoc:=own_grow HOWN.out (((Grow.refl _).alloc _ _).trans gc)
          have HGC:=Lib.hid hgc;have HOC:=Lib.hid hoc;clear hgc hoc gc)
        |(at_builtin
          refine wpList_append_g rfl (.tmp 97) (.tmp 100) 50 rfl W (HGC.out.alloc _ _) 3 i0 _ 1 8 Tryz.underlying50 hi0 hz0 hz1 hz2 rfl (by omega) u4 ks.length (ks.flatMap encInt) rfl (own_grow HOC.out ((Grow.refl _).alloc _ _)) ⟨wc.heap.size,0,none⟩ 1 1 [.int .i64 e.key] rfl rfl (cell_one_new _ _ _) (one_int _) (by have:=HL.out;simp only[maxLen];omega) (by have:=HL.out;omega) ?_
          intro v' w' hown' hg' hgb hat
          have HOWN':=Lib.hid (own_snoc hown');have HG':=Lib.hid hg';clear hown' hg' hgb hat))
       all_goals first
        |(go_ret
          exact⟨by rw[HR.out];rfl,HG0.out.trans HGC.out⟩)
        |(go_ret
          exact⟨by rw[HR.out];rfl,HG0.out.trans (HG.out.alloc _ _)⟩)
        |(exfalso;exact HOK.out (cOk_iff.2 ⟨by assumption,by omega,by assumption,by assumption⟩))
    ·have hke:k=x.circles.length:=by omega
     have HAC:=HALL.out
     rw[hke,List.take_length]at HAC
     have hown:=HOWN.out
     rw[hke,List.take_length,←HKO.out]at hown
     have hki:=keys_i64 H1.out H2.out
     obtain⟨V,rfl⟩:∃V,V=wr:=⟨_,rfl⟩
     have hsl:SlR 1 repInt V W.heap.size V.heap.size u4 (keysOf x):=SlR.of_own length_encInt hown (fun y hy=>⟨rfl,hki y hy⟩)
     have hlen:(keysOf x).length≤80:=by unfold keysOf;rw[List.length_append,List.length_map,List.length_map];omega
     have HNO:Hid (∀j,j<(keysOf x).length→keyAt (keysOf x) j=false→partsOk x=false):=fun j h1 h2=>by
      unfold partsOk;rw[keysOk_no h1 h2];simp
     have HYES:Hid ((∀j,j<(keysOf x).length→keyAt (keysOf x) j=true)→partsOk x=true):=fun h=>by
      unfold partsOk;rw[keysOk_yes h,HAH'.out,HAC];simp[nh,nc]
     have HG:=Lib.hid (HG0.out.trans hg)
     clear hke hk hg hown HAC HALL HOWN hki HKO HAH' HGA
     generalize keysOf x=K at *
     have hsl':=hsl
     obtain⟨av,cv,rfl,hc1,hc2,_⟩:=hsl'
     have HSL:=Lib.hid hsl;clear hsl
     go_wp2
     go_loopg [105] K.length (fun g i wq=>∃k:Nat,k+g=K.length∧i=.int .i64 k∧(∀j,j<k→keyAt K j=true)∧wq=V)
     case atStart=>exact⟨0,by simp,rfl,fun j h=>absurd h (by omega),rfl⟩
     case round=>
      obtain⟨k,hk,rfl,hall,rfl⟩:=hrel
      have HALL:=Lib.hid hall;clear hall
      by_cases hlt:k<K.length
      ·obtain⟨b,off,rfl,hb1,hb2,hel⟩:=HSL.out.elems k hlt
       obtain⟨e0,_⟩:=Int.atCell hel k hlt
       have HKA:Hid (keyAt K k=(keyOk K[k]&&!hasI (K.take k) K[k])):=by
        show _=_
        unfold keyAt
        rw[List.getD_eq_getElem?_getD,List.getElem?_eq_getElem hlt];rfl
       have HK:=Lib.hid hk
       clear hk hel
       generalize K[k]=y at *
       have hkc:(k:Int)≤(cv:Int):=by omega
       cases q1:keyOk y<;>cases q2:hasI (K.take k) y
       all_goals
        have Q1:=Lib.hid q1;have Q2:=Lib.hid q2
        go_wp2_with (first
         |(go_at_call 94;refine(isKey_c _ _).mono ?_;rintro e w' ⟨rfl,rfl⟩)
         |(go_at_call 119;refine(hasTake_c K _ cv k y _ _ _ HSL.out (by omega) (by omega)).mono ?_;rintro e w' ⟨rfl,rfl⟩))
        first
         |(go_ret
           exact⟨by rw[HNO.out k hlt (by rw[HKA.out,Q1.out,Q2.out];rfl)];rfl,HG.out⟩)
         |(go_roundg (K.length-(k+1))
           case measure=>have:=HK.out;omega
           case rel=>exact⟨k+1,by have:=HK.out;omega,by go_num,fun j hj=>by
            by_cases e:j=k
            ·subst e;rw[HKA.out,Q1.out,Q2.out];rfl
            ·exact HALL.out j (by omega),rfl⟩)
      ·have hr:partsOk x=true:=HYES.out (fun j hj=>HALL.out j (by omega))
       have HR:=Lib.hid hr;clear hr
       go_wp2
       go_ret
       exact⟨by rw[HR.out];rfl,HG.out⟩
end Go.Proofs.YtogkbcmfoalpiaaGreat
