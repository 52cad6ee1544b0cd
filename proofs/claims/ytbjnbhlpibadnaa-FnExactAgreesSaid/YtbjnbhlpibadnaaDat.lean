/- The plain data types, and how values read as such data. No program in sight. -/
import Derived.Test.YtbjnbhlpibadnaaSup
namespace Go.Proofs.Ytbjnbhlpibadnaa
open Go.RowKit

def encInt (x : Int) : List Value := [.int .i64 x]
def repInt (_ : World) (_ _ : Nat) (cs : List Value) (x : Int) : Prop := cs = encInt x ∧ i64 x
theorem repInt_stable : Stable repInt := fun _ _ _ _ _ _ _ _ _ _ _ h => h
theorem Int.atCell {w : World} {b off lo hi : Nat} {xs : List Int} (h : Elems 1 repInt w lo hi b off xs) (i : Nat) (hi' : i < xs.length) : w.cell? ⟨b, off + i, none⟩ = some (.int .i64 xs[i]) ∧ i64 xs[i] := by
  obtain ⟨cs, ⟨rfl, hw⟩, hc⟩ := h i hi'
  have := hc 0 _ rfl
  simp only [Nat.mul_one, Nat.add_zero] at this
  exact ⟨this, hw⟩

structure Acc where
  kind : Int
  ch : Int

def wfAcc (x : Acc) : Prop := i64 (x.kind) ∧ i64 (x.ch)
def encAcc (x : Acc) : List Value := [.int .i64 x.kind, .int .i64 x.ch]
def repAcc (_ : World) (_ _ : Nat) (cs : List Value) (x : Acc) : Prop := cs = encAcc x ∧ wfAcc x
theorem repAcc_stable : Stable repAcc := fun _ _ _ _ _ _ _ _ _ _ _ h => h
theorem Acc.atCell {w : World} {b off lo hi : Nat} {xs : List Acc} (h : Elems 2 repAcc w lo hi b off xs) (i : Nat) (hi' : i < xs.length) :
    w.cell? ⟨b, off + i * 2, none⟩ = some (.int .i64 xs[i].kind) ∧ w.cell? ⟨b, off + i * 2 + 1, none⟩ = some (.int .i64 xs[i].ch) ∧ wfAcc xs[i] := by
  obtain ⟨cs, ⟨rfl, hw⟩, hc⟩ := h i hi'
  exact ⟨hc 0 _ rfl, hc 1 _ rfl, hw⟩

structure Line where
  acc : Acc
  amt : Int

def wfLine (x : Line) : Prop := i64 (x.acc.kind) ∧ i64 (x.acc.ch) ∧ i64 (x.amt)
def encLine (x : Line) : List Value := [.int .i64 x.acc.kind, .int .i64 x.acc.ch, .int .i64 x.amt]
def repLine (_ : World) (_ _ : Nat) (cs : List Value) (x : Line) : Prop := cs = encLine x ∧ wfLine x
theorem repLine_stable : Stable repLine := fun _ _ _ _ _ _ _ _ _ _ _ h => h
theorem Line.atCell {w : World} {b off lo hi : Nat} {xs : List Line} (h : Elems 3 repLine w lo hi b off xs) (i : Nat) (hi' : i < xs.length) :
    w.cell? ⟨b, off + i * 3, none⟩ = some (.int .i64 xs[i].acc.kind) ∧ w.cell? ⟨b, off + i * 3 + 1, none⟩ = some (.int .i64 xs[i].acc.ch) ∧ w.cell? ⟨b, off + i * 3 + 2, none⟩ = some (.int .i64 xs[i].amt) ∧ wfLine xs[i] := by
  obtain ⟨cs, ⟨rfl, hw⟩, hc⟩ := h i hi'
  exact ⟨hc 0 _ rfl, hc 1 _ rfl, hc 2 _ rfl, hw⟩

structure Ledger where
  last : Int
  lines : List Line

def wfLedger (x : Ledger) : Prop := i64 (x.last)
def repLedger (w : World) (lo hi : Nat) (cs : List Value) (x : Ledger) : Prop := ∃ v0 : Value, cs = [.int .i64 x.last, v0] ∧ SlR 3 repLine w lo hi v0 x.lines ∧ wfLedger x
theorem repLedger_stable : Stable repLedger := fun _ _ _ _ _ _ _ _ hs hl hh ⟨v0, e, h0, hw⟩ => ⟨v0, e, h0.stable repLine_stable hs hl hh, hw⟩

structure Chan where
  id : Int
  size : Int
  loc : Int
  remote : Int
  base : Int
  ppm : Int
  score : Int

def wfChan (x : Chan) : Prop := i64 (x.id) ∧ i64 (x.size) ∧ i64 (x.loc) ∧ i64 (x.remote) ∧ i64 (x.base) ∧ i64 (x.ppm) ∧ i64 (x.score)
def encChan (x : Chan) : List Value := [.int .i64 x.id, .int .i64 x.size, .int .i64 x.loc, .int .i64 x.remote, .int .i64 x.base, .int .i64 x.ppm, .int .i64 x.score]
def repChan (_ : World) (_ _ : Nat) (cs : List Value) (x : Chan) : Prop := cs = encChan x ∧ wfChan x
theorem repChan_stable : Stable repChan := fun _ _ _ _ _ _ _ _ _ _ _ h => h
theorem Chan.atCell {w : World} {b off lo hi : Nat} {xs : List Chan} (h : Elems 7 repChan w lo hi b off xs) (i : Nat) (hi' : i < xs.length) :
    w.cell? ⟨b, off + i * 7, none⟩ = some (.int .i64 xs[i].id) ∧ w.cell? ⟨b, off + i * 7 + 1, none⟩ = some (.int .i64 xs[i].size) ∧ w.cell? ⟨b, off + i * 7 + 2, none⟩ = some (.int .i64 xs[i].loc) ∧ w.cell? ⟨b, off + i * 7 + 3, none⟩ = some (.int .i64 xs[i].remote) ∧ w.cell? ⟨b, off + i * 7 + 4, none⟩ = some (.int .i64 xs[i].base) ∧ w.cell? ⟨b, off + i * 7 + 5, none⟩ = some (.int .i64 xs[i].ppm) ∧ w.cell? ⟨b, off + i * 7 + 6, none⟩ = some (.int .i64 xs[i].score) ∧ wfChan xs[i] := by
  obtain ⟨cs, ⟨rfl, hw⟩, hc⟩ := h i hi'
  exact ⟨hc 0 _ rfl, hc 1 _ rfl, hc 2 _ rfl, hc 3 _ rfl, hc 4 _ rfl, hc 5 _ rfl, hc 6 _ rfl, hw⟩

structure Htlc where
  key : Int
  inn : Int
  out : Int
  amtIn : Int
  amtOut : Int
  kept : Bool
  age : Int

def wfHtlc (x : Htlc) : Prop := i64 (x.key) ∧ i64 (x.inn) ∧ i64 (x.out) ∧ i64 (x.amtIn) ∧ i64 (x.amtOut) ∧ i64 (x.age)
def encHtlc (x : Htlc) : List Value := [.int .i64 x.key, .int .i64 x.inn, .int .i64 x.out, .int .i64 x.amtIn, .int .i64 x.amtOut, .bool x.kept, .int .i64 x.age]
def repHtlc (_ : World) (_ _ : Nat) (cs : List Value) (x : Htlc) : Prop := cs = encHtlc x ∧ wfHtlc x
theorem repHtlc_stable : Stable repHtlc := fun _ _ _ _ _ _ _ _ _ _ _ h => h
theorem Htlc.atCell {w : World} {b off lo hi : Nat} {xs : List Htlc} (h : Elems 7 repHtlc w lo hi b off xs) (i : Nat) (hi' : i < xs.length) :
    w.cell? ⟨b, off + i * 7, none⟩ = some (.int .i64 xs[i].key) ∧ w.cell? ⟨b, off + i * 7 + 1, none⟩ = some (.int .i64 xs[i].inn) ∧ w.cell? ⟨b, off + i * 7 + 2, none⟩ = some (.int .i64 xs[i].out) ∧ w.cell? ⟨b, off + i * 7 + 3, none⟩ = some (.int .i64 xs[i].amtIn) ∧ w.cell? ⟨b, off + i * 7 + 4, none⟩ = some (.int .i64 xs[i].amtOut) ∧ w.cell? ⟨b, off + i * 7 + 5, none⟩ = some (.bool xs[i].kept) ∧ w.cell? ⟨b, off + i * 7 + 6, none⟩ = some (.int .i64 xs[i].age) ∧ wfHtlc xs[i] := by
  obtain ⟨cs, ⟨rfl, hw⟩, hc⟩ := h i hi'
  exact ⟨hc 0 _ rfl, hc 1 _ rfl, hc 2 _ rfl, hc 3 _ rfl, hc 4 _ rfl, hc 5 _ rfl, hc 6 _ rfl, hw⟩

structure Circle where
  key : Int
  frm : Int
  to : Int
  amt : Int
  fee : Int

def wfCircle (x : Circle) : Prop := i64 (x.key) ∧ i64 (x.frm) ∧ i64 (x.to) ∧ i64 (x.amt) ∧ i64 (x.fee)
def encCircle (x : Circle) : List Value := [.int .i64 x.key, .int .i64 x.frm, .int .i64 x.to, .int .i64 x.amt, .int .i64 x.fee]
def repCircle (_ : World) (_ _ : Nat) (cs : List Value) (x : Circle) : Prop := cs = encCircle x ∧ wfCircle x
theorem repCircle_stable : Stable repCircle := fun _ _ _ _ _ _ _ _ _ _ _ h => h
theorem Circle.atCell {w : World} {b off lo hi : Nat} {xs : List Circle} (h : Elems 5 repCircle w lo hi b off xs) (i : Nat) (hi' : i < xs.length) :
    w.cell? ⟨b, off + i * 5, none⟩ = some (.int .i64 xs[i].key) ∧ w.cell? ⟨b, off + i * 5 + 1, none⟩ = some (.int .i64 xs[i].frm) ∧ w.cell? ⟨b, off + i * 5 + 2, none⟩ = some (.int .i64 xs[i].to) ∧ w.cell? ⟨b, off + i * 5 + 3, none⟩ = some (.int .i64 xs[i].amt) ∧ w.cell? ⟨b, off + i * 5 + 4, none⟩ = some (.int .i64 xs[i].fee) ∧ wfCircle xs[i] := by
  obtain ⟨cs, ⟨rfl, hw⟩, hc⟩ := h i hi'
  exact ⟨hc 0 _ rfl, hc 1 _ rfl, hc 2 _ rfl, hc 3 _ rfl, hc 4 _ rfl, hw⟩

structure Book where
  tick : Int
  next : Int
  wallet : Int
  chans : List Chan
  htlcs : List Htlc
  circles : List Circle

def wfBook (x : Book) : Prop := i64 (x.tick) ∧ i64 (x.next) ∧ i64 (x.wallet)
def repBook (w : World) (lo hi : Nat) (cs : List Value) (x : Book) : Prop := ∃ v0 v1 v2 : Value, cs = [.int .i64 x.tick, .int .i64 x.next, .int .i64 x.wallet, v0, v1, v2] ∧ SlR 7 repChan w lo hi v0 x.chans ∧ SlR 7 repHtlc w lo hi v1 x.htlcs ∧ SlR 5 repCircle w lo hi v2 x.circles ∧ wfBook x
theorem repBook_stable : Stable repBook := fun _ _ _ _ _ _ _ _ hs hl hh ⟨v0, v1, v2, e, h0, h1, h2, hw⟩ => ⟨v0, v1, v2, e, h0.stable repChan_stable hs hl hh, h1.stable repHtlc_stable hs hl hh, h2.stable repCircle_stable hs hl hh, hw⟩

structure Edge where
  frm : Int
  to : Int
  cap : Int
  cost : Int

def wfEdge (x : Edge) : Prop := i64 (x.frm) ∧ i64 (x.to) ∧ i64 (x.cap) ∧ i64 (x.cost)
def encEdge (x : Edge) : List Value := [.int .i64 x.frm, .int .i64 x.to, .int .i64 x.cap, .int .i64 x.cost]
def repEdge (_ : World) (_ _ : Nat) (cs : List Value) (x : Edge) : Prop := cs = encEdge x ∧ wfEdge x
theorem repEdge_stable : Stable repEdge := fun _ _ _ _ _ _ _ _ _ _ _ h => h
theorem Edge.atCell {w : World} {b off lo hi : Nat} {xs : List Edge} (h : Elems 4 repEdge w lo hi b off xs) (i : Nat) (hi' : i < xs.length) :
    w.cell? ⟨b, off + i * 4, none⟩ = some (.int .i64 xs[i].frm) ∧ w.cell? ⟨b, off + i * 4 + 1, none⟩ = some (.int .i64 xs[i].to) ∧ w.cell? ⟨b, off + i * 4 + 2, none⟩ = some (.int .i64 xs[i].cap) ∧ w.cell? ⟨b, off + i * 4 + 3, none⟩ = some (.int .i64 xs[i].cost) ∧ wfEdge xs[i] := by
  obtain ⟨cs, ⟨rfl, hw⟩, hc⟩ := h i hi'
  exact ⟨hc 0 _ rfl, hc 1 _ rfl, hc 2 _ rfl, hc 3 _ rfl, hw⟩

structure Graph where
  n : Int
  edges : List Edge

def wfGraph (x : Graph) : Prop := i64 (x.n)
def repGraph (w : World) (lo hi : Nat) (cs : List Value) (x : Graph) : Prop := ∃ v0 : Value, cs = [.int .i64 x.n, v0] ∧ SlR 4 repEdge w lo hi v0 x.edges ∧ wfGraph x
theorem repGraph_stable : Stable repGraph := fun _ _ _ _ _ _ _ _ hs hl hh ⟨v0, e, h0, hw⟩ => ⟨v0, e, h0.stable repEdge_stable hs hl hh, hw⟩

structure Price where
  frm : Int
  to : Int
  ppm : Int

def wfPrice (x : Price) : Prop := i64 (x.frm) ∧ i64 (x.to) ∧ i64 (x.ppm)
def encPrice (x : Price) : List Value := [.int .i64 x.frm, .int .i64 x.to, .int .i64 x.ppm]
def repPrice (_ : World) (_ _ : Nat) (cs : List Value) (x : Price) : Prop := cs = encPrice x ∧ wfPrice x
theorem repPrice_stable : Stable repPrice := fun _ _ _ _ _ _ _ _ _ _ _ h => h
theorem Price.atCell {w : World} {b off lo hi : Nat} {xs : List Price} (h : Elems 3 repPrice w lo hi b off xs) (i : Nat) (hi' : i < xs.length) :
    w.cell? ⟨b, off + i * 3, none⟩ = some (.int .i64 xs[i].frm) ∧ w.cell? ⟨b, off + i * 3 + 1, none⟩ = some (.int .i64 xs[i].to) ∧ w.cell? ⟨b, off + i * 3 + 2, none⟩ = some (.int .i64 xs[i].ppm) ∧ wfPrice xs[i] := by
  obtain ⟨cs, ⟨rfl, hw⟩, hc⟩ := h i hi'
  exact ⟨hc 0 _ rfl, hc 1 _ rfl, hc 2 _ rfl, hw⟩

structure Move where
  frm : Int
  to : Int
  amt : Int
  ppm : Int

def wfMove (x : Move) : Prop := i64 (x.frm) ∧ i64 (x.to) ∧ i64 (x.amt) ∧ i64 (x.ppm)
def encMove (x : Move) : List Value := [.int .i64 x.frm, .int .i64 x.to, .int .i64 x.amt, .int .i64 x.ppm]
def repMove (_ : World) (_ _ : Nat) (cs : List Value) (x : Move) : Prop := cs = encMove x ∧ wfMove x
theorem repMove_stable : Stable repMove := fun _ _ _ _ _ _ _ _ _ _ _ h => h
theorem Move.atCell {w : World} {b off lo hi : Nat} {xs : List Move} (h : Elems 4 repMove w lo hi b off xs) (i : Nat) (hi' : i < xs.length) :
    w.cell? ⟨b, off + i * 4, none⟩ = some (.int .i64 xs[i].frm) ∧ w.cell? ⟨b, off + i * 4 + 1, none⟩ = some (.int .i64 xs[i].to) ∧ w.cell? ⟨b, off + i * 4 + 2, none⟩ = some (.int .i64 xs[i].amt) ∧ w.cell? ⟨b, off + i * 4 + 3, none⟩ = some (.int .i64 xs[i].ppm) ∧ wfMove xs[i] := by
  obtain ⟨cs, ⟨rfl, hw⟩, hc⟩ := h i hi'
  exact ⟨hc 0 _ rfl, hc 1 _ rfl, hc 2 _ rfl, hc 3 _ rfl, hw⟩

end Go.Proofs.Ytbjnbhlpibadnaa
