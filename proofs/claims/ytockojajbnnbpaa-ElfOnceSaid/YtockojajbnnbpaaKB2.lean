/- Joined texts (S0, S1, S2, S3, S4, S5, S7, S8, P1, P2, S14, S15, S16, S17, S6, S9, S10, S12, S13, S18): what the law needs of them. Lean checks them. -/
import Derived.Test.YtockojajbnnbpaaKB0
import Derived.Test.YtockojajbnnbpaaKB1
import Derived.Deep.MidRow
import Derived.Deep.RegionLaw
import Derived.Lib.AppendStr
import Derived.Lib.EndianBits
import Derived.StillTailTactics
import Derived.Lib.SlBytesConst
namespace Go.Proofs.Ytockojajbnnbpaa.E
open Go.RowKit Go.Proofs.Ytockojajbnnbpaa.Q Go.Proofs.YtockojajbnnbpaaW.PrintWords
set_option linter.unusedVariables false
set_option linter.unusedSimpArgs false
structure Ob where
  secs : List S40
  syms : List S94
  rels : List S59
def AllBytes (l : List Int) : Prop := ∀ x ∈ l, 0 ≤ x ∧ x ≤ 255
def le4 (n : Int) : List Int := [n % 256, n / 256 % 256, n / 65536 % 256, n / 16777216 % 256]
def le2 (n : Int) : List Int := [n % 256, n / 256 % 256]
def numOf : List Int → Int
  | [] => 0
  | c :: t => c + 256 * numOf t
def NameP (s : ByteArray) : Prop := (∀ c ∈ bytesOf s, 33 ≤ c ∧ c ≤ 126) ∧ s.size ≤ 64
def PowP (n : Int) : Prop := n = 1 ∨ n = 2 ∨ n = 4 ∨ n = 8 ∨ n = 16 ∨ n = 32 ∨ n = 64 ∨ n = 128 ∨ n = 256
def SecP (s : S40) : Prop := NameP s.f0 ∧ s.f2 ≤ 7 ∧ PowP s.f3 ∧ (s.f1 = 1 ∧ (s.f5.length : Int) = s.f4 ∨ s.f1 = 8 ∧ s.f5 = [])
def SymP (n : Nat) (s : S94) : Prop := NameP s.f0 ∧ s.f3 ≤ 2 ∧ s.f4 ≤ 3 ∧ -3 ≤ s.f6 ∧ s.f6 < n
def sumS (l : List S40) : Int := l.foldl (fun a s => (a + s.f4) % 18446744073709551616) 0
def LimP (o : Ob) : Prop := o.secs.length ≤ 64 ∧ o.syms.length ≤ 512 ∧ o.rels.length ≤ 1024 ∧ sumS o.secs ≤ 32768
def SymAt (n : Nat) (l : List S94) (i : Nat) : Prop := ∀ x, l[i]? = some x → SymP n x ∧ ∀ y, 0 < i → l[i - 1]? = some y → x.f3 = 0 → y.f3 = 0
def RelAt (o : Ob) (i : Nat) : Prop := ∀ x, o.rels[i]? = some x → 0 ≤ x.f0 ∧ x.f0 < o.secs.length ∧ -1 ≤ x.f3 ∧ x.f3 < o.syms.length ∧ (∀ y, 0 < i → o.rels[i - 1]? = some y → y.f0 ≤ x.f0) ∧ (rd_T40 o.secs x.f0).f1 = 1 ∧ x.f1 < (rd_T40 o.secs x.f0).f4
def MayP (o : Ob) : Prop := LimP o ∧ (∀ s ∈ o.secs, SecP s) ∧ (∀ i, i < o.syms.length → SymAt o.secs.length o.syms i) ∧ (∀ i, i < o.rels.length → RelAt o i)
def pad4 (l : List Int) : List Int := l ++ List.replicate ((4 - l.length % 4) % 4) 0
structure Wst where
  b : List Int
  rows : List S47
def partS (s : Wst) (r : S47) (x : List Int) : Wst :=
  ⟨pad4 (s.b ++ x), s.rows ++ [{ r with f4 := (s.b.length : Int) % 4294967296, f5 := if r.f1 = 8 then r.f5 else (x.length : Int) % 4294967296 }]⟩
def addS (t : List Int) (s : ByteArray) : Int × List Int := if s.size = 0 then (0, t) else ((t.length : Int) % 4294967296, t ++ bytesOf s ++ [0])
def secStep (s : Wst × List Int) (x : S40) : Wst × List Int := (partS s.1 ⟨(addS s.2 x.f0).1, x.f1, x.f2, 0, 0, x.f4, 0, 0, x.f3, 0⟩ x.f5, (addS s.2 x.f0).2)
def inS (n : Int) : Int := if n = -1 then 0 else if n = -2 then 65521 else if n = -3 then 65522 else n + 1
structure Yst where
  b : List Int
  own : List Int
  loc : Int
def infoS (x : S94) : Int := 16 * x.f3 + x.f4 + (if x.f5 = true then 512 else 0) + 65536 * inS x.f6
def symStep (s : Yst) (x : S94) : Yst := ⟨s.b ++ (le4 (addS s.own x.f0).1 ++ le4 x.f1 ++ le4 x.f2 ++ le4 (infoS x)), (addS s.own x.f0).2, if x.f3 = 0 then s.loc + 1 else s.loc⟩
def relW (r : S59) : List Int := le4 r.f1 ++ le4 (256 * (r.f3 + 1) + r.f2) ++ le4 (r.f4 % 4294967296)
def relB (l : List S59) (i : Int) : List Int := l.flatMap fun r => if r.f0 = i then relW r else []
def relStep (l : List S59) (at_ : Int) (s : Wst) (i : Nat) : Wst := if relB l i = [] then s else partS s ⟨0, 4, 0, 0, 0, 0, at_, (i : Int) + 1, 4, 12⟩ (relB l i)
def rowWords (r : S47) : List Int := le4 r.f0 ++ le4 r.f1 ++ le4 r.f2 ++ le4 r.f3 ++ le4 r.f4 ++ le4 r.f5 ++ le4 r.f6 ++ le4 r.f7 ++ le4 r.f8 ++ le4 r.f9
def magic : List Int := [127, 69, 76, 70, 1, 1, 1, 0, 0, 0, 0, 0, 0, 0, 0, 0, 1, 0, 243, 0, 1, 0, 0, 0, 0, 0, 0, 0, 0, 0, 0, 0]
def sizes : List Int := [0, 0, 0, 0, 52, 0, 0, 0, 0, 0, 40, 0]
def headS (table n : Int) : List Int := magic ++ le4 table ++ sizes ++ le2 n ++ le2 (n - 1)
def st1 (o : Ob) : Wst × List Int := o.secs.foldl secStep (⟨List.replicate 52 0, [z47]⟩, [0])
def yst (o : Ob) : Yst := o.syms.foldl symStep ⟨List.replicate 16 0, [0], 1⟩
def atS (o : Ob) : Int := (st1 o).1.rows.length
def st2 (o : Ob) : Wst := partS (st1 o).1 ⟨0, 2, 0, 0, 0, 0, atS o + 1, (yst o).loc, 4, 16⟩ (yst o).b
def st3 (o : Ob) : Wst := partS (st2 o) ⟨0, 3, 0, 0, 0, 0, 0, 0, 1, 0⟩ (yst o).own
def st4 (o : Ob) : Wst := (List.range o.secs.length).foldl (relStep o.rels (atS o)) (st3 o)
def st5 (o : Ob) : Wst := partS (st4 o) ⟨0, 3, 0, 0, 0, 0, 0, 0, 1, 0⟩ (st1 o).2
def putS (o : Ob) : List Int := headS (st5 o).b.length (st5 o).rows.length ++ (st5 o).b.drop 52 ++ (st5 o).rows.flatMap rowWords
def gw (b : List Int) (at_ n : Nat) : Int := numOf ((b.drop at_).take n)
def rowAt (b : List Int) (k : Nat) : S47 := ⟨gw b k 4, gw b (k + 4) 4, gw b (k + 8) 4, gw b (k + 12) 4, gw b (k + 16) 4, gw b (k + 20) 4, gw b (k + 24) 4, gw b (k + 28) 4, gw b (k + 32) 4, gw b (k + 36) 4⟩
def rowsOf (b : List Int) (t n : Nat) : List S47 := (List.range n).map fun i => rowAt b (t + 40 * i)
def RowIn (n : Nat) (x : S47) : Prop := x.f1 = 0 ∨ x.f1 = 8 ∨ x.f4 + x.f5 ≤ n
instance (n : Nat) (x : S47) : Decidable (RowIn n x) := by unfold RowIn; infer_instance
def tabAt (b : List Int) : Nat := (gw b 32 4).toNat
def tabN (b : List Int) : Nat := (gw b 48 2).toNat
def tabS (b : List Int) : Except Int (List S47) :=
  if 65536 < b.length then .error 3 else if b.length < 52 then .error 4 else if b.length < tabAt b + 40 * tabN b then .error 4
  else if ∀ x ∈ rowsOf b (tabAt b) (tabN b), RowIn b.length x then .ok (rowsOf b (tabAt b) (tabN b)) else .error 4
def partB (b : List Int) (x : S47) : List Int := (b.drop x.f4.toNat).take x.f5.toNat
def rowS (rows : List S47) (n kind : Int) : Option S47 := (rows[n.toNat]?).bind fun x => if x.f1 = kind then some x else none
def headerS (b : List Int) (rows : List S47) : Option S47 :=
  if b.take 32 = magic ∧ (b.drop 36).take 12 = sizes ∧ (rows[0]?).map (·.f1) = some 0 then rowS rows (gw b 50 2) 3 else none
def nameL (l : List Int) : Prop := (∀ c ∈ l, 33 ≤ c ∧ c ≤ 126) ∧ l.length ≤ 64
instance (l : List Int) : Decidable (nameL l) := by unfold nameL; infer_instance
def textS (b : List Int) (x : S47) (at_ : Int) : Option (List Int) :=
  if (0 : Int) ∈ (partB b x).drop at_.toNat ∧ nameL (((partB b x).drop at_.toNat).takeWhile (· != 0)) then some (((partB b x).drop at_.toNat).takeWhile (· != 0)) else none
instance (n : Int) : Decidable (PowP n) := by unfold PowP; infer_instance
instance (s : ByteArray) : Decidable (NameP s) := by unfold NameP; infer_instance
instance (s : S40) : Decidable (SecP s) := by unfold SecP; infer_instance
def foldO {σ α : Type} (f : σ → α → Option σ) : σ → List α → Option σ
  | s, [] => some s
  | s, x :: l => (f s x).bind fun t => foldO f t l
def secR (b : List Int) (names : S47) (s : List S40 × List Int) (x : S47) : Option (List S40 × List Int) :=
  if x.f1 ≠ 1 ∧ x.f1 ≠ 8 then some (s.1, s.2 ++ [-1]) else
  (textS b names x.f0).bind fun t => if x.f3 = 0 ∧ SecP ⟨strOfNums t, x.f1, x.f2, x.f8, x.f5, if x.f1 = 1 then partB b x else []⟩ then
    some (s.1 ++ [⟨strOfNums t, x.f1, x.f2, x.f8, x.f5, if x.f1 = 1 then partB b x else []⟩], s.2 ++ [(s.1.length : Int)]) else none
def secsR (b : List Int) (rows : List S47) (names : S47) : Option (List S40 × List Int) := foldO (secR b names) ([], []) rows
def inR (nums : List Int) (n : Int) : Option Int :=
  if n = 0 then some (-1) else if n = 65521 then some (-2) else if n = 65522 then some (-3) else (nums[n.toNat]?).bind fun m => if 0 ≤ m then some m else none
def symR (b : List Int) (names : S47) (nums : List Int) (e : List Int) : Option S94 :=
  (textS b names (gw e 0 4)).bind fun t => (inR nums (gw e 14 2)).bind fun m =>
    if rd e 12 % 16 ≤ 3 ∧ (rd e 13 = 0 ∨ rd e 13 = 2) then some ⟨strOfNums t, gw e 4 4, gw e 8 4, rd e 12 / 16, rd e 12 % 16, rd e 13 == 2, m⟩ else none
structure Tst where
  l : List S94
  as_ : List Int
  loc : Int
  oth : Bool
def symStepR (b : List Int) (names : S47) (nums : List Int) (s : Tst) (e : List Int) : Option Tst :=
  if rd e 12 / 16 ≤ 2 ∧ (0 < rd e 12 / 16 ∨ s.oth = false) then
    (if rd e 12 % 16 = 4 then some ⟨s.l, s.as_ ++ [-2], if rd e 12 / 16 = 0 then s.loc + 1 else s.loc, decide (0 < rd e 12 / 16)⟩
     else (symR b names nums e).bind fun y => some ⟨s.l ++ [y], s.as_ ++ [(s.l.length : Int)], if rd e 12 / 16 = 0 then s.loc + 1 else s.loc, decide (0 < rd e 12 / 16)⟩)
  else none
def chunks (p : List Int) (m : Nat) : List (List Int) := (List.range (p.length / m)).map fun i => (p.drop (m * i)).take m
def symsR (b : List Int) (rows : List S47) (nums : List Int) : Option (List S94 × List Int × Int) :=
  match rows.findIdx? (fun x => x.f1 == 2) with
  | none => some ([], [-1], 0)
  | some k =>
    if ∃ y ∈ rows.drop (k + 1), y.f1 = 2 then none else
    (rowS rows (rd_T47 rows k).f6 3).bind fun names =>
      if (partB b (rd_T47 rows k)).length % 16 = 0 ∧ (partB b (rd_T47 rows k)).take 16 = List.replicate 16 0 then
        (foldO (symStepR b names nums) ⟨[], [-1], 1, false⟩ ((chunks (partB b (rd_T47 rows k)) 16).drop 1)).bind fun s => if (rd_T47 rows k).f7 = s.loc then some (s.l, s.as_, (k : Int)) else none
      else none
def relR (o : S40) (n : Int) (as_ : List Int) (s : List S59) (e : List Int) : Option (List S59) :=
  if gw e 0 4 < o.f4 then (as_[(gw e 4 4 / 256).toNat]?).bind fun m => if -1 ≤ m then some (s ++ [⟨n, gw e 0 4, gw e 4 4 % 256, m, IntKind.i32.wrap (gw e 8 4)⟩]) else none else none
def relRow (b : List Int) (secs : List S40) (nums as_ : List Int) (row : Int) (s : List S59) (x : S47) : Option (List S59) :=
  if x.f1 ≠ 4 then some s else
  if x.f6 = row then (nums[x.f7.toNat]?).bind fun n => if 0 ≤ n ∧ (partB b x).length % 12 = 0 ∧ (rd_T40 secs n).f1 = 1 then foldO (relR (rd_T40 secs n) n as_) s (chunks (partB b x) 12) else none else none
def relsR (b : List Int) (rows : List S47) (secs : List S40) (nums as_ : List Int) (row : Int) : Option (List S59) := foldO (relRow b secs nums as_ row) [] rows
def byS (n : Nat) (l : List S59) : List S59 := (List.range n).flatMap fun (i : Nat) => l.filter fun r => r.f0 == (i : Int)
def bodyS (b : List Int) (rows : List S47) : Option Ob :=
  (headerS b rows).bind fun names => (secsR b rows names).bind fun p => (symsR b rows p.2).bind fun q => (relsR b rows p.1 p.2 q.2.1 q.2.2).bind fun l => some ⟨p.1, q.1, byS p.1.length l⟩
instance (o : Ob) : Decidable (LimP o) := by unfold LimP; infer_instance
def readS (b : List Int) : Except Int Ob :=
  match tabS b with
  | .error e => .error e
  | .ok rows => match bodyS b rows with
    | none => .error 5
    | some o => if LimP o then .ok o else .error 3
end Go.Proofs.Ytockojajbnnbpaa.E
namespace Go.Proofs.Ytockojajbnnbpaa.E
open Go.RowKit Go.Proofs.Ytockojajbnnbpaa.Q Go.Proofs.YtockojajbnnbpaaW.PrintWords Go.Proofs.YtockojajbnnbpaaW.PrintLast Go.Proofs.YtockojajbnnbpaaW.PrintMore
set_option linter.unusedVariables false
set_option linter.unusedSimpArgs false
structure Fr (S : Nat → Prop) (w w' : World) : Prop where
  os : w'.os = w.os
  tape : w'.tape = w.tape
  output : w'.output = w.output
  size : w.heap.size ≤ w'.heap.size
  block : ∀ i, i < w.heap.size → ¬ S i → w'.heap[i]? = w.heap[i]?
theorem Fr.refl (S : Nat → Prop) (w : World) : Fr S w w := ⟨rfl, rfl, rfl, Nat.le_refl _, fun _ _ _ => rfl⟩
theorem Fr.trans {S : Nat → Prop} {a b c : World} (h : Fr S a b) (k : Fr S b c) : Fr S a c :=
  ⟨k.os.trans h.os, k.tape.trans h.tape, k.output.trans h.output, Nat.le_trans h.size k.size, fun i hi hs => (k.block i (Nat.lt_of_lt_of_le hi h.size) hs).trans (h.block i hi hs)⟩
theorem Fr.mono {S S' : Nat → Prop} {a b : World} (h : Fr S a b) (hs : ∀ i, S i → S' i) : Fr S' a b := ⟨h.os, h.tape, h.output, h.size, fun i hi hn => h.block i hi (fun k => hn (hs i k))⟩
theorem Fr.of_below {S : Nat → Prop} {a b : World} (h : Below a.heap.size a b) : Fr S a b := ⟨h.os, h.tape, h.output, h.size, fun i hi _ => h.block i hi⟩
theorem Fr.alloc {S : Nat → Prop} {a b : World} (h : Fr S a b) (o : Obj) : Fr S a (b.alloc o) := h.trans (Fr.of_below ((Below.refl _ _).alloc (Nat.le_refl _) o))
theorem Fr.drew {S : Nat → Prop} {a b : World} (h : Fr S a b) : Fr S a b.drew := ⟨h.os, h.tape, h.output, h.size, h.block⟩
theorem Fr.setCell {S : Nat → Prop} {a b : World} (h : Fr S a b) {p : Addr} (hp : S p.block) (u : Value) : Fr S a (b.setCell p u) :=
  h.trans ⟨rfl, rfl, rfl, by simp [World.setCell], fun i _ hn => Below.heap_setCell _ _ _ _ (fun e => hn (e ▸ hp))⟩
theorem Fr.of_grown {S : Nat → Prop} {a b : World} {row : Option Nat} (h : a.grownBy b row) (hs : ∀ k, row = some k → S k) : Fr S a b :=
  ⟨h.os, h.tape, h.output, h.size, fun i hi hn => h.block i hi (fun e => hn (hs i e.symm))⟩
theorem Fr.below {S : Nat → Prop} {B : Nat} {w0 a b : World} (h : Fr S a b) (hB : Below B w0 a) (hs : ∀ i, S i → B ≤ i) (hz : B ≤ a.heap.size) : Below B w0 b :=
  hB.trans ⟨h.os, h.tape, h.output, h.size, fun i hi => h.block i (by omega) (fun k => by have := hs i k; omega)⟩
theorem Fr.blk {S : Nat → Prop} {a b : World} {g : Nat} {o : Obj} (h : Fr S a b) (hb : a.heap[g]? = some o) (hn : ¬ S g) : b.heap[g]? = some o := (h.block g (blk_lt hb) hn).trans hb
theorem Fr.cell {S : Nat → Prop} {a b : World} {p : Addr} {u : Value} (h : Fr S a b) (hc : a.cell? p = some u) (hn : ¬ S p.block) : b.cell? p = some u := (World.cell?_of_block (h.block _ (World.block_lt_of_cell? _ _ hc) hn)).trans hc
theorem Fr.join {S : Nat → Prop} {a b c : World} (h : Fr S a b) (k : Fr (fun i => S i ∨ a.heap.size ≤ i) b c) : Fr S a c :=
  ⟨k.os.trans h.os, k.tape.trans h.tape, k.output.trans h.output, Nat.le_trans h.size k.size, fun i hi hs => (k.block i (Nat.lt_of_lt_of_le hi h.size) (fun x => x.elim hs (fun y => by omega))).trans (h.block i hi hs)⟩
structure Ow (S S' : Nat → Prop) (w w' : World) : Prop where
  fr : Fr S w w'
  sub : ∀ k, S' k → (S k ∨ w.heap.size ≤ k) ∧ k < w'.heap.size
theorem Ow.refl {S : Nat → Prop} {w : World} (h : ∀ k, S k → k < w.heap.size) : Ow S S w w := ⟨Fr.refl _ _, fun k hk => ⟨.inl hk, h k hk⟩⟩
theorem Ow.trans {S S1 S2 : Nat → Prop} {a b c : World} (h : Ow S S1 a b) (k : Ow S1 S2 b c) : Ow S S2 a c :=
  ⟨h.fr.join (k.fr.mono (fun i hi => (h.sub i hi).1)), fun i hi => ⟨by
    rcases (k.sub i hi).1 with h1 | h1
    · exact (h.sub i h1).1
    · have := h.fr.size; right; omega, (k.sub i hi).2⟩⟩
theorem Ow.below_after {S S1 : Nat → Prop} {a b c : World} (h : Ow S S1 a b) (k : Below b.heap.size b c) : Ow S S1 a c := ⟨h.fr.trans (Fr.of_below k), fun i hi => ⟨(h.sub i hi).1, Nat.lt_of_lt_of_le (h.sub i hi).2 k.size⟩⟩
theorem Ow.below_before {S S1 : Nat → Prop} {a b c : World} (k : Below a.heap.size a b) (h : Ow S S1 b c) : Ow S S1 a c := ⟨(Fr.of_below k).trans h.fr, fun i hi => ⟨(h.sub i hi).1.imp id (fun h1 => Nat.le_trans k.size h1), (h.sub i hi).2⟩⟩
theorem C_fr {α : Type} {d : Kd α} (hd : ∀ {w w1 : World} {x cs}, d.K w x cs → d.K w1 x cs) {S : Nat → Prop} {w w1 : World} {A : Option Addr} {n : Nat} {l : List α} (h : Kd.C d w A n l) (f : Fr S w w1) (hA : ∀ ad, A = some ad → ¬ S ad.block) : Kd.C d w1 A n l := by
  refine ⟨h.1, h.2.1, fun h0 => ?_⟩
  obtain ⟨ad, e, hc⟩ := h.2.2 h0
  refine ⟨ad, e, fun j p hj => ?_⟩
  obtain ⟨c, h1, h2, h3⟩ := hc j p hj
  exact ⟨c, h1, hd h2, fun i u hu => f.cell (h3 i u hu) (by
    have hb : (ad.add (j * d.sz + i)).block = ad.block := by unfold Addr.add; split <;> rfl
    rw [hb]; exact hA ad e)⟩
theorem Ci_fr {k : IntKind} {S : Nat → Prop} {w w1 : World} {A : Option Addr} {n : Nat} {l : List Int} (h : Kd.C (Kd.int k) w A n l) (f : Fr S w w1) (hA : ∀ ad, A = some ad → ¬ S ad.block) : Kd.C (Kd.int k) w1 A n l := C_fr (d := Kd.int k) (fun hK => hK) h f hA
abbrev Rb (w : World) (S : Nat → Prop) (v : Value) (l : List Int) : Prop := Kd.R (Kd.int .u8) 5 w 0 S v l
section
variable {α : Type} {d : Kd α} {e : Nat} {w w1 : World} {base : Nat} {S : Nat → Prop} {v : Value} {xs : List α}
theorem R_bd (h : d.R e w base S v xs) : d.R e w base (fun k => S k ∧ k < w.heap.size) v xs := Kd.R_mono (Kd.R_bound h) (fun k hk => ⟨hk.1, hk.2.2.1⟩)
theorem R_fr (h : d.R e w base S v xs) {T : Nat → Prop} (f : Fr T w w1) (hd : ∀ k, S k → ¬ T k) : d.R e w1 base S v xs := Kd.R_step h (fun k hk hlt => f.block k hlt (hd k hk))
end
section
variable {P : Program} {ops : Array Oper} {rest : List Oper} {o : Oper} {a : Act} {Q : Exit → Act → World → Prop}
theorem ev_bytes {W : World} (hgd : o.guard = none) (s x : Operand) (t : TypeId)
    (ho : o.op = .call { callee := .builtin .append, args := #[s, x], argTypes := #[t, t] }) (ht : Try.prog.underlying t = some (.slice 5))
    (v : Value) (xs ys : List Int) (A : Option Addr) (m c : Nat) (S : Nat → Prop) (hs : a.eval s = v) (hx : a.eval x = .slice A m c)
    (HO : Rb W S v xs) (HR : (Kd.int .u8).C W A m ys) (hl : xs.length + m ≤ 140737488355328)
    (h : ∀ (L : List Int) (A1 : Option Addr) (c1 : Nat) w1, Aside0 (L = xs ++ ys) → Rb w1 (fun k => (S k ∨ W.heap.size ≤ k) ∧ k < w1.heap.size) (.slice A1 L.length c1) L → W.grownBy w1 v.ownBlock → wpList Try.prog ops Q rest (a.put o.dst (.slice A1 L.length c1)) w1) :
    wpList Try.prog ops Q (o :: rest) a W :=
  Kd.R_append_row (Value.int .u8) 0 (w0 := W) 0 hgd s x t 5 (.int .u8 0) 1 ho ht info5 rfl (by decide) v xs ys A m c (fun k => S k ∨ W.heap.size ≤ k) hs hx (fun k hk => .inr hk) (Kd.R_mono HO (fun k hk => .inl hk)) HR (Below.refl _ _) (Nat.zero_le _) (by omega)
    (fun v1 w1 hr hb hg hat => by obtain ⟨A1, c1, rfl⟩ := Kd.R_slice hr; exact h _ A1 c1 w1 ⟨rfl⟩ (R_bd hr) hg)
theorem ev_one {α : Type} (d : Kd α) {W : World} (hgd : o.guard = none) (s x : Operand) (t e : TypeId) (z : Value) (bytes : Nat)
    (ho : o.op = .call { callee := .builtin .append, args := #[s, x], argTypes := #[t, t] })
    (ht : Try.prog.underlying t = some (.slice e)) (hinfo : (Try.prog.info? e).map (fun i => (i.zero, i.size, i.bytes)) = some (some z, d.sz, bytes)) (hz : z.cells.size = d.sz) (hs0 : 0 < d.sz) (hb0 : 0 < bytes)
    (v : Value) (xs : List α) (p : α) (cs : List Value) (S : Nat → Prop) (hs : a.eval s = v) (hx : a.eval x = .slice (some ⟨W.heap.size, 0, none⟩) 1 1) (hp : d.M W 0 (fun _ => False) p cs)
    (HO : d.R e W 0 S v xs) (hl : (xs.length + 1) * bytes ≤ 140737488355328)
    (h : ∀ (L : List α) (A1 : Option Addr) (c1 : Nat) w1, Aside0 (L = xs ++ [p]) → d.R e w1 0 (fun k => (S k ∨ W.heap.size ≤ k) ∧ k < w1.heap.size) (.slice A1 L.length c1) L → W.grownBy w1 v.ownBlock → wpList Try.prog ops Q rest (a.put o.dst (.slice A1 L.length c1)) w1) :
    wpList Try.prog ops Q (o :: rest) a (W.alloc (.cells cs.toArray e)) :=
  Kd.R_append d (w0 := W) 0 hgd s x t e z bytes ho ht hinfo hz hs0 hb0 v xs p cs (fun k => S k ∨ W.heap.size ≤ k) (fun _ => False) hs hx hp (fun _ hk => hk.elim) (fun k hk => .inr hk) (Kd.R_mono HO (fun k hk => .inl hk)) (Below.refl _ _) (Nat.zero_le _) hl
    (fun v1 w1 hr hb hg hat => by obtain ⟨A1, c1, rfl⟩ := Kd.R_slice hr; exact h _ A1 c1 w1 ⟨rfl⟩ (R_bd hr) hg)
end
section
variable {ops : Array Oper} {o : Oper} {a : Act} {Q : Exit → Act → World → Prop} {Kc : Act → World → Prop}
theorem ev_one_step {α : Type} (d : Kd α) {W : World} (hw : Region.wanted o (yielded ops a.tmps) = true) (s x : Operand) (t e : TypeId) (z : Value) (bytes : Nat)
    (ho : o.op = .call { callee := .builtin .append, args := #[s, x], argTypes := #[t, t] })
    (ht : Try.prog.underlying t = some (.slice e)) (hinfo : (Try.prog.info? e).map (fun i => (i.zero, i.size, i.bytes)) = some (some z, d.sz, bytes)) (hz : z.cells.size = d.sz) (hs0 : 0 < d.sz) (hb0 : 0 < bytes)
    (v : Value) (xs : List α) (p : α) (cs : List Value) (S : Nat → Prop) (hs : a.eval s = v) (hx : a.eval x = .slice (some ⟨W.heap.size, 0, none⟩) 1 1) (hp : d.M W 0 (fun _ => False) p cs)
    (HO : d.R e W 0 S v xs) (hl : (xs.length + 1) * bytes ≤ 140737488355328)
    (h : ∀ (L : List α) (A1 : Option Addr) (c1 : Nat) w1, Aside0 (L = xs ++ [p]) → d.R e w1 0 (fun k => (S k ∨ W.heap.size ≤ k) ∧ k < w1.heap.size) (.slice A1 L.length c1) L → W.grownBy w1 v.ownBlock → Kc (a.put o.dst (.slice A1 L.length c1)) w1) :
    if Region.wanted o (yielded ops a.tmps) = true then Oper.wp Try.prog o a (W.alloc (.cells cs.toArray e)) Kc Q else Kc (a.put o.dst undef) (W.alloc (.cells cs.toArray e)) :=
  Kd.R_append_step d (w0 := W) 0 hw s x t e z bytes ho ht hinfo hz hs0 hb0 v xs p cs (fun k => S k ∨ W.heap.size ≤ k) (fun _ => False) hs hx hp (fun _ hk => hk.elim) (fun k hk => .inr hk) (Kd.R_mono HO (fun k hk => .inl hk)) (Below.refl _ _) (Nat.zero_le _) hl
    (fun v1 w1 hr hb hg hat => by obtain ⟨A1, c1, rfl⟩ := Kd.R_slice hr; exact h _ A1 c1 w1 ⟨rfl⟩ (R_bd hr) hg)
end
theorem info47 : (Try.prog.info? 47).map (fun i => (i.zero, i.size, i.bytes)) = some (some (.agg #[(.int .u32 0), (.int .u32 0), (.int .u32 0), (.int .u32 0), (.int .u32 0), (.int .u32 0), (.int .u32 0), (.int .u32 0), (.int .u32 0), (.int .u32 0)]), 10, 40) := by kernel_rfl
structure Wrv (w : World) (S : Nat → Prop) (g : Nat) (vb vr : Value) (b : List Int) (rows : List S47) : Prop where
  blk : w.heap[g]? = some (.cells #[vb, vr] 50 (0, 0))
  rb : Rb w S vb b
  rr : Kd.R k47 47 w 0 S vr rows
  own : S g
  lt : ∀ k, S k → k < w.heap.size
def Wr (w : World) (S : Nat → Prop) (g : Nat) (b : List Int) (rows : List S47) : Prop := ∃ vb vr, Wrv w S g vb vr b rows
theorem ne_own {w : World} {e size n base : Nat} {v : Value} {xs : List Value} (h : w.ownsRow base e size v n xs) {k t : Nat} {cells : Array Value} (hb : w.heap[k]? = some (.cells cells t (0, 0))) (ht : e ≠ t) : some k ≠ v.ownBlock := by
  intro he
  obtain ⟨c, hc⟩ := own_typed h k he.symm
  rw [hc] at hb
  injection hb with hb
  injection hb with _ hb
  exact ht hb
theorem R_un {α β : Type} {d : Kd α} {d2 : Kd β} {e e2 : Nat} {w : World} {S S2 : Nat → Prop} {v v2 : Value} {xs : List α} {ys : List β} (h : d.R e w 0 S v xs) (h2 : d2.R e2 w 0 S2 v2 ys) (ht : ∀ q, q ∈ e :: d.E → q ≠ e2) : d.R e w 0 (fun k => S k ∧ some k ≠ v2.ownBlock) v xs := by
  obtain ⟨inner, ho⟩ := Kd.R_own h2
  refine Kd.R_mono (Kd.R_bound h) (fun k hk => ⟨hk.1, fun he => ?_⟩)
  obtain ⟨_, _, _, q, hq, cells, hc⟩ := hk
  obtain ⟨c2, hc2⟩ := own_typed ho k he.symm
  rw [hc] at hc2
  injection hc2 with hc2
  injection hc2 with _ hc2
  exact ht q hq hc2
section
variable {w w1 : World} {S S1 : Nat → Prop} {g : Nat} {vb vr v1 : Value} {b b1 : List Int} {rows rows1 : List S47}
theorem Wrv.setB (h : Wrv w S g vb vr b rows) (h1 : Rb w1 (fun k => (S k ∨ w.heap.size ≤ k) ∧ k < w1.heap.size) v1 b1) (hg : w.grownBy w1 vb.ownBlock) :
    ∃ S1, Wrv (w1.setCell ⟨g, 0, none⟩ v1) S1 g v1 vr b1 rows ∧ Ow S S1 w (w1.setCell ⟨g, 0, none⟩ v1) := by
  obtain ⟨ib, hob⟩ := Kd.R_own h.rb
  have hne := ne_own hob h.blk (by decide)
  have hb1 : w1.heap[g]? = some (.cells #[vb, vr] 50 (0, 0)) := blk_grown h.blk hg hne
  have hsz : ∀ p u, (w1.setCell p u).heap.size = w1.heap.size := by intro p u; simp [World.setCell]
  have hlt := h.lt
  refine ⟨(fun k => (S k ∨ w.heap.size ≤ k) ∧ k < w1.heap.size), ⟨(blk_set hb1 0 v1).trans rfl, Kd.R_set h1 hb1 (by simp [Kd.int, Kd.scalar]) 0 v1, ?_, ⟨.inl h.own, blk_lt hb1⟩, fun k hk => by rw [hsz]; exact hk.2⟩, ⟨?_, fun k hk => by rw [hsz]; exact hk⟩⟩
  · have h2 := Kd.R_grown (R_un h.rr h.rb (by simp [k47, Kd.iso, Kd.pair, Kd.int, Kd.scalar])) hg (fun k hk => hk.2)
    exact Kd.R_set (Kd.R_mono (R_bd h2) (fun k hk => ⟨.inl hk.1.1, hk.2⟩)) hb1 (by simp [k47, Kd.iso, Kd.pair, Kd.int, Kd.scalar]) 0 v1
  · exact (Fr.of_grown hg (fun k e => h.rb.1 k e)).setCell h.own v1
theorem Wrv.atB (h : Wrv w S g vb vr b rows) (hg : w.grownBy w1 vb.ownBlock) : w1.cell? ⟨g, 0, none⟩ = some vb ∧ w1.frozen? ⟨g, 0, none⟩ = false := by
  obtain ⟨ib, hob⟩ := Kd.R_own h.rb
  have hb1 := blk_grown h.blk hg (ne_own hob h.blk (by decide))
  exact ⟨(blk_cell hb1 0).trans rfl, blk_frozen hb1 0⟩
theorem Wrv.atR (h : Wrv w S g vb vr b rows) (hg : w.grownBy w1 vr.ownBlock) : w1.cell? ⟨g, 1, none⟩ = some vr ∧ w1.frozen? ⟨g, 1, none⟩ = false := by
  obtain ⟨ib, hob⟩ := Kd.R_own h.rr
  have hb1 := blk_grown h.blk hg (ne_own hob h.blk (by decide))
  exact ⟨(blk_cell hb1 1).trans rfl, blk_frozen hb1 1⟩
theorem Wrv.at0 (h : Wrv w S g vb vr b rows) : w.cell? ⟨g, 0, none⟩ = some vb ∧ w.frozen? ⟨g, 0, none⟩ = false := ⟨(blk_cell h.blk 0).trans rfl, blk_frozen h.blk 0⟩
theorem Wrv.at1 (h : Wrv w S g vb vr b rows) : w.cell? ⟨g, 1, none⟩ = some vr ∧ w.frozen? ⟨g, 1, none⟩ = false := ⟨(blk_cell h.blk 1).trans rfl, blk_frozen h.blk 1⟩
theorem Wrv.setR (h : Wrv w S g vb vr b rows) (h1 : Kd.R k47 47 w1 0 (fun k => (S k ∨ w.heap.size ≤ k) ∧ k < w1.heap.size) v1 rows1) (hg : w.grownBy w1 vr.ownBlock) :
    ∃ S1, Wrv (w1.setCell ⟨g, 1, none⟩ v1) S1 g vb v1 b rows1 ∧ Ow S S1 w (w1.setCell ⟨g, 1, none⟩ v1) := by
  obtain ⟨ib, hob⟩ := Kd.R_own h.rr
  have hne := ne_own hob h.blk (by decide)
  have hb1 : w1.heap[g]? = some (.cells #[vb, vr] 50 (0, 0)) := blk_grown h.blk hg hne
  have hsz : ∀ p u, (w1.setCell p u).heap.size = w1.heap.size := by intro p u; simp [World.setCell]
  refine ⟨(fun k => (S k ∨ w.heap.size ≤ k) ∧ k < w1.heap.size), ⟨(blk_set hb1 1 v1).trans rfl, ?_, Kd.R_set h1 hb1 (by simp [k47, Kd.iso, Kd.pair, Kd.int, Kd.scalar]) 1 v1, ⟨.inl h.own, blk_lt hb1⟩, fun k hk => by rw [hsz]; exact hk.2⟩, ⟨?_, fun k hk => by rw [hsz]; exact hk⟩⟩
  · have h2 := Kd.R_grown (R_un h.rb h.rr (by simp [Kd.int, Kd.scalar])) hg (fun k hk => hk.2)
    exact Kd.R_set (Kd.R_mono (R_bd h2) (fun k hk => ⟨.inl hk.1.1, hk.2⟩)) hb1 (by simp [Kd.int, Kd.scalar]) 1 v1
  · exact (Fr.of_grown hg (fun k e => h.rr.1 k e)).setCell h.own v1
theorem Wrv.fr {T : Nat → Prop} (h : Wrv w S g vb vr b rows) (f : Fr T w w1) (hd : ∀ k, S k → ¬ T k) : Wrv w1 S g vb vr b rows :=
  ⟨f.blk h.blk (hd g h.own), R_fr h.rb f hd, R_fr h.rr f hd, h.own, fun k hk => Nat.lt_of_lt_of_le (h.lt k hk) f.size⟩
theorem Wr.fr {T : Nat → Prop} (h : Wr w S g b rows) (f : Fr T w w1) (hd : ∀ k, S k → ¬ T k) : Wr w1 S g b rows := by
  obtain ⟨vb, vr, h⟩ := h
  exact ⟨vb, vr, h.fr f hd⟩
theorem Wrv.below (h : Wrv w S g vb vr b rows) (k : Below w.heap.size w w1) : Wrv w1 S g vb vr b rows := h.fr (T := fun _ => False) (Fr.of_below k) (fun _ _ => id)
theorem Wr.below (h : Wr w S g b rows) (k : Below w.heap.size w w1) : Wr w1 S g b rows := h.fr (T := fun _ => False) (Fr.of_below k) (fun _ _ => id)
theorem Wrv.wr (h : Wrv w S g vb vr b rows) {b' : List Int} {rows' : List S47} (hb : b = b') (hr : rows = rows') : Wr w S g b' rows' := by subst hb; subst hr; exact ⟨vb, vr, h⟩
theorem Wr.lt (h : Wr w S g b rows) : ∀ k, S k → k < w.heap.size := by obtain ⟨vb, vr, h⟩ := h; exact h.lt
end
structure Txv (w : World) (S : Nat → Prop) (g : Nat) (vb : Value) (b : List Int) : Prop where
  blk : w.heap[g]? = some (.cells #[vb] 53 (0, 0))
  rb : Rb w S vb b
  own : S g
  lt : ∀ k, S k → k < w.heap.size
def Tx (w : World) (S : Nat → Prop) (g : Nat) (b : List Int) : Prop := ∃ vb, Txv w S g vb b
section
variable {w w1 : World} {S S1 : Nat → Prop} {g : Nat} {vb v1 : Value} {b b1 : List Int}
theorem Txv.setB (h : Txv w S g vb b) (h1 : Rb w1 (fun k => (S k ∨ w.heap.size ≤ k) ∧ k < w1.heap.size) v1 b1) (f : Fr (fun k => S k ∧ k ≠ g) w w1) :
    ∃ S1, Txv (w1.setCell ⟨g, 0, none⟩ v1) S1 g v1 b1 ∧ Ow S S1 w (w1.setCell ⟨g, 0, none⟩ v1) := by
  have hb1 : w1.heap[g]? = some (.cells #[vb] 53 (0, 0)) := f.blk h.blk (fun x => x.2 rfl)
  have hsz : ∀ p u, (w1.setCell p u).heap.size = w1.heap.size := by intro p u; simp [World.setCell]
  refine ⟨(fun k => (S k ∨ w.heap.size ≤ k) ∧ k < w1.heap.size), ⟨(blk_set hb1 0 v1).trans rfl, Kd.R_set h1 hb1 (by simp [Kd.int, Kd.scalar]) 0 v1, ⟨.inl h.own, blk_lt hb1⟩, fun k hk => by rw [hsz]; exact hk.2⟩, ⟨?_, fun k hk => by rw [hsz]; exact hk⟩⟩
  exact (f.mono (fun i hi => hi.1)).setCell h.own v1
theorem Txv.at0 (h : Txv w S g vb b) : w.cell? ⟨g, 0, none⟩ = some vb ∧ w.frozen? ⟨g, 0, none⟩ = false := ⟨(blk_cell h.blk 0).trans rfl, blk_frozen h.blk 0⟩
theorem Txv.atB (h : Txv w S g vb b) (f : Fr (fun k => S k ∧ k ≠ g) w w1) : w1.cell? ⟨g, 0, none⟩ = some vb ∧ w1.frozen? ⟨g, 0, none⟩ = false := by
  have hb1 := f.blk h.blk (fun x => x.2 rfl)
  exact ⟨(blk_cell hb1 0).trans rfl, blk_frozen hb1 0⟩
theorem Tx.fr {T : Nat → Prop} (h : Tx w S g b) (f : Fr T w w1) (hd : ∀ k, S k → ¬ T k) : Tx w1 S g b := by
  obtain ⟨vb, h⟩ := h
  exact ⟨vb, f.blk h.blk (hd g h.own), R_fr h.rb f hd, h.own, fun k hk => Nat.lt_of_lt_of_le (h.lt k hk) f.size⟩
theorem Tx.below (h : Tx w S g b) (k : Below w.heap.size w w1) : Tx w1 S g b := h.fr (T := fun _ => False) (Fr.of_below k) (fun _ _ => id)
theorem Txv.tx (h : Txv w S g vb b) {b' : List Int} (hb : b = b') : Tx w S g b' := by subst hb; exact ⟨vb, h⟩
theorem Tx.lt (h : Tx w S g b) : ∀ k, S k → k < w.heap.size := by obtain ⟨vb, h⟩ := h; exact h.lt
end
end Go.Proofs.Ytockojajbnnbpaa.E
namespace Go.Proofs.Ytockojajbnnbpaa.E
open Go.RowKit Go.Proofs.Ytockojajbnnbpaa.Q Go.Proofs.YtockojajbnnbpaaW.PrintWords Go.Proofs.YtockojajbnnbpaaW.PrintLast Go.Proofs.YtockojajbnnbpaaW.PrintMore
set_option linter.unusedVariables false
set_option linter.unusedSimpArgs false
theorem put4_is (n : Int) (h0 : 0 ≤ n) (h1 : n < 4294967296) : ends_Put.f n 4 = some (le4 n, 0) := by
  unfold ends_Put.f
  rw [if_pos ⟨h0, by omega⟩, if_pos (by decide), if_neg (by simp; omega)]
  simp [lowBytes, le4]
theorem put4_calls (n : Int) (h0 : 0 ≤ n) (h1 : n < 4294967296) (w : World) :
    Calls Try.prog 62 #[.int .u64 n, .int .i64 4] w fun e w' => ∃ v0_ : Value, e = .returned (.tuple #[v0_, .int .i64 0]) ∧ Kd.R (Kd.int .u8) 5 w' w.heap.size (fun _ => True) v0_ (le4 n) ∧ Below w.heap.size w w' :=
  ends_Put.calls n 4 _ _ w (put4_is n h0 h1)
theorem u64id (n : Int) (h0 : 0 ≤ n) (h1 : n < 18446744073709551616) : IntKind.u64.wrap n = n := by simp [IntKind.wrap, IntKind.bits, IntKind.signed]; omega
theorem rd_get (l : List Int) (i : Nat) (h : i < l.length) : rd l (i : Int) = l[i] := by
  unfold rd
  rw [Int.toNat_natCast, List.getD_eq_getElem?_getD, List.getElem?_eq_getElem h]
  rfl
theorem le4_len (n : Int) : (le4 n).length = 4 := rfl
theorem words_len (l : List Int) : (l.flatMap le4).length = 4 * l.length := by
  induction l with
  | nil => rfl
  | cons a t ih => rw [List.flatMap_cons, List.length_append, ih, le4_len, List.length_cons]; omega
theorem words_snoc (l : List Int) (i : Nat) (h : i < l.length) : (l.take i).flatMap le4 ++ le4 (rd l (i : Int)) = (l.take (i + 1)).flatMap le4 := by
  rw [List.take_succ_eq_append_getElem h, List.flatMap_append, rd_get l i h]
  simp
theorem w64s (i : Nat) (h : i < 4611686018427387904) : wrap64 ((i : Int) + 1) = ((i + 1 : Nat) : Int) := by unfold wrap64; omega
set_option maxRecDepth 100000 in
set_option maxHeartbeats 4000000 in
theorem word_calls {S : Nat → Prop} {g : Nat} {b : List Int} {rows : List S47} {A : Option Addr} {c : Nat} (l : List Int) (w : World) (h : Wr w S g b rows) (hl : Kd.C (Kd.int .u32) w A l.length l) (hA : ∀ ad, A = some ad → ¬ S ad.block) (hr : ∀ x ∈ l, 0 ≤ x ∧ x < 4294967296) (hz : b.length + 4 * l.length < 70368744177664) :
    Calls Try.prog 26 #[.pointer (some ⟨g, 0, none⟩), .slice A l.length c] w fun e w' => e = .returned (.tuple #[]) ∧ ∃ S', Wr w' S' g (b ++ l.flatMap le4) rows ∧ Ow S S' w w' := by
  have HL := Aside0.mk hl
  have HA := Aside0.mk hA
  have HR := Aside0.mk hr
  have HZ := Aside0.mk hz
  have HW0 : Aside0 (Wr w S g (b ++ (l.take 0).flatMap le4) rows) := ⟨by simpa using h⟩
  have HO0 : Aside0 (Ow S S w w) := ⟨Ow.refl h.lt⟩
  clear h hl hA hr hz
  go_enter Try.func26, Try.ntmps26
  go_wp2
  go_loopg [10] (l.length + 1) (fun kq v10 w' => ∃ (i : Nat) (S' : Nat → Prop), v10 = .int .i64 (i : Int) ∧ Aside0 (i + kq = l.length + 1) ∧ Aside0 (i ≤ l.length) ∧ Aside0 (Wr w' S' g (b ++ (l.take i).flatMap le4) rows) ∧ Aside0 (Ow S S' w w'))
  case atStart => exact ⟨0, S, rfl, ⟨by omega⟩, ⟨by omega⟩, HW0, HO0⟩
  case round =>
    clear HW0 HO0
    obtain ⟨i, S', rfl, HK, HI, HW, HO⟩ := hrel
    by_cases c1 : i < l.length
    · cases gk with
      | zero => exact absurd HK.out (by have := HI.out; omega)
      | succ gk =>
        obtain ⟨ad, ea, hx⟩ := Kd.at_int (Ci_fr HL.out HO.out.fr HA.out) (i : Int) (by omega) (by omega)
        cases ea
        rw [Int.toNat_natCast] at hx
        have hrg := HR.out (rd l i) (by rw [rd_get l i c1]; exact List.getElem_mem c1)
        have hsn := Aside0.mk (words_snoc l i c1)
        have hln : Aside0 ((b ++ (l.take i).flatMap le4).length < 70368744177664) := ⟨by rw [List.length_append, words_len, List.length_take]; have := HZ.out; omega⟩
        generalize rd l (i : Int) = n at hx hrg hsn
        have hw : IntKind.u64.wrap n = n := u64id n hrg.1 (by omega)
        have HRG := Aside0.mk hrg
        clear hrg
        have p1 : ((i : Int) < (l.length : Int)) = True := eq_true (by omega)
        have p2 : (i < l.length) = True := eq_true c1
        have HC1 := Aside0.mk c1
        have p3 : 0 ≤ (i : Int) := by omega
        clear c1
        go_wp2_with fail
        refine (put4_calls n HRG.out.1 HRG.out.2 _).mono ?_
        rintro e w2 ⟨v, rfl, hv, hb⟩
        obtain ⟨A2, c2, rfl, hl2, hC2⟩ := Kd.R_reads hv
        obtain ⟨vb, vr, hW⟩ := HW.out.below hb
        replace HO := Aside0.mk (HO.out.below_after hb)
        have hc0 := hW.at0.1
        have hf0 := blk_frozen hW.blk 0
        have HV := Aside0.mk hW
        have HC2 := Aside0.mk hC2
        clear hv hb hW hC2 hl2 hx
        go_wp2_with (first | ((with_reducible refine gate_builtin (b := .append) (xs := #[.tmp 24, .tmp 25]) rfl ?_); at_builtin; refine ev_bytes rfl (.tmp 24) (.tmp 25) 27 rfl Try.underlying27 vb _ (le4 n) A2 _ c2 S' rfl rfl HV.out.rb HC2.out (by have := hln.out; have := le4_len n; omega) ?_; intro L1 A3 c3 w3 hL1 hr1 hg1; obtain ⟨S1, hW1, hO1⟩ := HV.out.setB hr1 hg1; have HN1 := Aside0.mk hW1; have HN2 := Aside0.mk hO1; clear hW1 hO1; obtain ⟨hc1, hf1⟩ := HV.out.atB hg1; clear hr1 hg1 hc0 hf0))
        go_roundg gk
        case measure => omega
        case rel => exact ⟨i + 1, _, congrArg (Value.int .i64) (w64s i (by have := HZ.out; have := HC1.out; omega)), ⟨by have := HK.out; omega⟩, ⟨HC1.out⟩, ⟨_, _, by rw [← hsn.out, ← List.append_assoc, ← hL1.out]; exact HN1.out⟩, ⟨HO.out.trans HN2.out⟩⟩
    · have hi : i = l.length := by have := HI.out; omega
      subst hi
      rw [List.take_length] at HW
      go_wp2
      go_end0
      exact ⟨rfl, S', HW.out, HO.out⟩
def pz (b : List Int) (j : Nat) : List Int := b ++ List.replicate j 0
theorem pz_len (b : List Int) (j : Nat) : (pz b j).length = b.length + j := by simp [pz]
theorem pz_zero (b : List Int) : pz b 0 = b := by simp [pz]
theorem pz_snoc (b : List Int) (j : Nat) : pz b j ++ [0] = pz b (j + 1) := by simp [pz, List.replicate_succ']
theorem pz_pad (b : List Int) : pz b ((4 - b.length % 4) % 4) = pad4 b := rfl
set_option maxRecDepth 100000 in
set_option maxHeartbeats 4000000 in
theorem pad_calls {S : Nat → Prop} {g : Nat} {b : List Int} {rows : List S47} (w : World) (h : Wr w S g b rows) (hz : b.length < 70368744177664) :
    Calls Try.prog 60 #[.pointer (some ⟨g, 0, none⟩)] w fun e w' => e = .returned (.tuple #[]) ∧ ∃ S', Wr w' S' g (pad4 b) rows ∧ Ow S S' w w' := by
  have HZ := Aside0.mk hz
  have HW0 : Aside0 (Wr w S g (pz b 0) rows) := ⟨by rw [pz_zero]; exact h⟩
  have HO0 : Aside0 (Ow S S w w) := ⟨Ow.refl h.lt⟩
  clear h hz
  go_enter Try.func60, Try.ntmps60
  go_wp2
  go_loopg [] 5 (fun kq w' => ∃ (j : Nat) (S' : Nat → Prop), Aside0 (j + kq = 5) ∧ Aside0 (j ≤ (4 - b.length % 4) % 4) ∧ Aside0 (Wr w' S' g (pz b j) rows) ∧ Aside0 (Ow S S' w w'))
  case atStart => exact ⟨0, S, ⟨by omega⟩, ⟨by omega⟩, HW0, HO0⟩
  case round =>
    clear HW0 HO0
    obtain ⟨j, S', HK, HI, HW, HO⟩ := hrel
    have HQ : Aside0 ((pz b j).length = b.length + j) := ⟨pz_len b j⟩
    by_cases c1 : (b.length + j) % 4 = 0
    · have hj : j = (4 - b.length % 4) % 4 := by have := HI.out; omega
      have hL : pz b j = pad4 b := by rw [hj, pz_pad]
      obtain ⟨vb, vr, hV⟩ := HW.out
      obtain ⟨A, c, rfl⟩ := Kd.R_slice hV.rb
      have hc0 := hV.at0.1
      have c2 : (((pz b j).length : Int) % 4 != 0) = false := by rw [HQ.out]; simp; omega
      rw [hL] at HW hc0 c2
      clear hV hL
      go_wp2
      go_end0
      exact ⟨rfl, S', HW.out, HO.out⟩
    · cases gk with
      | zero => exact absurd HK.out (by have := HI.out; omega)
      | succ gk =>
        obtain ⟨vb, vr, hV⟩ := HW.out
        obtain ⟨A, c, rfl⟩ := Kd.R_slice hV.rb
        have hc0 := hV.at0.1
        have c2 : (((pz b j).length : Int) % 4 != 0) = true := by rw [HQ.out]; simp; omega
        have HV := Aside0.mk hV
        have HS := Aside0.mk (pz_snoc b j)
        generalize pz b j = L0 at *
        clear hV
        go_wp2_with (first | ((with_reducible refine gate_builtin (b := .append) (xs := #[.tmp 13, .tmp 14]) rfl ?_); at_builtin; refine ev_one (Kd.int .u8) rfl (.tmp 13) (.tmp 14) 27 5 (.int .u8 0) 1 rfl Try.underlying27 info5 rfl (by decide) (by decide) (.slice A L0.length c) L0 0 [.int .u8 0] S' rfl rfl rfl HV.out.rb (by have := HQ.out; have := HZ.out; have := HK.out; omega) ?_; intro L1 A3 c3 w3 hL1 hr1 hg1; obtain ⟨S1, hW1, hO1⟩ := HV.out.setB hr1 hg1; have HN1 := Aside0.mk hW1; have HN2 := Aside0.mk hO1; clear hW1 hO1; obtain ⟨hc1, hf1⟩ := HV.out.atB hg1; clear hr1 hg1 hc0))
        go_roundg gk
        case measure => omega
        case rel => exact ⟨j + 1, _, ⟨by have := HK.out; omega⟩, ⟨by have := HI.out; omega⟩, ⟨_, _, by rw [← HS.out, ← hL1.out]; exact HN1.out⟩, ⟨HO.out.trans HN2.out⟩⟩
end Go.Proofs.Ytockojajbnnbpaa.E
namespace Go.Proofs.Ytockojajbnnbpaa.E
open Go.RowKit Go.Proofs.Ytockojajbnnbpaa.Q Go.Proofs.YtockojajbnnbpaaW.PrintWords Go.Proofs.YtockojajbnnbpaaW.PrintLast Go.Proofs.YtockojajbnnbpaaW.PrintMore
set_option linter.unusedVariables false
set_option linter.unusedSimpArgs false
def rowV (r : S47) : Value := .agg #[.int .u32 r.f0, .int .u32 r.f1, .int .u32 r.f2, .int .u32 r.f3, .int .u32 r.f4, .int .u32 r.f5, .int .u32 r.f6, .int .u32 r.f7, .int .u32 r.f8, .int .u32 r.f9]
def rowC (r : S47) : Array Value := #[.int .u32 r.f0, .int .u32 r.f1, .int .u32 r.f2, .int .u32 r.f3, .int .u32 r.f4, .int .u32 r.f5, .int .u32 r.f6, .int .u32 r.f7, .int .u32 r.f8, .int .u32 r.f9]
set_option maxRecDepth 100000 in
set_option maxHeartbeats 4000000 in
theorem part_calls {S : Nat → Prop} {g : Nat} {b : List Int} {rows : List S47} {A : Option Addr} {c : Nat} (r : S47) (x : List Int) (w : World) (h : Wr w S g b rows) (hx : Kd.C (Kd.int .u8) w A x.length x) (hz : b.length + x.length < 35184372088832) (hrz : rows.length < 1073741824) :
    Calls Try.prog 23 #[.pointer (some ⟨g, 0, none⟩), rowV r, .slice A x.length c] w fun e w' => e = .returned (.tuple #[]) ∧ ∃ S', Wr w' S' g (partS ⟨b, rows⟩ r x).b (partS ⟨b, rows⟩ r x).rows ∧ Ow S S' w w' := by
  have hu47 := Try.underlying47
  obtain ⟨r0, r1, r2, r3, r4, r5, r6, r7, r8, r9⟩ := r
  obtain ⟨vb, vr, hV⟩ := h
  obtain ⟨Ab, cb, rfl⟩ := Kd.R_slice hV.rb
  have hglt := blk_lt hV.blk
  have hne : ¬ g = w.heap.size := by omega
  have hne2 : ¬ w.heap.size = g := by omega
  have HV := Aside0.mk hV
  have HX := Aside0.mk hx
  have HZ := Aside0.mk hz
  have HRZ := Aside0.mk hrz
  have hcg : ∀ cs, (w.alloc (.cells cs 47)).cell? ⟨g, 0, none⟩ = some (.slice Ab b.length cb) := fun cs => ((below_alloc (Below.refl _ _) _).cell hglt).trans hV.at0.1
  have HVa : ∀ cs, Aside0 (Wrv (w.alloc (.cells cs 47)) S g (.slice Ab b.length cb) vr b rows) := fun cs => ⟨hV.below (below_alloc (Below.refl _ _) _)⟩
  have HXa : ∀ cs, Aside0 (Kd.C (Kd.int .u8) (w.alloc (.cells cs 47)) A x.length x) := fun cs => ⟨Kd.C_below hx (below_alloc (Below.refl _ _) _)⟩
  have HS := Aside0.mk hV.lt
  clear hV hx hz hrz hne hne2 HV HX
  unfold rowV
  go_enter Try.func23, Try.ntmps23
  by_cases k8 : r1 = 8
  · subst k8
    go_wp2_with (first | ((with_reducible refine gate_builtin (b := .append) (xs := #[.tmp 24, .tmp 25]) rfl ?_); at_builtin; refine ev_bytes rfl (.tmp 24) (.tmp 25) 27 rfl Try.underlying27 (.slice Ab b.length cb) b x A _ c S rfl rfl (HVa _).out.rb (HXa _).out (by have := HZ.out; omega) ?_; intro L1 A3 c3 w3 hL1 hr1 hg1; obtain ⟨S1, hW1, hO1⟩ := (HVa _).out.setB hr1 hg1; obtain ⟨hc1, hf1⟩ := (HVa _).out.atB hg1; have HBK := Aside0.mk (hO1.fr.blk (heap_alloc_new w _) (fun hS => by have := HS.out _ hS; omega)); have HNP : Aside0 (¬ S1 w.heap.size) := ⟨fun hS => (hO1.sub _ hS).1.elim (fun h1 => absurd (HS.out _ h1) (Nat.lt_irrefl _)) (fun h1 => absurd h1 (by simp))⟩; have HN1 := Aside0.mk hW1; have HN2 := Aside0.mk (Ow.below_before (below_alloc (Below.refl _ _) _) hO1); clear hr1 hg1 hW1 hO1))
    clear HVa HXa hcg
    refine (pad_calls _ ⟨_, _, HN1.out⟩ (by rw [hL1.out, List.length_append]; have := HZ.out; omega)).mono ?_
    rintro e w5 ⟨rfl, S5, hW5, hO5⟩
    replace HBK := Aside0.mk (hO5.fr.blk HBK.out HNP.out)
    replace HN2 := Aside0.mk (HN2.out.trans hO5)
    obtain ⟨vb5, vr5, hV5⟩ := hW5
    obtain ⟨A5, c5, rfl⟩ := Kd.R_slice hV5.rr
    have hc1 := hV5.at1.1
    have hc1a : ∀ cs, (w5.alloc (.cells cs 47)).cell? ⟨g, 1, none⟩ = some (.slice A5 rows.length c5) := fun cs => ((below_alloc (Below.refl _ _) _).cell (blk_lt hV5.blk)).trans hV5.at1.1
    have d0 : w5.cell? ⟨w.heap.size, 0, none⟩ = some (.int .u32 r0) := (blk_cell HBK.out 0).trans rfl
    have d1 : w5.cell? ⟨w.heap.size, 1, none⟩ = some (.int .u32 8) := (blk_cell HBK.out 1).trans rfl
    have d2 : w5.cell? ⟨w.heap.size, 2, none⟩ = some (.int .u32 r2) := (blk_cell HBK.out 2).trans rfl
    have d3 : w5.cell? ⟨w.heap.size, 3, none⟩ = some (.int .u32 r3) := (blk_cell HBK.out 3).trans rfl
    have d4 : w5.cell? ⟨w.heap.size, 4, none⟩ = some (.int .u32 ((b.length : Int) % 4294967296)) := (blk_cell HBK.out 4).trans rfl
    have d5 : w5.cell? ⟨w.heap.size, 5, none⟩ = some (.int .u32 r5) := (blk_cell HBK.out 5).trans rfl
    have d6 : w5.cell? ⟨w.heap.size, 6, none⟩ = some (.int .u32 r6) := (blk_cell HBK.out 6).trans rfl
    have d7 : w5.cell? ⟨w.heap.size, 7, none⟩ = some (.int .u32 r7) := (blk_cell HBK.out 7).trans rfl
    have d8 : w5.cell? ⟨w.heap.size, 8, none⟩ = some (.int .u32 r8) := (blk_cell HBK.out 8).trans rfl
    have d9 : w5.cell? ⟨w.heap.size, 9, none⟩ = some (.int .u32 r9) := (blk_cell HBK.out 9).trans rfl
    have HV5 : Aside0 (Wrv w5.drew S5 g vb5 (.slice A5 rows.length c5) (pad4 L1) rows) := ⟨hV5.below (Below.refl _ _).drew⟩
    clear hV5 hO5 HN1 HBK HNP
    go_wp2
    go_region_law (first | (refine ev_one_step (W := w5.drew) k47 rfl (.tmp 35) (.tmp 37) 48 47 _ 40 rfl Try.underlying48 info47 rfl (by decide) (by decide) (.slice A5 rows.length c5) rows ⟨r0, 8, r2, r3, (b.length : Int) % 4294967296, r5, r6, r7, r8, r9⟩ _ S5 rfl rfl (k47_mkM _ _ _ _) HV5.out.rr (by have := HRZ.out; omega) ?_; intro L6 A6 c6 w6 hL6 hr6 hg6; obtain ⟨S6, hW6, hO6⟩ := HV5.out.setR hr6 hg6; obtain ⟨hc6, hf6⟩ := HV5.out.atR hg6; have HN6 := Aside0.mk hW6; have HO6 := Aside0.mk hO6; clear hr6 hg6 hW6 hO6))
    all_goals (go_end0; exact ⟨rfl, S6, HN6.out.wr (by rw [hL1.out]; rfl) (by rw [hL6.out]; rfl), (HN2.out.trans (Ow.below_before (Below.refl _ _).drew HO6.out))⟩)
  · have k8a : (r1 != 8) = true := by simpa using k8
    have k8b : (r1 == 8) = false := by simpa using k8
    go_wp2_with (first | ((with_reducible refine gate_builtin (b := .append) (xs := #[.tmp 24, .tmp 25]) rfl ?_); at_builtin; refine ev_bytes rfl (.tmp 24) (.tmp 25) 27 rfl Try.underlying27 (.slice Ab b.length cb) b x A _ c S rfl rfl (HVa _).out.rb (HXa _).out (by have := HZ.out; omega) ?_; intro L1 A3 c3 w3 hL1 hr1 hg1; obtain ⟨S1, hW1, hO1⟩ := (HVa _).out.setB hr1 hg1; obtain ⟨hc1, hf1⟩ := (HVa _).out.atB hg1; have HBK := Aside0.mk (hO1.fr.blk (heap_alloc_new w _) (fun hS => by have := HS.out _ hS; omega)); have HNP : Aside0 (¬ S1 w.heap.size) := ⟨fun hS => (hO1.sub _ hS).1.elim (fun h1 => absurd (HS.out _ h1) (Nat.lt_irrefl _)) (fun h1 => absurd h1 (by simp))⟩; have HN1 := Aside0.mk hW1; have HN2 := Aside0.mk (Ow.below_before (below_alloc (Below.refl _ _) _) hO1); clear hr1 hg1 hW1 hO1))
    clear HVa HXa hcg
    refine (pad_calls _ ⟨_, _, HN1.out⟩ (by rw [hL1.out, List.length_append]; have := HZ.out; omega)).mono ?_
    rintro e w5 ⟨rfl, S5, hW5, hO5⟩
    replace HBK := Aside0.mk (hO5.fr.blk HBK.out HNP.out)
    replace HN2 := Aside0.mk (HN2.out.trans hO5)
    obtain ⟨vb5, vr5, hV5⟩ := hW5
    obtain ⟨A5, c5, rfl⟩ := Kd.R_slice hV5.rr
    have hc1 := hV5.at1.1
    have hc1a : ∀ cs, (w5.alloc (.cells cs 47)).cell? ⟨g, 1, none⟩ = some (.slice A5 rows.length c5) := fun cs => ((below_alloc (Below.refl _ _) _).cell (blk_lt hV5.blk)).trans hV5.at1.1
    have d0 : w5.cell? ⟨w.heap.size, 0, none⟩ = some (.int .u32 r0) := (blk_cell HBK.out 0).trans rfl
    have d1 : w5.cell? ⟨w.heap.size, 1, none⟩ = some (.int .u32 r1) := (blk_cell HBK.out 1).trans rfl
    have d2 : w5.cell? ⟨w.heap.size, 2, none⟩ = some (.int .u32 r2) := (blk_cell HBK.out 2).trans rfl
    have d3 : w5.cell? ⟨w.heap.size, 3, none⟩ = some (.int .u32 r3) := (blk_cell HBK.out 3).trans rfl
    have d4 : w5.cell? ⟨w.heap.size, 4, none⟩ = some (.int .u32 ((b.length : Int) % 4294967296)) := (blk_cell HBK.out 4).trans rfl
    have d5 : w5.cell? ⟨w.heap.size, 5, none⟩ = some (.int .u32 ((x.length : Int) % 4294967296)) := (blk_cell HBK.out 5).trans rfl
    have d6 : w5.cell? ⟨w.heap.size, 6, none⟩ = some (.int .u32 r6) := (blk_cell HBK.out 6).trans rfl
    have d7 : w5.cell? ⟨w.heap.size, 7, none⟩ = some (.int .u32 r7) := (blk_cell HBK.out 7).trans rfl
    have d8 : w5.cell? ⟨w.heap.size, 8, none⟩ = some (.int .u32 r8) := (blk_cell HBK.out 8).trans rfl
    have d9 : w5.cell? ⟨w.heap.size, 9, none⟩ = some (.int .u32 r9) := (blk_cell HBK.out 9).trans rfl
    have HV5 : Aside0 (Wrv w5.drew S5 g vb5 (.slice A5 rows.length c5) (pad4 L1) rows) := ⟨hV5.below (Below.refl _ _).drew⟩
    clear hV5 hO5 HN1 HBK HNP
    go_wp2
    go_region_law (first | (refine ev_one_step (W := w5.drew) k47 rfl (.tmp 35) (.tmp 37) 48 47 _ 40 rfl Try.underlying48 info47 rfl (by decide) (by decide) (.slice A5 rows.length c5) rows ⟨r0, r1, r2, r3, (b.length : Int) % 4294967296, (x.length : Int) % 4294967296, r6, r7, r8, r9⟩ _ S5 rfl rfl (k47_mkM _ _ _ _) HV5.out.rr (by have := HRZ.out; omega) ?_; intro L6 A6 c6 w6 hL6 hr6 hg6; obtain ⟨S6, hW6, hO6⟩ := HV5.out.setR hr6 hg6; obtain ⟨hc6, hf6⟩ := HV5.out.atR hg6; have HN6 := Aside0.mk hW6; have HO6 := Aside0.mk hO6; clear hr6 hg6 hW6 hO6))
    all_goals (go_end0; exact ⟨rfl, S6, HN6.out.wr (by rw [hL1.out]; rfl) (by rw [hL6.out]; unfold partS; rw [if_neg k8]), (HN2.out.trans (Ow.below_before (Below.refl _ _).drew HO6.out))⟩)
end Go.Proofs.Ytockojajbnnbpaa.E
namespace Go.Proofs.Ytockojajbnnbpaa.E
open Go.RowKit Go.Proofs.Ytockojajbnnbpaa.Q Go.Proofs.YtockojajbnnbpaaW.PrintWords Go.Proofs.YtockojajbnnbpaaW.PrintLast Go.Proofs.YtockojajbnnbpaaW.PrintMore
set_option linter.unusedVariables false
set_option linter.unusedSimpArgs false
section
variable {ops : Array Oper} {rest : List Oper} {o : Oper} {a : Act} {Q : Exit → Act → World → Prop}
theorem ev_str {W : World} (hgd : o.guard = none) (s x : Operand)
    (ho : o.op = .call { callee := .builtin .append, args := #[s, x], argTypes := #[27, 9] })
    (v : Value) (xs : List Int) (y : ByteArray) (S : Nat → Prop) (hs : a.eval s = v) (hx : a.eval x = .string y) (hn : 0 < xs.length)
    (HO : Rb W S v xs) (hl : xs.length + y.size ≤ 140737488355328)
    (h : ∀ (L : List Int) (A1 : Option Addr) (c1 : Nat) w1, Aside0 (L = xs ++ bytesOf y) → Rb w1 (fun k => (S k ∨ W.heap.size ≤ k) ∧ k < w1.heap.size) (.slice A1 L.length c1) L → W.grownBy w1 v.ownBlock → wpList Try.prog ops Q rest (a.put o.dst (.slice A1 L.length c1)) w1) :
    wpList Try.prog ops Q (o :: rest) a W := by
  obtain ⟨i0, hi, hzz⟩ := Option.map_eq_some_iff.1 info5
  simp only [Prod.mk.injEq] at hzz
  obtain ⟨hz0, hz1, hz2⟩ := hzz
  have hown := Kd.own_of_R HO
  obtain ⟨v', w', hr, h2, h3, h4⟩ := Lib.run_append_own_string (P := Try.prog) W 0 27 9 o.type 5 i0 Try.underlying27 Try.underlying9 hi hz0 hz1 hz2 v xs.length _ hown y (by simp only [maxLen]; omega) hl (Nat.zero_le _)
  have hat : ∀ k, v'.ownBlock = some k → S k ∨ W.heap.size ≤ k := by
    intro k hk
    rcases hown.2 with ⟨_, h0⟩ | ⟨g, cap, cur, rfl, _, hb, h5, h6, h7, h8⟩
    · omega
    · have hSg : S g := HO.1 g rfl
      by_cases hroom : xs.length + y.size ≤ cap
      · rw [Lib.run_append_room_string W 27 9 o.type 5 i0 Try.underlying27 Try.underlying9 hi hz1 g xs.length cap cur hb y hroom (by omega)] at hr
        injection hr with hr _
        subst hr
        simp [Value.ownBlock] at hk
        subst hk
        exact .inl hSg
      · rw [Lib.run_append_grow_string W 27 9 o.type 5 i0 _ Try.underlying27 Try.underlying9 hi hz0 ⟨g, 0, none⟩ xs.length cap (encs (Value.int .u8) xs) (by rw [hz1]; simp [encs]) (fun j u hj => hown.cells (g := g) rfl j u hj) y (by omega) (by omega) (by
          rw [hz2]
          have hq := nextslicecap_le (show cap < xs.length + y.size by omega)
          omega)] at hr
        injection hr with hr _
        subst hr
        simp [Value.ownBlock] at hk
        right; omega
  have hl2 : (xs ++ bytesOf y).length = xs.length + y.size := by rw [List.length_append, bytesOf_length]
  have hR : Rb w' (fun k => S k ∨ W.heap.size ≤ k) v' (xs ++ bytesOf y) := by
    refine Kd.R_of_own ?_ hat
    have hc : encs (Value.int .u8) (xs ++ bytesOf y) = encs (Value.int .u8) xs ++ Lib.strCells y := by simp [encs, bytesOf, Lib.strCells]
    rw [hl2, hc]
    exact h2
  obtain ⟨A1, c1, rfl⟩ := Kd.R_slice hR
  refine wpList_plain hgd fun K hK => ?_
  unfold Oper.wp execOp
  simp only [ho, resolve, invoke, builtin, Sem.run_bind, Sem.run_pure, Result.andThen_ok, List.map_toArray, List.map_cons, List.map_nil, hs, hx, hr]
  exact hK _ _ (h _ A1 c1 w' ⟨rfl⟩ (R_bd hR) h3)
end
theorem Txv.two {W w1 w2 : World} {S : Nat → Prop} {g : Nat} {vb sl1 sl2 : Value} {b L1 L2 : List Int} (h : Txv W S g vb b) (hr1 : Rb w1 (fun k => (S k ∨ W.heap.size ≤ k) ∧ k < w1.heap.size) sl1 L1) (hg1 : W.grownBy w1 vb.ownBlock)
    (hr2 : Rb w2 (fun k => (((S k ∨ W.heap.size ≤ k) ∧ k < w1.heap.size) ∨ w1.heap.size ≤ k) ∧ k < w2.heap.size) sl2 L2) (hg2 : w1.grownBy w2 sl1.ownBlock) :
    (∃ S', Txv (w2.setCell ⟨g, 0, none⟩ sl2) S' g sl2 L2 ∧ Ow S S' W (w2.setCell ⟨g, 0, none⟩ sl2)) ∧ w2.cell? ⟨g, 0, none⟩ = some vb ∧ w2.frozen? ⟨g, 0, none⟩ = false := by
  obtain ⟨ib, hob⟩ := Kd.R_own h.rb
  have hne := ne_own hob h.blk (by decide)
  have hb1 : w1.heap[g]? = some (.cells #[vb] 53 (0, 0)) := blk_grown h.blk hg1 hne
  obtain ⟨ib1, hob1⟩ := Kd.R_own hr1
  have hne1 := ne_own hob1 hb1 (by decide)
  have hsz := hg1.size
  have f : Fr (fun k => S k ∧ k ≠ g) W w2 := ⟨hg2.os.trans hg1.os, hg2.tape.trans hg1.tape, hg2.output.trans hg1.output, Nat.le_trans hg1.size hg2.size, fun i hi hn => by
    have e1 : some i ≠ vb.ownBlock := fun e => hn ⟨h.rb.1 i e.symm, fun e2 => hne (e2 ▸ e)⟩
    have e2 : some i ≠ sl1.ownBlock := fun e => by
      have h1 := (hr1.1 i e.symm).1
      rcases h1 with h1 | h1
      · exact hn ⟨h1, fun e2 => hne1 (e2 ▸ e)⟩
      · omega
    exact (hg2.block i (by omega) e2).trans (hg1.block i hi e1)⟩
  refine ⟨h.setB (Kd.R_mono hr2 (fun k hk => ⟨?_, hk.2⟩)) f, h.atB f⟩
  rcases hk.1 with h1 | h1
  · exact h1.1
  · right; omega
theorem toList_len (s : ByteArray) : s.toList.length = s.size := by rw [ByteArray.toList_eq, Array.length_toList]; rfl
theorem isE_true (s : ByteArray) (h : s.size = 0) : s.toList.isEmpty = true := by rw [List.isEmpty_iff_length_eq_zero, toList_len, h]
theorem isE_false (s : ByteArray) (h : ¬ s.size = 0) : s.toList.isEmpty = false := by
  cases h2 : s.toList.isEmpty with
  | false => rfl
  | true => rw [List.isEmpty_iff_length_eq_zero, toList_len] at h2; exact absurd h2 h
set_option maxRecDepth 100000 in
set_option maxHeartbeats 4000000 in
theorem add_calls {S : Nat → Prop} {g : Nat} {b : List Int} (s : ByteArray) (w : World) (h : Tx w S g b) (hn : 0 < b.length) (hz : b.length + s.size < 35184372088832) :
    Calls Try.prog 24 #[.pointer (some ⟨g, 0, none⟩), .string s] w fun e w' => e = .returned (.int .u32 (addS b s).1) ∧ ∃ S', Tx w' S' g (addS b s).2 ∧ Ow S S' w w' := by
  unfold addS
  by_cases c : s.size = 0
  · rw [if_pos c]
    have hO := Aside0.mk (And.intro h (Ow.refl h.lt))
    have c1 := isE_true s c
    clear h c
    go_enter Try.func24, Try.ntmps24
    go_wp2
    go_ret
    exact ⟨rfl, S, hO.out.1, hO.out.2⟩
  · rw [if_neg c]
    have c1 := isE_false s c
    obtain ⟨vb, hV⟩ := h
    obtain ⟨A, cb, rfl⟩ := Kd.R_slice hV.rb
    have hc0 := hV.at0.1
    have HV := Aside0.mk hV
    have HN := Aside0.mk hn
    have HZ := Aside0.mk hz
    clear hV hn hz c
    go_enter Try.func24, Try.ntmps24
    go_wp2_with (first | ((with_reducible refine gate_builtin (b := .append) (xs := #[.tmp 17, .tmp 18]) rfl ?_); at_builtin; refine ev_str rfl (.tmp 17) (.tmp 18) rfl (.slice A b.length cb) b s S rfl rfl HN.out HV.out.rb (by have := HZ.out; omega) ?_; intro L1 A3 c3 w3 hL1 hr1 hg1; have HR1 := Aside0.mk hr1; have HG1 := Aside0.mk hg1; have HLL : Aside0 (L1.length = b.length + s.size) := ⟨by rw [hL1.out, List.length_append, bytesOf_length]⟩; clear hr1 hg1) | ((with_reducible refine gate_builtin (b := .append) (xs := #[.tmp 19, .tmp 20]) rfl ?_); at_builtin; refine ev_one (Kd.int .u8) rfl (.tmp 19) (.tmp 20) 27 5 (.int .u8 0) 1 rfl Try.underlying27 info5 rfl (by decide) (by decide) (.slice A3 L1.length c3) L1 0 [.int .u8 0] _ rfl rfl rfl HR1.out (by have := HLL.out; have := HZ.out; omega) ?_; intro L2 A4 c4 w4 hL2 hr2 hg2; obtain ⟨⟨S', hT, hO⟩, hc4, hf4⟩ := HV.out.two HR1.out HG1.out hr2 hg2; have HT := Aside0.mk hT; have HO := Aside0.mk hO; clear hr2 hg2 hT hO))
    go_ret
    exact ⟨rfl, S', HT.out.tx (by rw [hL2.out, hL1.out]), HO.out⟩
end Go.Proofs.Ytockojajbnnbpaa.E
namespace Go.Proofs.Ytockojajbnnbpaa.E
open Go.RowKit Go.Proofs.Ytockojajbnnbpaa.Q Go.Proofs.YtockojajbnnbpaaW.PrintWords Go.Proofs.YtockojajbnnbpaaW.PrintLast Go.Proofs.YtockojajbnnbpaaW.PrintMore
set_option linter.unusedVariables false
set_option linter.unusedSimpArgs false
structure Two (w0 w : World) (S S1 S2 : Nat → Prop) : Prop where
  fr : Fr S w0 w
  n1 : ∀ k, S1 k → w0.heap.size ≤ k ∧ k < w.heap.size
  n2 : ∀ k, S2 k → (S k ∨ w0.heap.size ≤ k) ∧ k < w.heap.size
  d : ∀ k, S1 k → ¬ S2 k
theorem Two.one {w0 w w1 : World} {S S1 S2 S1' : Nat → Prop} (h : Two w0 w S S1 S2) (hS : ∀ k, S k → k < w0.heap.size) (o : Ow S1 S1' w w1) : Two w0 w1 S S1' S2 := by
  have hz := o.fr.size
  have hz0 := h.fr.size
  refine ⟨h.fr.join (o.fr.mono (fun i hi => .inr (h.n1 i hi).1)), fun k hk => ?_, fun k hk => ⟨(h.n2 k hk).1, by have := (h.n2 k hk).2; omega⟩, fun k hk h2 => ?_⟩
  · rcases (o.sub k hk).1 with h1 | h1
    · exact ⟨(h.n1 k h1).1, (o.sub k hk).2⟩
    · exact ⟨by omega, (o.sub k hk).2⟩
  · rcases (o.sub k hk).1 with h1 | h1
    · exact h.d k h1 h2
    · have := (h.n2 k h2).2; omega
theorem Two.two {w0 w w1 : World} {S S1 S2 S2' : Nat → Prop} (h : Two w0 w S S1 S2) (o : Ow S2 S2' w w1) : Two w0 w1 S S1 S2' := by
  have hz := o.fr.size
  have hz0 := h.fr.size
  refine ⟨h.fr.join (o.fr.mono (fun i hi => (h.n2 i hi).1)), fun k hk => ⟨(h.n1 k hk).1, by have := (h.n1 k hk).2; omega⟩, fun k hk => ?_, fun k hk h2 => ?_⟩
  · rcases (o.sub k hk).1 with h1 | h1
    · exact ⟨(h.n2 k h1).1, (o.sub k hk).2⟩
    · exact ⟨.inr (by omega), (o.sub k hk).2⟩
  · rcases (o.sub k h2).1 with h1 | h1
    · exact h.d k hk h1
    · have := (h.n1 k hk).2; omega
theorem Two.below {w0 w w1 : World} {S S1 S2 : Nat → Prop} (h : Two w0 w S S1 S2) (k : Below w.heap.size w w1) : Two w0 w1 S S1 S2 :=
  ⟨h.fr.trans (Fr.of_below k), fun i hi => ⟨(h.n1 i hi).1, Nat.lt_of_lt_of_le (h.n1 i hi).2 k.size⟩, fun i hi => ⟨(h.n2 i hi).1, Nat.lt_of_lt_of_le (h.n2 i hi).2 k.size⟩, h.d⟩
section
variable {ops : Array Oper} {rest : List Oper} {o : Oper} {a : Act} {Q : Exit → Act → World → Prop}
theorem ev_make {W : World} (hgd : o.guard = none) {N : Tmp} (hd : o.dst = some N) (x y : Operand) (ho : o.op = .makeSlice 27 x y) (n : Nat) (hx : a.eval x = .int .i64 n) (hy : a.eval y = .int .i64 n) (hl : n ≤ 281474976710656)
    (h : ∀ (L : List Int) (A1 : Option Addr) (c1 : Nat) w1, Aside0 (L = List.replicate n 0) → Rb w1 (fun k => W.heap.size ≤ k ∧ k < w1.heap.size) (.slice A1 L.length c1) L → Below W.heap.size W w1 → wpList Try.prog ops Q rest (a.put o.dst (.slice A1 L.length c1)) w1) : wpList Try.prog ops Q (o :: rest) a W :=
  Kd.R_make (Kd.int .u8) W.heap.size 5 hgd hd 27 x y ho n hx hy Try.underlying27 (.int .u8 0) 1 info5 rfl (by decide) (by decide) 0 (ok := fun k => W.heap.size ≤ k) (okp := fun k => W.heap.size ≤ k) rfl (fun _ hk => hk) (Nat.le_refl _) (by omega) (by omega) (Below.refl _ _) (Nat.le_refl _)
    (fun v1 w1 hr hb hg hn => by
      obtain ⟨A1, c1, rfl⟩ := Kd.R_slice hr
      exact h _ A1 c1 w1 ⟨by rw [Int.toNat_natCast]⟩ (R_bd (Kd.R_lower hr (Nat.zero_le _))) hb)
end
theorem C_lit (k : IntKind) (W : World) (l : List Int) (t : TypeId) (hl : l.length < 9223372036854775808) : Kd.C (Kd.int k) (W.alloc (.cells (encs (Value.int k) l).toArray t)) (some ⟨W.heap.size, 0, none⟩) l.length l := by
  refine ⟨rfl, by omega, fun _ => ⟨_, rfl, fun j p hj => ⟨[.int k p], rfl, rfl, fun i u hu => ?_⟩⟩⟩
  cases i with
  | succ i => simp at hu
  | zero =>
    have e : Value.int k p = u := by simpa using hu
    subst e
    have hb := heap_alloc_new W (.cells (encs (Value.int k) l).toArray t)
    have ha : (Addr.mk W.heap.size 0 none).add (j * (Kd.int k).sz + 0) = ⟨W.heap.size, j, none⟩ := by
      show (Addr.mk W.heap.size 0 none).add (j * 1 + 0) = _
      rw [Nat.mul_one, Nat.add_zero]; unfold Addr.add; split <;> simp_all
    rw [ha, blk_cell hb j, List.getElem?_toArray]
    simp [encs, hj]
theorem Wr.init {W : World} {S : Nat → Prop} {sl : Value} {L : List Int} (h : Rb W S sl L) (hS : ∀ k, S k → k < W.heap.size) : Wrv (W.alloc (.cells #[sl, .slice none 0 0] 50)) (fun k => S k ∨ k = W.heap.size) W.heap.size sl (.slice none 0 0) L [] :=
  ⟨heap_alloc_new _ _, Kd.R_mono (Kd.R_below h (below_alloc (Below.refl _ _) _)) (fun k hk => .inl hk), Kd.R_nil _ _ _ _ _, .inr rfl, fun k hk => by
    have hz : (W.alloc (.cells #[sl, .slice none 0 0] 50)).heap.size = W.heap.size + 1 := by simp
    rcases hk with h1 | h1
    · have := hS k h1; omega
    · omega⟩
theorem Tx.init {W : World} {S : Nat → Prop} {sl : Value} {L : List Int} (h : Rb W S sl L) (hS : ∀ k, S k → k < W.heap.size) : Txv (W.alloc (.cells #[sl] 53)) (fun k => S k ∨ k = W.heap.size) W.heap.size sl L :=
  ⟨heap_alloc_new _ _, Kd.R_mono (Kd.R_below h (below_alloc (Below.refl _ _) _)) (fun k hk => .inl hk), .inr rfl, fun k hk => by
    have hz : (W.alloc (.cells #[sl] 53)).heap.size = W.heap.size + 1 := by simp
    rcases hk with h1 | h1
    · have := hS k h1; omega
    · omega⟩
structure Ys (w0 W : World) (S S1 S2 : Nat → Prop) (gw g : Nat) (b own : List Int) : Prop where
  w : Wr W S1 gw b []
  t : Tx W S2 g own
  s : Two w0 W S S1 S2
theorem Ys.below {w0 W w1 : World} {S S1 S2 : Nat → Prop} {gw g : Nat} {b own : List Int} (h : Ys w0 W S S1 S2 gw g b own) (k : Below W.heap.size W w1) : Ys w0 w1 S S1 S2 gw g b own := ⟨h.w.below k, h.t.below k, h.s.below k⟩
theorem add_ys {w0 W : World} {S S1 S2 : Nat → Prop} {gw g : Nat} {b own : List Int} (s : ByteArray) (h : Ys w0 W S S1 S2 gw g b own) (hn : 0 < own.length) (hz : own.length + s.size < 35184372088832) :
    Calls Try.prog 24 #[.pointer (some ⟨g, 0, none⟩), .string s] W fun e w' => e = .returned (.int .u32 (addS own s).1) ∧ ∃ S2', Ys w0 w' S S1 S2' gw g b (addS own s).2 ∧ Fr S2 W w' :=
  (add_calls s W h.t hn hz).mono fun e w' ⟨he, S2', ht, ho⟩ => ⟨he, S2', ⟨h.w.fr ho.fr h.s.d, ht, h.s.two ho⟩, ho.fr⟩
theorem word_ys {w0 W : World} {S S1 S2 : Nat → Prop} {gw g : Nat} {b own : List Int} {A : Option Addr} {c : Nat} (l : List Int) (hS : ∀ k, S k → k < w0.heap.size) (h : Ys w0 W S S1 S2 gw g b own) (hl : Kd.C (Kd.int .u32) W A l.length l) (hA : ∀ ad, A = some ad → ¬ S1 ad.block) (hr : ∀ x ∈ l, 0 ≤ x ∧ x < 4294967296) (hz : b.length + 4 * l.length < 70368744177664) :
    Calls Try.prog 26 #[.pointer (some ⟨gw, 0, none⟩), .slice A l.length c] W fun e w' => e = .returned (.tuple #[]) ∧ ∃ S1', Ys w0 w' S S1' S2 gw g (b ++ l.flatMap le4) own ∧ Fr S1 W w' :=
  (word_calls l W h.w hl hA hr hz).mono fun e w' ⟨he, S1', hw, ho⟩ => ⟨he, S1', ⟨hw, h.t.fr ho.fr (fun k hk h2 => h.s.d k h2 hk), h.s.one hS ho⟩, ho.fr⟩
def symV (x : S94) : Value := .agg #[.string x.f0, .int .u32 x.f1, .int .u32 x.f2, .int .u8 x.f3, .int .u8 x.f4, .bool x.f5, .int .i64 x.f6]
def SymRg (x : S94) : Prop := (0 ≤ x.f1 ∧ x.f1 < 4294967296) ∧ (0 ≤ x.f2 ∧ x.f2 < 4294967296) ∧ (0 ≤ x.f3 ∧ x.f3 ≤ 255) ∧ (0 ≤ x.f4 ∧ x.f4 ≤ 255)
theorem in_is (n : Int) (h0 : -3 ≤ n) (h1 : n < 65000) : elf_in.f n = some (inS n) := by
  unfold elf_in.f inS
  by_cases a : n = -1
  · rw [if_pos a, if_pos a]
  rw [if_neg a, if_neg a]
  by_cases b : n = -2
  · rw [if_pos b, if_pos b]
  rw [if_neg b, if_neg b]
  by_cases c : n = -3
  · rw [if_pos c, if_pos c]
  rw [if_neg c, if_neg c]
  have : wrap64 (n + 1) % 4294967296 = n + 1 := by unfold wrap64; omega
  rw [this]
theorem symStep_at (l : List S94) (i : Nat) (x : S94) (h : l[i]? = some x) (s : Yst) : (l.take (i + 1)).foldl symStep s = symStep ((l.take i).foldl symStep s) x := by
  obtain ⟨hl, rfl⟩ := List.getElem?_eq_some_iff.1 h
  rw [List.take_succ_eq_append_getElem hl, List.foldl_append]
  rfl
theorem symB_len (l : List S94) (s : Yst) : (l.foldl symStep s).b.length = s.b.length + 16 * l.length := by
  induction l generalizing s with
  | nil => rfl
  | cons x t ih =>
    rw [List.foldl_cons, ih]
    simp [symStep, le4_len]
    omega
theorem addS_len (t : List Int) (x : ByteArray) (h : x.size ≤ 64) : (addS t x).2.length ≤ t.length + 65 ∧ t.length ≤ (addS t x).2.length := by
  unfold addS
  split
  · exact ⟨by simp, Nat.le_refl _⟩
  · simp [bytesOf_length]; omega
theorem symO_len (l : List S94) (h : ∀ x ∈ l, x.f0.size ≤ 64) (s : Yst) : (l.foldl symStep s).own.length ≤ s.own.length + 65 * l.length ∧ s.own.length ≤ (l.foldl symStep s).own.length := by
  induction l generalizing s with
  | nil => exact ⟨by simp, by simp⟩
  | cons x t ih =>
    have h1 := addS_len s.own x.f0 (h x List.mem_cons_self)
    have h2 := ih (fun y hy => h y (List.mem_cons_of_mem _ hy)) (symStep s x)
    rw [List.foldl_cons, List.length_cons]
    have : (symStep s x).own.length = (addS s.own x.f0).2.length := rfl
    omega
theorem word4_ys {w0 W : World} {S S1 S2 : Nat → Prop} {gw g : Nat} {b own : List Int} (x y z u u1 : Int) (he : u1 = u) (hS : ∀ k, S k → k < w0.heap.size) (h : Ys w0 W S S1 S2 gw g b own) (hx : 0 ≤ x ∧ x < 4294967296) (hy : 0 ≤ y ∧ y < 4294967296) (hz : 0 ≤ z ∧ z < 4294967296) (hu : 0 ≤ u ∧ u < 4294967296) (hl : b.length < 35184372088832) :
    Calls Try.prog 26 #[.pointer (some ⟨gw, 0, none⟩), .slice (some ⟨W.heap.size, 0, none⟩) 4 4] (W.alloc (.cells #[.int .u32 x, .int .u32 y, .int .u32 z, .int .u32 u1] 38)) fun e w' => e = .returned (.tuple #[]) ∧ ∃ S1', Ys w0 w' S S1' S2 gw g (b ++ (le4 x ++ le4 y ++ le4 z ++ le4 u)) own ∧ Fr S1 (W.alloc (.cells #[.int .u32 x, .int .u32 y, .int .u32 z, .int .u32 u1] 38)) w' := by
  subst he
  have hal := below_alloc (Below.refl W.heap.size W) (.cells #[.int .u32 x, .int .u32 y, .int .u32 z, .int .u32 u1] 38)
  have hC := C_lit .u32 W [x, y, z, u1] 38 (by simp)
  have hw := h.w.lt
  refine (word_ys (c := 4) [x, y, z, u1] hS (h.below hal) hC (fun ad e hk => ?_) (fun v hv => ?_) (by simp; omega)).mono fun e w' ⟨he, S1', hy', hf⟩ => ⟨he, S1', ?_, hf⟩
  · cases e
    have := hw _ hk
    exact Nat.lt_irrefl _ this
  · simp only [List.mem_cons, List.not_mem_nil, or_false] at hv
    rcases hv with rfl | rfl | rfl | rfl <;> assumption
  · simpa using hy'
theorem keep7 {W W2 : World} {p : Nat} {v0 v1 v2 v3 v4 v5 v6 : Value} (hb : p < W.heap.size → W2.heap[p]? = W.heap[p]?) (h : W.cell? ⟨p, 0, none⟩ = some v0 ∧ W.cell? ⟨p, 1, none⟩ = some v1 ∧ W.cell? ⟨p, 2, none⟩ = some v2 ∧ W.cell? ⟨p, 3, none⟩ = some v3 ∧ W.cell? ⟨p, 4, none⟩ = some v4 ∧ W.cell? ⟨p, 5, none⟩ = some v5 ∧ W.cell? ⟨p, 6, none⟩ = some v6) :
    W2.cell? ⟨p, 0, none⟩ = some v0 ∧ W2.cell? ⟨p, 1, none⟩ = some v1 ∧ W2.cell? ⟨p, 2, none⟩ = some v2 ∧ W2.cell? ⟨p, 3, none⟩ = some v3 ∧ W2.cell? ⟨p, 4, none⟩ = some v4 ∧ W2.cell? ⟨p, 5, none⟩ = some v5 ∧ W2.cell? ⟨p, 6, none⟩ = some v6 := by
  obtain ⟨h0, h1, h2, h3, h4, h5, h6⟩ := h
  have hc : ∀ i u, W.cell? ⟨p, i, none⟩ = some u → W2.cell? ⟨p, i, none⟩ = some u := fun i u hu => (World.cell?_of_block (a := ⟨p, i, none⟩) (hb (World.block_lt_of_cell? _ _ h0))).trans hu
  exact ⟨hc _ _ h0, hc _ _ h1, hc _ _ h2, hc _ _ h3, hc _ _ h4, hc _ _ h5, hc _ _ h6⟩
theorem keepF {T : Nat → Prop} {W W2 : World} {p : Nat} (f : Fr T W W2) (hn : ¬ T p) : p < W.heap.size → W2.heap[p]? = W.heap[p]? := fun h => f.block p h hn
theorem keepB {W W2 : World} {p : Nat} (f : Below W.heap.size W W2) : p < W.heap.size → W2.heap[p]? = W.heap[p]? := fun h => f.block p h
theorem keepD {W : World} {p : Nat} : p < W.heap.size → W.drew.heap[p]? = W.heap[p]? := fun h => rfl
theorem keepA {W : World} {p : Nat} (o : Obj) : p < W.heap.size → (W.alloc o).heap[p]? = W.heap[p]? := fun h => heap_alloc_old _ _ h
theorem in61_calls (n : Int) (h0 : -3 ≤ n) (h1 : n < 65000) (w : World) : Calls Try.prog 61 #[.int .i64 n] w fun e w' => e = .returned (.int .u32 (inS n)) ∧ Below w.heap.size w w' :=
  (elf_in.calls n _ w (in_is n h0 h1)).mono fun e w' ⟨he, hd⟩ => ⟨he, hd.below⟩
theorem u32w (n : Int) : IntKind.u32.wrap n = n % 4294967296 := by simp [IntKind.wrap, IntKind.bits, IntKind.signed]
theorem wraps_u32 (n : Int) (h₀ : 0 ≤ n) (h₁ : n < 2 ^ 32) : IntKind.u32.wrap n = n := by rw [u32w]; omega
theorem or_hi (i : Nat) (x y : Int) (x0 : 0 ≤ x) (hx : x % 2 ^ i = 0) (x1 : x < 4294967296) (y0 : 0 ≤ y) (y1 : y < 2 ^ i) (y2 : y < 4294967296) : bits .or .u32 x y = x + y :=
  bits_join .u32 32 (by decide) wraps_u32 i x y x0 hx (by omega) y0 y1 (by omega)
theorem or_lo (i : Nat) (x y : Int) (x0 : 0 ≤ x) (hx : x % 2 ^ i = 0) (x1 : x < 4294967296) (y0 : 0 ≤ y) (y1 : y < 2 ^ i) (y2 : y < 4294967296) : bits .or .u32 y x = y + x :=
  bits_join_low .u32 32 (by decide) wraps_u32 i y x y0 y1 (by omega) x0 hx (by omega)
theorem inS_rg (n : Int) (h0 : -3 ≤ n) (h1 : n < 65000) : 0 ≤ inS n ∧ inS n < 65536 := by
  unfold inS
  by_cases a : n = -1
  · rw [if_pos a]; omega
  rw [if_neg a]
  by_cases b : n = -2
  · rw [if_pos b]; omega
  rw [if_neg b]
  by_cases c : n = -3
  · rw [if_pos c]; omega
  rw [if_neg c]; omega
theorem info_is (y3 y4 h y6 : Int) (a0 : 0 ≤ y3) (a1 : y3 ≤ 2) (b0 : 0 ≤ y4) (b1 : y4 ≤ 3) (hh : h = 0 ∨ h = 512) (c0 : -3 ≤ y6) (c1 : y6 < 64) :
    bits .or .u32 (bits .or .u32 (bits .or .u32 (IntKind.u32.wrap (IntKind.u32.wrap y3 * 16)) (IntKind.u32.wrap y4)) (IntKind.u32.wrap h)) (IntKind.u32.wrap (inS y6 * 65536)) = 16 * y3 + y4 + h + 65536 * inS y6 := by
  have hi := inS_rg y6 c0 (by omega)
  simp only [u32w]
  rw [show y3 % 4294967296 * 16 % 4294967296 = 16 * y3 by omega, show y4 % 4294967296 = y4 by omega, show h % 4294967296 = h by omega, show inS y6 * 65536 % 4294967296 = 65536 * inS y6 by omega]
  rw [or_hi 4 _ _ (by omega) (by omega) (by omega) b0 (by omega) (by omega), or_lo 8 h (16 * y3 + y4) (by omega) (by rcases hh with rfl | rfl <;> decide) (by omega) (by omega) (by omega) (by omega),
    or_lo 16 _ _ (by omega) (by omega) (by omega) (by omega) (by omega) (by omega)]
theorem symL_le (l : List S94) (s : Yst) : s.loc ≤ (l.foldl symStep s).loc ∧ (l.foldl symStep s).loc ≤ s.loc + l.length := by
  induction l generalizing s with
  | nil => exact ⟨Int.le_refl _, by simp⟩
  | cons x t ih =>
    have h := ih (symStep s x)
    have h2 : (symStep s x).loc = s.loc + 1 ∨ (symStep s x).loc = s.loc := by
      unfold symStep
      by_cases c : x.f3 = 0
      · left; simp only [c, if_true]
      · right; simp only [c, if_false]
    rw [List.foldl_cons, List.length_cons]
    omega
end Go.Proofs.Ytockojajbnnbpaa.E
namespace Go.Proofs.Ytockojajbnnbpaa.E
open Go.RowKit Go.Proofs.Ytockojajbnnbpaa.Q Go.Proofs.YtockojajbnnbpaaW.PrintWords Go.Proofs.YtockojajbnnbpaaW.PrintLast Go.Proofs.YtockojajbnnbpaaW.PrintMore
set_option linter.unusedVariables false
set_option linter.unusedSimpArgs false
def Chars (s : ByteArray) (i : Nat) : Prop := ∀ j : Nat, i ≤ j → j < s.size → 33 ≤ bt s (j : Int) ∧ bt s (j : Int) ≤ 126
theorem chars_name (s : ByteArray) : Chars s 0 ↔ ∀ c ∈ bytesOf s, 33 ≤ c ∧ c ≤ 126 := by
  constructor
  · intro h c hc
    obtain ⟨j, hj, rfl⟩ := List.mem_iff_getElem.1 hc
    have h2 := h j (Nat.zero_le _) (by rw [bytesOf_length] at hj; exact hj)
    rw [← rd_bytesOf, rd_get _ _ hj] at h2
    exact h2
  · intro h j _ hj
    rw [← rd_bytesOf, rd_get _ _ (by rw [bytesOf_length]; exact hj)]
    exact h _ (List.getElem_mem _)
theorem name_loop (s : ByteArray) (hs : s.size < 9223372036854775808) (d : Nat) : ∀ (k i : Nat), i + d = s.size → d < k → ∃ r, elf_name.l0 k s (s.size : Int) (i : Int) = some r ∧ (r = true ↔ Chars s i ∧ s.size ≤ 64) := by
  induction d with
  | zero =>
    intro k i h1 hk
    obtain ⟨k, rfl⟩ : ∃ m, k = m + 1 := ⟨k - 1, by omega⟩
    simp only [elf_name.l0]
    rw [if_neg (by omega)]
    refine ⟨_, rfl, ?_⟩
    rw [decide_eq_true_eq]
    exact ⟨fun h => ⟨fun j h1 h2 => by omega, by omega⟩, fun h => by omega⟩
  | succ d ih =>
    intro k i h1 hk
    obtain ⟨k, rfl⟩ : ∃ m, k = m + 1 := ⟨k - 1, by omega⟩
    simp only [elf_name.l0]
    rw [if_pos (by omega), if_pos (by omega), if_pos (by omega)]
    by_cases c1 : bt s (i : Int) < 33
    · rw [if_pos c1]
      exact ⟨_, rfl, by simp; intro h; have := h i (Nat.le_refl _) (by omega); omega⟩
    by_cases c2 : bt s (i : Int) > 126
    · rw [if_neg c1, if_pos c2]
      exact ⟨_, rfl, by simp; intro h; have := h i (Nat.le_refl _) (by omega); omega⟩
    rw [if_neg c1, if_neg c2, show wrap64 ((i : Int) + 1) = ((i + 1 : Nat) : Int) by unfold wrap64; omega]
    obtain ⟨r, e, hr⟩ := ih k (i + 1) (by omega) (by omega)
    refine ⟨r, e, hr.trans (and_congr_left fun _ => ⟨fun h j h1 h2 => ?_, fun h j h1 h2 => h j (by omega) h2⟩)⟩
    by_cases e2 : j = i
    · subst e2; omega
    · exact h j (by omega) h2
theorem name_is (s : ByteArray) (hs : s.size < 9223372036854775808) (k : Nat) (hk : s.size < k) : ∃ r, elf_name.f k s = some r ∧ (r = true ↔ NameP s) := by
  obtain ⟨r, e, hr⟩ := name_loop s hs s.size k 0 (by omega) hk
  exact ⟨r, e, hr.trans (and_congr_left fun _ => chars_name s)⟩
theorem pow_bits : ∀ n : Fin 257, (0 < n.val) → ((Go.bits .and .u32 (n.val : Int) (((n.val : Int) - 1) % 4294967296) == 0) = decide (PowP (n.val : Int))) := by decide +kernel
theorem pow_is (n : Int) (h0 : 0 < n) (h1 : n ≤ 256) : Go.bits .and .u32 n ((n - 1) % 4294967296) = 0 ↔ PowP n := by
  have h := pow_bits ⟨n.toNat, by omega⟩ (by show 0 < n.toNat; omega)
  simp only [show ((n.toNat : Nat) : Int) = n by omega] at h
  rw [← beq_iff_eq, h, decide_eq_true_eq]
def SecRg (x : S40) : Prop := x.f0.size < 9223372036854775808 ∧ (0 ≤ x.f1 ∧ x.f1 < 4294967296) ∧ (0 ≤ x.f2 ∧ x.f2 < 4294967296) ∧ (0 ≤ x.f3 ∧ x.f3 < 4294967296) ∧ (0 ≤ x.f4 ∧ x.f4 < 4294967296) ∧ AllBytes x.f5 ∧ x.f5.length < 9223372036854775808
theorem powP_le {n : Int} (h : PowP n) : 0 < n ∧ n ≤ 256 := by unfold PowP at h; omega
theorem lenEq (n : Nat) (m : Int) (hn : n < 9223372036854775808) (h0 : 0 ≤ m) (h1 : m < 4294967296) : (IntKind.u64.wrap (n : Int) == IntKind.u64.wrap m) = true ↔ (n : Int) = m := by
  rw [u64id _ (by omega) (by omega), u64id _ (by omega) (by omega), beq_iff_eq]
theorem section_is (x : S40) (hr : SecRg x) (k : Nat) (hk : x.f0.size < k) : ∃ r, elf_section.f k x.f0 x.f1 x.f2 x.f3 x.f4 x.f5 = some r ∧ (r = true ↔ SecP x) := by
  obtain ⟨hs, hr1, hr2, hr3, hr4, hr5, hr6⟩ := hr
  obtain ⟨k, rfl⟩ : ∃ m, k = m + 1 := ⟨k - 1, by omega⟩
  obtain ⟨r, e, hn⟩ := name_is x.f0 hs (k + 1) hk
  unfold elf_section.f SecP
  simp only [e, Option.bind_some, elf_section.j0]
  by_cases c1 : r = true
  · have hN := hn.1 c1
    rw [if_pos c1]
    by_cases c2 : x.f2 > 7
    · rw [if_pos c2, if_pos (decide_eq_true c2)]
      exact ⟨_, rfl, by simp; intro _ h; omega⟩
    rw [if_neg c2]
    by_cases c3 : x.f3 = 0
    · rw [if_pos c3, if_pos (by simpa using c3)]
      exact ⟨_, rfl, by simp; intro _ _ h; have := powP_le h; omega⟩
    rw [if_neg c3]
    by_cases c4 : x.f3 > 256
    · rw [if_pos c4, if_pos (decide_eq_true c4)]
      exact ⟨_, rfl, by simp; intro _ _ h; have := powP_le h; omega⟩
    rw [if_neg c4]
    have hp := pow_is x.f3 (by omega) (by omega)
    by_cases c5 : PowP x.f3
    · rw [if_neg (by rw [bne_iff_ne]; exact fun h => h (hp.2 c5))]
      by_cases c6 : x.f1 = 1
      · rw [if_pos c6]
        refine ⟨_, rfl, (lenEq _ _ hr6 hr4.1 hr4.2).trans ⟨fun h => ⟨hN, by omega, c5, .inl ⟨c6, h⟩⟩, fun h => ?_⟩⟩
        rcases h.2.2.2 with h | h
        · exact h.2
        · omega
      rw [if_neg c6]
      by_cases c7 : x.f1 = 8
      · rw [if_pos c7]
        refine ⟨_, rfl, ?_⟩
        rw [beq_iff_eq]
        refine ⟨fun h => ⟨hN, by omega, c5, .inr ⟨c7, List.eq_nil_of_length_eq_zero (by omega)⟩⟩, fun h => ?_⟩
        rcases h.2.2.2 with h | h
        · omega
        · rw [h.2]; rfl
      rw [if_neg c7]
      exact ⟨_, rfl, by simp; intro _ _ _; exact ⟨fun h => absurd h c6, fun h => absurd h c7⟩⟩
    · rw [if_pos (by rw [bne_iff_ne]; exact fun h => c5 (hp.1 h))]
      exact ⟨_, rfl, by simp; intro _ _ h; exact absurd h c5⟩
  · have c1' : r = false := by simpa using c1
    subst c1'
    rw [if_neg c1, if_pos (by rfl)]
    exact ⟨_, rfl, by simp; intro h; exact absurd (hn.2 h) c1⟩
theorem symbol_is (x : S94) (hs : x.f0.size < 9223372036854775808) (n : Nat) (k : Nat) (hk : x.f0.size < k) : ∃ r, elf_symbol.f k x.f0 x.f1 x.f2 x.f3 x.f4 x.f5 x.f6 (n : Int) = some r ∧ (r = true ↔ SymP n x) := by
  obtain ⟨r, e, hn⟩ := name_is x.f0 hs k hk
  unfold elf_symbol.f SymP
  simp only [e, Option.bind_some]
  by_cases c1 : r = true
  · rw [if_pos c1]
    by_cases c2 : x.f3 ≤ 2
    · rw [if_pos c2]
      by_cases c3 : x.f4 ≤ 3
      · rw [if_pos c3]
        by_cases c4 : x.f6 ≥ -3
        · rw [if_pos c4]
          exact ⟨_, rfl, by rw [decide_eq_true_eq]; exact ⟨fun h => ⟨hn.1 c1, c2, c3, c4, h⟩, fun h => h.2.2.2.2⟩⟩
        · rw [if_neg c4]
          exact ⟨_, rfl, by simp; intro _ _ _ h; omega⟩
      · rw [if_neg c3]
        exact ⟨_, rfl, by simp; intro _ _ h; omega⟩
    · rw [if_neg c2]
      exact ⟨_, rfl, by simp; intro _ h; omega⟩
  · rw [if_neg c1]
    exact ⟨_, rfl, by simp; intro h; exact absurd (hn.2 h) c1⟩
end Go.Proofs.Ytockojajbnnbpaa.E
namespace Go.Proofs.Ytockojajbnnbpaa.E
open Go.RowKit Go.Proofs.Ytockojajbnnbpaa.Q Go.Proofs.YtockojajbnnbpaaW.PrintWords Go.Proofs.YtockojajbnnbpaaW.PrintLast Go.Proofs.YtockojajbnnbpaaW.PrintMore
set_option linter.unusedVariables false
set_option linter.unusedSimpArgs false
theorem rd40_get (l : List S40) (i : Nat) (h : i < l.length) : rd_T40 l (i : Int) = l[i] := by
  unfold rd_T40
  rw [Int.toNat_natCast, List.getD_eq_getElem?_getD, List.getElem?_eq_getElem h]
  rfl
theorem sumS_snoc (l : List S40) (i : Nat) (h : i < l.length) : sumS (l.take (i + 1)) = (sumS (l.take i) + (rd_T40 l (i : Int)).f4) % 18446744073709551616 := by
  unfold sumS
  rw [List.take_succ_eq_append_getElem h, List.foldl_append, rd40_get l i h]
  rfl
theorem u64w (n : Int) : IntKind.u64.wrap n = n % 18446744073709551616 := by simp [IntKind.wrap, IntKind.bits, IntKind.signed]
theorem limits_loop (o : Ob) (hl : o.secs.length < 9223372036854775808) (hr : ∀ x ∈ o.secs, 0 ≤ x.f4 ∧ x.f4 < 4294967296) (d : Nat) : ∀ (k i : Nat), i + d = o.secs.length → d < k →
    ∃ r, elf_limits.l0 k (sumS (o.secs.take i)) o.secs (o.secs.length : Int) (i : Int) o.secs o.syms o.rels = some r ∧ (r = true ↔ LimP o) := by
  induction d with
  | zero =>
    intro k i h1 hk
    obtain ⟨k, rfl⟩ : ∃ m, k = m + 1 := ⟨k - 1, by omega⟩
    simp only [elf_limits.l0]
    rw [if_neg (by omega), List.take_of_length_le (by omega)]
    unfold LimP
    by_cases c1 : (o.secs.length : Int) ≤ 64
    · rw [if_pos c1]
      by_cases c2 : (o.syms.length : Int) ≤ 512
      · rw [if_pos c2]
        by_cases c3 : (o.rels.length : Int) ≤ 1024
        · rw [if_pos c3]
          exact ⟨_, rfl, by rw [decide_eq_true_eq]; exact ⟨fun h => ⟨by omega, by omega, by omega, h⟩, fun h => h.2.2.2⟩⟩
        · rw [if_neg c3]
          exact ⟨_, rfl, ⟨fun h => (by cases h), fun h => (by omega)⟩⟩
      · rw [if_neg c2]
        exact ⟨_, rfl, ⟨fun h => (by cases h), fun h => (by omega)⟩⟩
    · rw [if_neg c1]
      exact ⟨_, rfl, ⟨fun h => (by cases h), fun h => (by omega)⟩⟩
  | succ d ih =>
    intro k i h1 hk
    obtain ⟨k, rfl⟩ : ∃ m, k = m + 1 := ⟨k - 1, by omega⟩
    have hx := hr (rd_T40 o.secs (i : Int)) (by rw [rd40_get _ _ (by omega)]; exact List.getElem_mem _)
    simp only [elf_limits.l0]
    rw [if_pos (by omega), if_pos (by omega), if_pos (by omega), show wrap64 ((i : Int) + 1) = ((i + 1 : Nat) : Int) by unfold wrap64; omega, u64id _ hx.1 (by omega), u64w, ← sumS_snoc _ _ (by omega)]
    exact ih k (i + 1) (by omega) (by omega)
theorem limits_is (o : Ob) (hl : o.secs.length < 9223372036854775808) (hr : ∀ x ∈ o.secs, 0 ≤ x.f4 ∧ x.f4 < 4294967296) (k : Nat) (hk : o.secs.length < k) : ∃ r, elf_limits.f k o.secs o.syms o.rels = some r ∧ (r = true ↔ LimP o) := by
  unfold elf_limits.f
  exact limits_loop o hl hr o.secs.length k 0 (by omega) hk
structure ObRg (o : Ob) : Prop where
  secs : ∀ x ∈ o.secs, SecRg x
  syms : ∀ x ∈ o.syms, SymRg x ∧ x.f0.size < 9223372036854775808
  rels : ∀ x ∈ o.rels, (0 ≤ x.f1 ∧ x.f1 < 4294967296) ∧ (0 ≤ x.f2 ∧ x.f2 ≤ 255) ∧ (-9223372036854775808 ≤ x.f3 ∧ x.f3 ≤ 9223372036854775807)
  n0 : o.secs.length < 9223372036854775808
  n1 : o.syms.length < 9223372036854775808
  n2 : o.rels.length < 9223372036854775808
structure ObC (w : World) (A0 A1 A2 : Option Addr) (c0 c1 c2 : Nat) (o : Ob) : Prop where
  r0 : Kd.C k40 w A0 o.secs.length o.secs
  r1 : Kd.C k94 w A1 o.syms.length o.syms
  r2 : Kd.C k59 w A2 o.rels.length o.rels
  l0 : o.secs.length ≤ c0
  l1 : o.syms.length ≤ c1
  l2 : o.rels.length ≤ c2
theorem ObC.below {w w1 : World} {A0 A1 A2 : Option Addr} {c0 c1 c2 : Nat} {o : Ob} (h : ObC w A0 A1 A2 c0 c1 c2 o) (k : Below w.heap.size w w1) : ObC w1 A0 A1 A2 c0 c1 c2 o :=
  ⟨Kd.C_below h.r0 k, Kd.C_below h.r1 k, Kd.C_below h.r2 k, h.l0, h.l1, h.l2⟩
def obV (A0 A1 A2 : Option Addr) (c0 c1 c2 : Nat) (o : Ob) : Value := .agg #[.slice A0 o.secs.length c0, .slice A1 o.syms.length c1, .slice A2 o.rels.length c2]
section
variable {A0 A1 A2 : Option Addr} {c0 c1 c2 : Nat} {o : Ob}
theorem limits_calls (hg : ObRg o) (w : World) (h : ObC w A0 A1 A2 c0 c1 c2 o) : Calls Try.prog 36 #[obV A0 A1 A2 c0 c1 c2 o] w fun e w' => ∃ r, e = .returned (.bool r) ∧ (r = true ↔ LimP o) ∧ Below w.heap.size w w' := by
  obtain ⟨r, e, hr⟩ := limits_is o hg.n0 (fun x hx => (hg.secs x hx).2.2.2.2.1) (o.secs.length + 1) (by omega)
  exact (elf_limits.calls _ A0 c0 o.secs A1 c1 o.syms A2 c2 o.rels r w h.r0 h.l0 h.r1 h.l1 h.r2 h.l2 e).mono fun e w' ⟨he, hb⟩ => ⟨r, he, hr, hb⟩
end
theorem section_calls (x : S40) (hg : SecRg x) (A : Option Addr) (c : Nat) (w : World) (h : Kd.C (Kd.int .u8) w A x.f5.length x.f5) (hc : x.f5.length ≤ c) :
    Calls Try.prog 51 #[.agg #[.string x.f0, .int .u32 x.f1, .int .u32 x.f2, .int .u32 x.f3, .int .u32 x.f4, .slice A x.f5.length c]] w fun e w' => ∃ r, e = .returned (.bool r) ∧ (r = true ↔ SecP x) ∧ Below w.heap.size w w' := by
  obtain ⟨r, e, hr⟩ := section_is x hg (x.f0.size + 1) (by omega)
  exact (elf_section.calls _ x.f0 x.f1 x.f2 x.f3 x.f4 A c x.f5 r w h hc e).mono fun e w' ⟨he, hb⟩ => ⟨r, he, hr, hb⟩
theorem symbol_calls (x : S94) (hs : x.f0.size < 9223372036854775808) (n : Nat) (w : World) :
    Calls Try.prog 52 #[.agg #[.string x.f0, .int .u32 x.f1, .int .u32 x.f2, .int .u8 x.f3, .int .u8 x.f4, .bool x.f5, .int .i64 x.f6], .int .i64 (n : Int)] w fun e w' => ∃ r, e = .returned (.bool r) ∧ (r = true ↔ SymP n x) ∧ Below w.heap.size w w' := by
  obtain ⟨r, e, hr⟩ := symbol_is x hs n (x.f0.size + 1) (by omega)
  exact (elf_symbol.calls _ x.f0 x.f1 x.f2 x.f3 x.f4 x.f5 x.f6 (n : Int) r w e).mono fun e w' ⟨he, hb⟩ => ⟨r, he, hr, hb⟩
theorem name_calls (s : ByteArray) (hs : s.size < 9223372036854775808) (w : World) : Calls Try.prog 86 #[.string s] w fun e w' => ∃ r, e = .returned (.bool r) ∧ (r = true ↔ NameP s) ∧ Below w.heap.size w w' := by
  obtain ⟨r, e, hr⟩ := name_is s hs (s.size + 1) (by omega)
  exact (elf_name.calls _ s r w e).mono fun e w' ⟨he, hb⟩ => ⟨r, he, hr, hb.below⟩
end Go.Proofs.Ytockojajbnnbpaa.E
namespace Go.Proofs.Ytockojajbnnbpaa.E
open Go.RowKit Go.Proofs.Ytockojajbnnbpaa.Q Go.Proofs.YtockojajbnnbpaaW.PrintWords
set_option linter.unusedVariables false
set_option linter.unusedSimpArgs false
theorem pad4_len (l : List Int) : l.length ≤ (pad4 l).length ∧ (pad4 l).length ≤ l.length + 3 := by
  unfold pad4
  rw [List.length_append, List.length_replicate]
  omega
theorem p1_partS_len (s : Wst) (r : S47) (x : List Int) : s.b.length + x.length ≤ (partS s r x).b.length ∧ (partS s r x).b.length ≤ s.b.length + x.length + 3 ∧ (partS s r x).rows.length = s.rows.length + 1 := by
  have h := pad4_len (s.b ++ x)
  rw [List.length_append] at h
  exact ⟨h.1, h.2, by unfold partS; simp⟩
theorem rowWords_len (r : S47) : (rowWords r).length = 40 := by simp [rowWords, le4]
theorem rows_len : ∀ (l : List S47), (l.flatMap rowWords).length = 40 * l.length
  | [] => rfl
  | x :: t => by rw [List.flatMap_cons, List.length_append, rowWords_len, rows_len t, List.length_cons]; omega
theorem headS_len (t n : Int) : (headS t n).length = 52 := by simp [headS, magic, le4, sizes, le2]
theorem addS_len2 (t : List Int) (s : ByteArray) (h : s.size ≤ 64) : (addS t s).2.length ≤ t.length + 65 := by
  unfold addS
  by_cases c : s.size = 0
  · rw [if_pos c]; exact Nat.le_add_right _ _
  · rw [if_neg c]
    show (t ++ bytesOf s ++ [0]).length ≤ _
    rw [List.length_append, List.length_append, bytesOf_length, List.length_singleton]
    omega
def bulk (l : List S40) : Nat := (l.map fun s => s.f5.length).sum
theorem p1_st1_len (l : List S40) (hl : ∀ s ∈ l, SecP s) (s0 : Wst × List Int) : s0.1.b.length ≤ (l.foldl secStep s0).1.b.length ∧ (l.foldl secStep s0).1.b.length ≤ s0.1.b.length + bulk l + 3 * l.length ∧ (l.foldl secStep s0).1.rows.length = s0.1.rows.length + l.length ∧ (l.foldl secStep s0).2.length ≤ s0.2.length + 65 * l.length := by
  induction l generalizing s0 with
  | nil => exact ⟨Nat.le_refl _, Nat.le_add_right _ _, rfl, Nat.le_refl _⟩
  | cons x t ih =>
    have h1 := ih (fun s hs => hl s (List.mem_cons_of_mem _ hs)) (secStep s0 x)
    have h2 := p1_partS_len s0.1 ⟨(addS s0.2 x.f0).1, x.f1, x.f2, 0, 0, x.f4, 0, 0, x.f3, 0⟩ x.f5
    have h3 := addS_len2 s0.2 x.f0 (hl x List.mem_cons_self).1.2
    have e1 : (secStep s0 x).1 = partS s0.1 ⟨(addS s0.2 x.f0).1, x.f1, x.f2, 0, 0, x.f4, 0, 0, x.f3, 0⟩ x.f5 := rfl
    have e2 : (secStep s0 x).2 = (addS s0.2 x.f0).2 := rfl
    rw [e1, e2] at h1
    have hb : bulk (x :: t) = x.f5.length + bulk t := by simp [bulk]
    rw [List.foldl_cons, hb, List.length_cons]
    omega
theorem yst_len (l : List S94) (s0 : Yst) (hl : ∀ x ∈ l, x.f0.size ≤ 64) : (l.foldl symStep s0).b.length = s0.b.length + 16 * l.length ∧ (l.foldl symStep s0).own.length ≤ s0.own.length + 65 * l.length := by
  induction l generalizing s0 with
  | nil => exact ⟨rfl, Nat.le_refl _⟩
  | cons x t ih =>
    have h1 := ih (symStep s0 x) (fun s hs => hl s (List.mem_cons_of_mem _ hs))
    have h3 := addS_len2 s0.own x.f0 (hl x List.mem_cons_self)
    have e1 : (symStep s0 x).b.length = s0.b.length + 16 := by
      show (s0.b ++ (le4 _ ++ le4 _ ++ le4 _ ++ le4 _)).length = _
      simp [le4]
    have e2 : (symStep s0 x).own = (addS s0.own x.f0).2 := rfl
    rw [e1, e2] at h1
    rw [List.foldl_cons, List.length_cons]
    omega
theorem relB_len2 (l : List S59) (i : Int) : (relB l i).length = 12 * (l.filter fun r => r.f0 == i).length := by
  induction l with
  | nil => rfl
  | cons x t ih =>
    unfold relB at *
    rw [List.flatMap_cons, List.length_append, ih]
    by_cases c : x.f0 = i
    · rw [if_pos c, List.filter_cons_of_pos (by simpa using c), List.length_cons]
      have : (relW x).length = 12 := by simp [relW, le4]
      omega
    · rw [if_neg c, List.filter_cons_of_neg (by simpa using c), List.length_nil]
      omega
def relN (l : List S59) (n : Nat) : Nat := ((List.range n).map fun (i : Nat) => (l.filter fun r => r.f0 == (i : Int)).length).sum
theorem relN_le (n : Nat) (l : List S59) : relN l n ≤ l.length := by
  induction l with
  | nil =>
    have : ∀ n : Nat, ((List.range n).map fun _ => 0).sum = 0 := fun n => by
      induction n with
      | zero => rfl
      | succ n ih => rw [List.range_succ, List.map_append, List.sum_append, ih]; rfl
    unfold relN
    exact Nat.le_of_eq (this n)
  | cons x t ih =>
    have h : relN (x :: t) n ≤ relN t n + 1 := by
      unfold relN
      have key : ∀ (m : Nat), (((List.range m).map fun (i : Nat) => ((x :: t).filter fun r => r.f0 == (i : Int)).length).sum ≤ ((List.range m).map fun (i : Nat) => (t.filter fun r => r.f0 == (i : Int)).length).sum + (if 0 ≤ x.f0 ∧ x.f0 < m then 1 else 0)) := by
        intro m
        induction m with
        | zero => simp
        | succ m ihm =>
          rw [List.range_succ, List.map_append, List.map_append, List.sum_append, List.sum_append]
          simp only [List.map_cons, List.map_nil, List.sum_cons, List.sum_nil, Nat.add_zero]
          by_cases c : x.f0 = (m : Int)
          · rw [List.filter_cons_of_pos (by simpa using c), List.length_cons, if_pos (by omega)]
            rw [if_neg (by omega)] at ihm
            omega
          · rw [List.filter_cons_of_neg (by simpa using c)]
            by_cases c2 : 0 ≤ x.f0 ∧ x.f0 < m
            · rw [if_pos c2] at ihm; rw [if_pos (by omega)]; omega
            · rw [if_neg c2] at ihm; rw [if_neg (by omega)]; omega
      have := key n
      by_cases c : 0 ≤ x.f0 ∧ x.f0 < n
      · rw [if_pos c] at this; exact this
      · rw [if_neg c] at this; omega
    rw [List.length_cons]; omega
theorem st4_len (l : List S59) (at_ : Int) (n : Nat) (s0 : Wst) : s0.b.length ≤ ((List.range n).foldl (relStep l at_) s0).b.length ∧ ((List.range n).foldl (relStep l at_) s0).b.length ≤ s0.b.length + 12 * relN l n + 3 * n ∧ ((List.range n).foldl (relStep l at_) s0).rows.length ≤ s0.rows.length + n ∧ s0.rows.length ≤ ((List.range n).foldl (relStep l at_) s0).rows.length := by
  induction n with
  | zero => exact ⟨Nat.le_refl _, Nat.le_add_right _ _, Nat.le_refl _, Nat.le_refl _⟩
  | succ n ih =>
    have hN : relN l (n + 1) = relN l n + (l.filter fun r => r.f0 == (n : Int)).length := by unfold relN; rw [List.range_succ, List.map_append, List.sum_append]; simp
    rw [List.range_succ, List.foldl_append, hN]
    show s0.b.length ≤ (relStep l at_ ((List.range n).foldl (relStep l at_) s0) n).b.length ∧ _
    generalize (List.range n).foldl (relStep l at_) s0 = s1 at *
    have hr := relB_len2 l (n : Int)
    show s0.b.length ≤ (relStep l at_ s1 n).b.length ∧ (relStep l at_ s1 n).b.length ≤ _ ∧ (relStep l at_ s1 n).rows.length ≤ _ ∧ _ ≤ (relStep l at_ s1 n).rows.length
    unfold relStep
    by_cases c : relB l (n : Int) = []
    · rw [if_pos c]; omega
    · rw [if_neg c]
      have h2 := p1_partS_len s1 ⟨0, 4, 0, 0, 0, 0, at_, (n : Int) + 1, 4, 12⟩ (relB l (n : Int))
      rw [hr] at h2
      omega
theorem sumS_bulk (l : List S40) (hl : ∀ s ∈ l, SecP s) (h4 : ∀ s ∈ l, 0 ≤ s.f4) (hn : l.length ≤ 64) (hr : ∀ s ∈ l, s.f4 < 4294967296) : (bulk l : Int) ≤ sumS l := by
  unfold sumS
  have key : ∀ (l : List S40) (a : Int), (∀ s ∈ l, SecP s) → (∀ s ∈ l, 0 ≤ s.f4 ∧ s.f4 < 4294967296) → 0 ≤ a → a + 4294967296 * l.length < 18446744073709551616 → a + bulk l ≤ l.foldl (fun a s => (a + s.f4) % 18446744073709551616) a := by
    intro l
    induction l with
    | nil => intro a _ _ _ _; simp [bulk]
    | cons x t ih =>
      intro a h1 h2 h3 h5
      have hx := h2 x List.mem_cons_self
      have hp := (h1 x List.mem_cons_self).2.2.2
      rw [List.length_cons] at h5
      have hlen : (x.f5.length : Int) ≤ x.f4 := by
        rcases hp with ⟨_, h⟩ | ⟨_, h⟩
        · omega
        · rw [h]; simpa using hx.1
      rw [List.foldl_cons, Int.emod_eq_of_lt (by omega) (by omega)]
      have := ih (a + x.f4) (fun s hs => h1 s (List.mem_cons_of_mem _ hs)) (fun s hs => h2 s (List.mem_cons_of_mem _ hs)) (by omega) (by omega)
      have hb : (bulk (x :: t) : Int) = x.f5.length + bulk t := by simp [bulk]
      omega
  have := key l 0 hl (fun s hs => ⟨h4 s hs, hr s hs⟩) (by decide) (by omega)
  omega
theorem put_len {o : Ob} (hm : MayP o) (hg : ObRg o) : 52 ≤ (st5 o).b.length ∧ (st5 o).b.length ≤ 200000 ∧ 4 ≤ (st5 o).rows.length ∧ (st5 o).rows.length ≤ 200 ∧ (putS o).length = (st5 o).b.length + 40 * (st5 o).rows.length := by
  obtain ⟨⟨l0, l1, l2, l3⟩, hs, hy, _⟩ := hm
  have hb := sumS_bulk o.secs hs (fun s h => (hg.secs s h).2.2.2.2.1.1) l0 (fun s h => (hg.secs s h).2.2.2.2.1.2)
  have k1 := p1_st1_len o.secs hs (⟨List.replicate 52 0, [z47]⟩, [0])
  have k2 := yst_len o.syms ⟨List.replicate 16 0, [0], 1⟩ (fun x hx => by
    obtain ⟨i, hi⟩ := List.mem_iff_getElem?.1 hx
    exact ((hy i (List.getElem?_eq_some_iff.1 hi).1) x hi).1.1.2)
  have e1 : st1 o = o.secs.foldl secStep (⟨List.replicate 52 0, [z47]⟩, [0]) := rfl
  have e2 : yst o = o.syms.foldl symStep ⟨List.replicate 16 0, [0], 1⟩ := rfl
  rw [← e1] at k1
  rw [← e2] at k2
  simp only [List.length_replicate, List.length_singleton] at k1 k2
  have k3 := p1_partS_len (st1 o).1 ⟨0, 2, 0, 0, 0, 0, atS o + 1, (yst o).loc, 4, 16⟩ (yst o).b
  have k4 := p1_partS_len (st2 o) ⟨0, 3, 0, 0, 0, 0, 0, 0, 1, 0⟩ (yst o).own
  have k5 := st4_len o.rels (atS o) o.secs.length (st3 o)
  have k6 := p1_partS_len (st4 o) ⟨0, 3, 0, 0, 0, 0, 0, 0, 1, 0⟩ (st1 o).2
  have k7 := relN_le o.secs.length o.rels
  have e3 : partS (st1 o).1 ⟨0, 2, 0, 0, 0, 0, atS o + 1, (yst o).loc, 4, 16⟩ (yst o).b = st2 o := rfl
  have e4 : partS (st2 o) ⟨0, 3, 0, 0, 0, 0, 0, 0, 1, 0⟩ (yst o).own = st3 o := rfl
  have e5 : (List.range o.secs.length).foldl (relStep o.rels (atS o)) (st3 o) = st4 o := rfl
  have e6 : partS (st4 o) ⟨0, 3, 0, 0, 0, 0, 0, 0, 1, 0⟩ (st1 o).2 = st5 o := rfl
  rw [e3] at k3; rw [e4] at k4; rw [e5] at k5; rw [e6] at k6
  have kp : (putS o).length = 52 + ((st5 o).b.length - 52) + 40 * (st5 o).rows.length := by
    unfold putS
    rw [List.length_append, List.length_append, headS_len, List.length_drop, rows_len]
  omega
theorem numOf_le4 (n : Int) (h0 : 0 ≤ n) (h1 : n < 4294967296) : numOf (le4 n) = n := by
  simp only [le4, numOf]; omega
theorem numOf_le2 (n : Int) (h0 : 0 ≤ n) (h1 : n < 65536) : numOf (le2 n) = n := by
  simp only [le2, numOf]; omega
theorem putS_tab (o : Ob) : ∃ m, putS o = magic ++ (le4 (st5 o).b.length ++ (sizes ++ (le2 (st5 o).rows.length ++ m))) := by
  refine ⟨le2 ((st5 o).rows.length - 1) ++ (((st5 o).b.drop 52) ++ (st5 o).rows.flatMap rowWords), ?_⟩
  unfold putS headS
  simp only [List.append_assoc]
theorem gw_app (x y z : List Int) : gw (x ++ (y ++ z)) x.length y.length = numOf y := by
  unfold gw
  rw [List.drop_left, List.take_left]
theorem put_tabAt {o : Ob} (h : (st5 o).b.length ≤ 200000) : gw (putS o) 32 4 = (st5 o).b.length := by
  obtain ⟨m, hm⟩ := putS_tab o
  rw [hm, show (32 : Nat) = magic.length from rfl, show (4 : Nat) = (le4 ((st5 o).b.length : Int)).length from rfl, gw_app, numOf_le4 _ (by omega) (by omega)]
theorem put_tabN {o : Ob} (h : (st5 o).rows.length ≤ 200) : gw (putS o) 48 2 = (st5 o).rows.length := by
  obtain ⟨m, hm⟩ := putS_tab o
  have : putS o = (magic ++ (le4 (st5 o).b.length ++ sizes)) ++ (le2 (st5 o).rows.length ++ m) := by rw [hm]; simp only [List.append_assoc]
  rw [this]
  have h48 : (48 : Nat) = (magic ++ (le4 ((st5 o).b.length : Int) ++ sizes)).length := by simp [magic, le4, sizes]
  rw [h48, show (2 : Nat) = (le2 ((st5 o).rows.length : Int)).length from rfl, gw_app, numOf_le2 _ (by omega) (by omega)]
end Go.Proofs.Ytockojajbnnbpaa.E
namespace Go.Proofs.Ytockojajbnnbpaa.E
open Go.RowKit Go.Proofs.Ytockojajbnnbpaa.Q Go.Proofs.YtockojajbnnbpaaW.PrintWords
set_option linter.unusedVariables false
set_option linter.unusedSimpArgs false
theorem ab_app {x y : List Int} (hx : AllBytes x) (hy : AllBytes y) : AllBytes (x ++ y) := fun z hz => (List.mem_append.1 hz).elim (hx z) (hy z)
theorem ab_le4 (n : Int) : AllBytes (le4 n) := by
  intro z hz
  simp only [le4, List.mem_cons, List.not_mem_nil, or_false] at hz
  omega
theorem ab_le2 (n : Int) : AllBytes (le2 n) := by
  intro z hz
  simp only [le2, List.mem_cons, List.not_mem_nil, or_false] at hz
  omega
theorem ab_zeros (n : Nat) : AllBytes (List.replicate n 0) := by
  intro z hz
  rw [(List.mem_replicate.1 hz).2]; decide
theorem ab_str (s : ByteArray) : AllBytes (bytesOf s) := by
  intro z hz
  unfold bytesOf at hz
  obtain ⟨b, _, rfl⟩ := List.mem_map.1 hz
  have := b.toNat_lt
  omega
theorem ab_of (l : List Int) (h : l.all (fun x => decide (0 ≤ x ∧ x ≤ 255)) = true) : AllBytes l := fun x hx => of_decide_eq_true (List.all_eq_true.1 h x hx)
theorem ab_one : AllBytes [0] := ab_of _ rfl
theorem ab_pad (l : List Int) (h : AllBytes l) : AllBytes (pad4 l) := ab_app h (ab_zeros _)
theorem ab_part (s : Wst) (r : S47) (x : List Int) (h : AllBytes s.b) (hx : AllBytes x) : AllBytes (partS s r x).b := ab_pad _ (ab_app h hx)
theorem ab_add (t : List Int) (s : ByteArray) (h : AllBytes t) : AllBytes (addS t s).2 := by
  unfold addS
  by_cases c : s.size = 0
  · rw [if_pos c]; exact h
  · rw [if_neg c]; exact ab_app (ab_app h (ab_str s)) ab_one
theorem ab_st1 (l : List S40) (hl : ∀ s ∈ l, AllBytes s.f5) (s0 : Wst × List Int) (h1 : AllBytes s0.1.b) (h2 : AllBytes s0.2) : AllBytes (l.foldl secStep s0).1.b ∧ AllBytes (l.foldl secStep s0).2 := by
  induction l generalizing s0 with
  | nil => exact ⟨h1, h2⟩
  | cons x t ih => exact ih (fun s hs => hl s (List.mem_cons_of_mem _ hs)) (secStep s0 x) (ab_part _ _ _ h1 (hl x List.mem_cons_self)) (ab_add _ _ h2)
theorem ab_yst (l : List S94) (s0 : Yst) (h1 : AllBytes s0.b) (h2 : AllBytes s0.own) : AllBytes (l.foldl symStep s0).b ∧ AllBytes (l.foldl symStep s0).own := by
  induction l generalizing s0 with
  | nil => exact ⟨h1, h2⟩
  | cons x t ih => exact ih (symStep s0 x) (ab_app h1 (ab_app (ab_app (ab_app (ab_le4 _) (ab_le4 _)) (ab_le4 _)) (ab_le4 _))) (ab_add _ _ h2)
theorem ab_rel (l : List S59) (i : Int) : AllBytes (relB l i) := by
  intro z hz
  unfold relB at hz
  obtain ⟨r, _, hr⟩ := List.mem_flatMap.1 hz
  by_cases c : r.f0 = i
  · rw [if_pos c] at hr; exact ab_app (ab_app (ab_le4 _) (ab_le4 _)) (ab_le4 _) z hr
  · rw [if_neg c] at hr; exact absurd hr (List.not_mem_nil)
theorem ab_st4 (l : List S59) (at_ : Int) (n : Nat) (s0 : Wst) (h : AllBytes s0.b) : AllBytes ((List.range n).foldl (relStep l at_) s0).b := by
  induction n with
  | zero => exact h
  | succ n ih =>
    rw [List.range_succ, List.foldl_append]
    show AllBytes (relStep l at_ ((List.range n).foldl (relStep l at_) s0) n).b
    unfold relStep
    by_cases c : relB l (n : Int) = []
    · rw [if_pos c]; exact ih
    · rw [if_neg c]; exact ab_part _ _ _ ih (ab_rel _ _)
theorem put_bytes {o : Ob} (hg : ObRg o) : AllBytes (putS o) := by
  have k1 := ab_st1 o.secs (fun s hs => (hg.secs s hs).2.2.2.2.2.1) (⟨List.replicate 52 0, [z47]⟩, [0]) (ab_zeros _) ab_one
  have k2 := ab_yst o.syms ⟨List.replicate 16 0, [0], 1⟩ (ab_zeros _) ab_one
  have k3 : AllBytes (st3 o).b := ab_part _ _ _ (ab_part _ _ _ k1.1 k2.1) k2.2
  have k5 : AllBytes (st5 o).b := ab_part _ _ _ (ab_st4 _ _ _ _ k3) k1.2
  unfold putS headS
  refine ab_app (ab_app (ab_app (ab_app (ab_app (ab_app (ab_of _ rfl) (ab_le4 _)) (ab_of _ rfl)) (ab_le2 _)) (ab_le2 _)) (fun z hz => k5 z (List.mem_of_mem_drop hz))) ?_
  intro z hz
  obtain ⟨r, _, hr⟩ := List.mem_flatMap.1 hz
  unfold rowWords at hr
  simp only [List.mem_append] at hr
  have := fun n => ab_le4 n z
  rcases hr with (((((((((h | h) | h) | h) | h) | h) | h) | h) | h) | h) <;> exact this _ h
end Go.Proofs.Ytockojajbnnbpaa.E
namespace Go.Proofs.Ytockojajbnnbpaa.E
open Go.RowKit Go.Proofs.Ytockojajbnnbpaa.Q Go.Proofs.YtockojajbnnbpaaW.PrintWords Go.Proofs.YtockojajbnnbpaaW.PrintLast Go.Proofs.YtockojajbnnbpaaW.PrintMore
set_option linter.unusedVariables false
set_option linter.unusedSimpArgs false
theorem wraps_u64 (n : Int) (h₀ : 0 ≤ n) (h₁ : n < 2 ^ 64) : IntKind.u64.wrap n = n := by rw [u64w]; omega
theorem mod_id {x m : Int} (h0 : 0 ≤ x) (h1 : x < m) : x % m = x := Int.emod_eq_of_lt h0 h1
theorem shl_at {x e : Int} (h0 : 0 ≤ e) (h1 : e ≤ 64) : shl .u64 x e = x * 2 ^ e.toNat % 18446744073709551616 := by
  unfold shl; rw [Nat.min_eq_left (by show e.toNat ≤ 64; omega), u64w]
theorem rd_at (l : List Int) (i : Int) (h0 : 0 ≤ i) (h1 : i.toNat < l.length) : rd l i = l[i.toNat] := by
  unfold rd; rw [List.getD_eq_getElem?_getD, List.getElem?_eq_getElem h1]; rfl
theorem pow8 (k : Nat) : (2 : Int) ^ (8 * (k + 1)) = 256 * 2 ^ (8 * k) := by
  rw [show 8 * (k + 1) = 8 * k + 8 by omega, Int.pow_add]; omega
theorem pow8_pos (k : Nat) : (0 : Int) < 2 ^ (8 * k) := Int.pow_pos (by decide)
theorem numOf_range (l : List Int) (h : AllBytes l) : 0 ≤ numOf l ∧ numOf l < 2 ^ (8 * l.length) := by
  induction l with
  | nil => simp [numOf]
  | cons c t ih =>
    have h1 := ih (fun x hx => h x (List.mem_cons_of_mem _ hx))
    have h2 := h c List.mem_cons_self
    rw [List.length_cons, pow8]
    unfold numOf
    omega
theorem numOf_snoc (l : List Int) (c : Int) : numOf (l ++ [c]) = numOf l + c * 2 ^ (8 * l.length) := by
  induction l with
  | nil => simp [numOf]
  | cons a t ih =>
    rw [List.cons_append, numOf, ih, numOf, List.length_cons, pow8, Int.mul_add]
    have : 256 * (c * 2 ^ (8 * t.length)) = c * (256 * 2 ^ (8 * t.length)) := by rw [← Int.mul_assoc, Int.mul_comm 256 c, Int.mul_assoc]
    omega
theorem or_low (x c : Int) (i : Nat) (hi : i + 8 ≤ 64) (x0 : 0 ≤ x) (x1 : x < 2 ^ i) (c0 : 0 ≤ c) (c1 : c ≤ 255) : Go.bits .or .u64 x (c * 2 ^ i) = x + c * 2 ^ i := by
  have hp : (0 : Int) < 2 ^ i := Int.pow_pos (by decide)
  have hb : (2 : Int) ^ i * 256 ≤ 2 ^ 64 := by
    have h := Nat.pow_le_pow_right (show 0 < 2 by decide) hi
    rw [Nat.pow_add] at h
    have h2 : ((2 ^ i * 2 ^ 8 : Nat) : Int) ≤ ((2 ^ 64 : Nat) : Int) := Int.ofNat_le.2 h
    simpa using h2
  have hlt : c * 2 ^ i < 2 ^ 64 := by
    have h1 : c * 2 ^ i ≤ 255 * 2 ^ i := Int.mul_le_mul_of_nonneg_right c1 (by omega)
    omega
  have h0 : 0 ≤ c * 2 ^ i := Int.mul_nonneg c0 (by omega)
  have hj := bits_join .u64 64 (by decide) wraps_u64 i (c * 2 ^ i) x h0 (Int.mul_emod_left _ _) hlt x0 x1 (by omega)
  rw [← Int.add_comm] at hj
  rw [← hj]
  obtain ⟨a, ha⟩ := Int.eq_ofNat_of_zero_le x0
  obtain ⟨b, hb'⟩ := Int.eq_ofNat_of_zero_le h0
  rw [hb'] at hlt ⊢
  rw [ha] at x1 ⊢
  have e1 := (bits_nat .u64 64 (by decide) wraps_u64 a b (by omega) (by omega)).2
  have e2 := (bits_nat .u64 64 (by decide) wraps_u64 b a (by omega) (by omega)).2
  rw [e1, e2, Nat.or_comm]
theorem getLoop (L : List Int) (hb : AllBytes L) (hl : L.length ≤ 8) (er : Int) (d : Nat) : ∀ (k : Nat) (i : Nat), i + d = L.length → d < k → ends_Get.l0 k er (numOf (L.take i)) L (L.length : Int) (i : Int) = some (numOf L, er) := by
  induction d with
  | zero =>
    intro k i h1 hk
    obtain ⟨k, rfl⟩ : ∃ m, k = m + 1 := ⟨k - 1, by omega⟩
    simp only [ends_Get.l0]
    rw [if_neg (by omega), List.take_of_length_le (by omega)]
  | succ d ih =>
    intro k i h1 hk
    obtain ⟨k, rfl⟩ : ∃ m, k = m + 1 := ⟨k - 1, by omega⟩
    have hi : i < L.length := by omega
    have hc := hb L[i] (List.getElem_mem hi)
    have hr := numOf_range (L.take i) (fun x hx => hb x (List.mem_of_mem_take hx))
    rw [List.length_take, Nat.min_eq_left (by omega)] at hr
    have hw : wrap64 ((i : Int) + 1) = ((i + 1 : Nat) : Int) := by unfold wrap64; omega
    have hrd : rd L (i : Int) = L[i] := by rw [rd_at L i (by omega) (by omega)]; simp
    have e1 : IntKind.u64.wrap ((i : Nat) : Int) = (i : Int) := by rw [u64w]; omega
    have e2 : IntKind.u64.wrap (8 * (i : Int)) = 8 * (i : Int) := by rw [u64w]; omega
    have e3 : IntKind.u64.wrap L[i] = L[i] := by rw [u64w]; omega
    simp only [ends_Get.l0]
    rw [if_pos (by omega), if_pos (by omega), if_pos (by omega), e1, e2, if_pos (by omega), hrd, e3, hw, shl_at (by omega) (by omega)]
    have e4 : (8 * (i : Int)).toNat = 8 * i := by omega
    have hp := pow8_pos i
    have hb2 : (2 : Int) ^ (8 * i) * 256 ≤ 2 ^ 64 := by
      have h := Nat.pow_le_pow_right (show 0 < 2 by decide) (show 8 * i + 8 ≤ 64 by omega)
      rw [Nat.pow_add] at h
      have h2 : ((2 ^ (8 * i) * 2 ^ 8 : Nat) : Int) ≤ ((2 ^ 64 : Nat) : Int) := Int.ofNat_le.2 h
      simpa using h2
    have hlt : L[i] * 2 ^ (8 * i) < 2 ^ 64 := by
      have h1 : L[i] * 2 ^ (8 * i) ≤ 255 * 2 ^ (8 * i) := Int.mul_le_mul_of_nonneg_right hc.2 (by omega)
      omega
    have h0 : 0 ≤ L[i] * 2 ^ (8 * i) := Int.mul_nonneg hc.1 (by omega)
    rw [e4, mod_id h0 (by omega), or_low _ _ (8 * i) (by omega) hr.1 hr.2 hc.1 hc.2]
    have hs : numOf (L.take (i + 1)) = numOf (L.take i) + L[i] * 2 ^ (8 * i) := by
      rw [List.take_succ_eq_append_getElem hi, numOf_snoc, List.length_take, Nat.min_eq_left (by omega)]
    rw [← hs]
    exact ih k (i + 1) (by omega) (by omega)
def cutAt (l : List Int) (at_ n : Int) : List Int := (l.take (at_ + n).toNat).drop at_.toNat
theorem cutAt_len (l : List Int) (at_ n : Int) (h0 : 0 ≤ at_) (h1 : at_ ≤ l.length) (n0 : 0 ≤ n) (h2 : n ≤ l.length - at_) : (cutAt l at_ n).length = n.toNat := by
  unfold cutAt; rw [List.length_drop, List.length_take]; omega
theorem cutAt_bytes (l : List Int) (h : AllBytes l) (at_ n : Int) : AllBytes (cutAt l at_ n) := fun x hx => h x (List.mem_of_mem_take (List.mem_of_mem_drop hx))
theorem part_is (l : List Int) (hl : l.length < 140737488355328) (at_ n : Int) : ends_Part.f l at_ n =
    some (if at_ < 0 ∨ at_ > l.length ∨ n < 0 then ([], 2) else if (l.length : Int) - at_ < n then ([], 4) else (cutAt l at_ n, 0)) := by
  unfold ends_Part.f
  by_cases c1 : at_ < 0
  · rw [if_pos c1, if_pos (.inl c1)]
  rw [if_neg c1]
  by_cases c2 : at_ > (l.length : Int)
  · rw [if_pos c2, if_pos (.inr (.inl c2))]
  rw [if_neg c2]
  by_cases c3 : n < 0
  · rw [if_pos c3, if_pos (.inr (.inr c3))]
  rw [if_neg c3, if_neg (show ¬ (at_ < 0 ∨ at_ > (l.length : Int) ∨ n < 0) by omega)]
  by_cases c4 : (l.length : Int) - at_ < n
  · rw [if_pos c4, if_pos c4]
  rw [if_neg c4, if_neg c4]
  have := cutAt_len l at_ n (by omega) (by omega) (by omega) (by omega)
  unfold bytes_Clone.f
  rw [if_pos (show ((l.take (at_ + n).toNat).drop at_.toNat).length < 140737488355328 by unfold cutAt at this; omega)]
  rfl
theorem may_is (n : Int) : ends_may.f n = some (decide (n = 1 ∨ n = 2 ∨ n = 4 ∨ n = 8)) := by
  unfold ends_may.f
  by_cases a : n = 1
  · simp [a]
  by_cases b : n = 2
  · simp [b]
  by_cases c : n = 4
  · simp [c]
  by_cases d : n = 8
  · simp [d]
  simp [a, b, c, d]
def getV (l : List Int) (at_ n : Int) : Int × Int :=
  if n = 1 ∨ n = 2 ∨ n = 4 ∨ n = 8 then (if at_ < 0 ∨ at_ > l.length then (0, 2) else if (l.length : Int) - at_ < n then (0, 4) else (numOf (cutAt l at_ n), 0)) else (0, 2)
theorem get_is (l : List Int) (hb : AllBytes l) (hl : l.length < 140737488355328) (at_ n : Int) (k : Nat) (hk : 10 ≤ k) : ends_Get.f k l at_ n = some (getV l at_ n) := by
  unfold ends_Get.f getV
  rw [may_is, part_is l hl]
  simp only [Option.bind_some]
  have hnil : ∀ e : Int, ends_Get.l0 k e 0 [] (([] : List Int).length : Int) 0 = some (0, e) := by
    intro e
    obtain ⟨k, rfl⟩ : ∃ m, k = m + 1 := ⟨k - 1, by omega⟩
    simp [ends_Get.l0]
  by_cases hn : n = 1 ∨ n = 2 ∨ n = 4 ∨ n = 8
  · rw [decide_eq_true hn, if_pos rfl, if_pos hn]
    by_cases c1 : at_ < 0 ∨ at_ > l.length
    · rw [if_pos c1, if_pos (by omega)]; exact hnil 2
    rw [if_neg c1, if_neg (by omega)]
    by_cases c4 : (l.length : Int) - at_ < n
    · rw [if_pos c4, if_pos c4]; exact hnil 4
    rw [if_neg c4, if_neg c4]
    have hlen := cutAt_len l at_ n (by omega) (by omega) (by omega) (by omega)
    have := getLoop (cutAt l at_ n) (cutAt_bytes l hb at_ n) (by omega) 0 (cutAt l at_ n).length k 0 (by omega) (by omega)
    simpa [numOf] using this
  · rw [decide_eq_false hn, if_neg hn]
    simp
theorem gw_cut (b : List Int) (at_ n : Nat) : cutAt b (at_ : Int) (n : Int) = (b.drop at_).take n := by
  unfold cutAt
  rw [Int.toNat_natCast, show ((at_ : Int) + (n : Int)).toNat = at_ + n by omega, List.drop_take]
  congr 1
  omega
theorem getV_ok (b : List Int) (at_ n : Nat) (hn : n = 2 ∨ n = 4) (h : at_ + n ≤ b.length) : getV b (at_ : Int) (n : Int) = (gw b at_ n, 0) := by
  unfold getV gw
  rw [if_pos (by omega), if_neg (by omega), if_neg (by omega), gw_cut]
theorem gw_rg (b : List Int) (hb : AllBytes b) (at_ n : Nat) (hn : n ≤ 4) : 0 ≤ gw b at_ n ∧ gw b at_ n < 4294967296 := by
  unfold gw
  have h := numOf_range ((b.drop at_).take n) (fun x hx => hb x (List.mem_of_mem_drop (List.mem_of_mem_take hx)))
  refine ⟨h.1, Int.lt_of_lt_of_le h.2 ?_⟩
  have hl : ((b.drop at_).take n).length ≤ 4 := by rw [List.length_take]; omega
  generalize ((b.drop at_).take n).length = m at hl
  have : m = 0 ∨ m = 1 ∨ m = 2 ∨ m = 3 ∨ m = 4 := by omega
  rcases this with rfl | rfl | rfl | rfl | rfl <;> decide
theorem Get_calls (A : Option Addr) (c : Nat) (b : List Int) (hb : AllBytes b) (hl : b.length < 140737488355328) (at_ n : Int) (w : World) (h : Kd.C (Kd.int .u8) w A b.length b) (hc : b.length ≤ c) :
    Calls Try.prog 74 #[.slice A b.length c, .int .i64 at_, .int .i64 n] w fun e w' => e = .returned (.tuple #[.int .u64 (getV b at_ n).1, .int .i64 (getV b at_ n).2]) ∧ Below w.heap.size w w' :=
  ends_Get.calls 20 A c b at_ n _ _ w h hc (by rw [get_is b hb hl at_ n 20 (by decide)])
end Go.Proofs.Ytockojajbnnbpaa.E
namespace Go.Proofs.Ytockojajbnnbpaa.E
open Go.RowKit Go.Proofs.Ytockojajbnnbpaa.Q Go.Proofs.YtockojajbnnbpaaW.PrintWords Go.Proofs.YtockojajbnnbpaaW.PrintLast Go.Proofs.YtockojajbnnbpaaW.PrintMore
set_option linter.unusedVariables false
set_option linter.unusedSimpArgs false
def wrongE (e : Int) : Ending := .panicked [{ v := .iface 66 (.agg #[.int .i64 e]), recovered := false }]
theorem want_yes (e : Int) (w : World) : Calls Try.prog 35 #[.bool true, .int .i64 e] w fun x w' => x = .returned (.tuple #[]) ∧ w = w' := by
  go_enter Try.func35, Try.ntmps35
  go_wp2
  go_end0
  exact ⟨rfl, rfl⟩
theorem want_no (e : Int) (w : World) : Calls Try.prog 35 #[.bool false, .int .i64 e] w fun x w' => x = wrongE e ∧ w = w' := by
  have hu66 := Try.underlying66
  have hp : ∀ (v : Value) (W : World), (Instr.panic (.iface 66 v)).run Try.prog W = .halt (.panic (.iface 66 v)) W := fun _ _ => rfl
  go_enter Try.func35, Try.ntmps35
  go_wp2
  exact ⟨rfl, rfl, rfl⟩
structure Rd (w : World) (g : Nat) (b : List Int) (rows : List S47) : Prop where
  ex : ∃ A c Ar cr, w.heap[g]? = some (.cells #[.slice A b.length c, .slice Ar rows.length cr] 69 (0, 0)) ∧ Kd.C (Kd.int .u8) w A b.length b ∧ b.length ≤ c ∧ Kd.C k47 w Ar rows.length rows ∧ rows.length ≤ cr
theorem Rd.below {w w1 : World} {g : Nat} {b : List Int} {rows : List S47} (h : Rd w g b rows) (k : Below w.heap.size w w1) : Rd w1 g b rows := by
  obtain ⟨A, c, Ar, cr, h1, h2, h3, h4, h5⟩ := h.ex
  exact ⟨A, c, Ar, cr, blk_below h1 k, Kd.C_below h2 k, h3, Kd.C_below h4 k, h5⟩
set_option maxHeartbeats 2000000 in
theorem get_ok {g : Nat} {b : List Int} {rows : List S47} (hb : AllBytes b) (hl : b.length < 140737488355328) (at_ n : Nat) (hn : n = 2 ∨ n = 4) (hok : at_ + n ≤ b.length) (w : World) (h : Rd w g b rows) :
    Calls Try.prog 63 #[.pointer (some ⟨g, 0, none⟩), .int .i64 (at_ : Int), .int .i64 (n : Int)] w fun e w' => e = .returned (.int .u32 (gw b at_ n)) ∧ Below w.heap.size w w' := by
  obtain ⟨A, c, Ar, cr, h1, h2, h3, h4, h5⟩ := h.ex
  have hc0 : w.cell? ⟨g, 0, none⟩ = some (.slice A b.length c) := (blk_cell h1 0).trans rfl
  have HG := Aside0.mk (Get_calls A c b hb hl at_ n w h2 h3)
  have hrg := gw_rg b hb at_ n (by omega)
  rw [getV_ok b at_ n hn hok] at HG
  have hm : gw b at_ n % 4294967296 = gw b at_ n := by omega
  clear h h1 h2 h3 h4 h5 hb hl hn hok hrg
  generalize gw b at_ n = v at *
  go_enter Try.func63, Try.ntmps63
  go_wp2_with fail
  refine HG.out.mono ?_
  rintro e w1 ⟨rfl, hbl⟩
  have HBL := Aside0.mk hbl
  clear hbl HG
  go_wp2_with fail
  refine (want_yes 4 _).mono ?_
  rintro e w2 ⟨rfl, rfl⟩
  go_wp2
  go_ret
  exact ⟨rfl, HBL.out⟩
end Go.Proofs.Ytockojajbnnbpaa.E
namespace Go.Proofs.Ytockojajbnnbpaa.E
open Go.RowKit Go.Proofs.Ytockojajbnnbpaa.Q Go.Proofs.YtockojajbnnbpaaW.PrintWords Go.Proofs.YtockojajbnnbpaaW.PrintLast Go.Proofs.YtockojajbnnbpaaW.PrintMore
set_option linter.unusedVariables false
set_option linter.unusedSimpArgs false
theorem partB_eq (b : List Int) (x : S47) (h0 : 0 ≤ x.f4) (h1 : 0 ≤ x.f5) : (b.take (x.f4 + x.f5).toNat).drop x.f4.toNat = partB b x := by
  unfold partB
  rw [show (x.f4 + x.f5).toNat = x.f4.toNat + x.f5.toNat by omega, List.drop_take]
  congr 1
  omega
theorem partB_len (b : List Int) (x : S47) (h0 : 0 ≤ x.f4) (h1 : 0 ≤ x.f5) (h2 : x.f4 + x.f5 ≤ b.length) : ((partB b x).length : Int) = x.f5 := by
  unfold partB
  rw [List.length_take, List.length_drop]
  omega
theorem partB_bytes {b : List Int} (hb : AllBytes b) (x : S47) : AllBytes (partB b x) := fun y hy => hb y (List.mem_of_mem_drop (List.mem_of_mem_take hy))
set_option maxRecDepth 100000 in
set_option maxHeartbeats 4000000 in
theorem rpart_calls {g : Nat} {b : List Int} {rows : List S47} (hl : b.length < 140737488355328) (x : S47) (h0 : 0 ≤ x.f4) (h1 : 0 ≤ x.f5) (h2 : x.f4 + x.f5 ≤ b.length) (w : World) (h : Rd w g b rows) :
    Calls Try.prog 67 #[.pointer (some ⟨g, 0, none⟩), .agg #[.int .u32 x.f0, .int .u32 x.f1, .int .u32 x.f2, .int .u32 x.f3, .int .u32 x.f4, .int .u32 x.f5, .int .u32 x.f6, .int .u32 x.f7, .int .u32 x.f8, .int .u32 x.f9]] w fun e w' => ∃ A c, e = .returned (.slice A (partB b x).length c) ∧ Kd.C (Kd.int .u8) w' A (partB b x).length (partB b x) ∧ (partB b x).length ≤ c ∧ Below w.heap.size w w' := by
  have hu47 := Try.underlying47
  obtain ⟨i0, hi, hiz⟩ := Option.map_eq_some_iff.1 info5
  obtain ⟨x0, x1, x2, x3, x4, x5, x6, x7, x8, x9⟩ := x
  simp only at h0 h1 h2
  have hpl := partB_len b ⟨x0, x1, x2, x3, x4, x5, x6, x7, x8, x9⟩ h0 h1 h2
  have hpe := partB_eq b ⟨x0, x1, x2, x3, x4, x5, x6, x7, x8, x9⟩ h0 h1
  simp only at hpl hpe
  obtain ⟨A, c, Ar, cr, e1, e2, e3, e4, e5⟩ := h.ex
  have hal := below_alloc (Below.refl w.heap.size w) (.cells #[.int .u32 x0, .int .u32 x1, .int .u32 x2, .int .u32 x3, .int .u32 x4, .int .u32 x5, .int .u32 x6, .int .u32 x7, .int .u32 x8, .int .u32 x9] 47)
  have HBK := Aside0.mk (heap_alloc_new w (.cells #[.int .u32 x0, .int .u32 x1, .int .u32 x2, .int .u32 x3, .int .u32 x4, .int .u32 x5, .int .u32 x6, .int .u32 x7, .int .u32 x8, .int .u32 x9] 47))
  have E1 := Aside0.mk (blk_below e1 hal)
  have E2 := Aside0.mk (Kd.C_below e2 hal)
  have HAL := Aside0.mk hal
  have E3 := Aside0.mk e3
  have hw : wrap64 (x4 + x5) = x4 + x5 := by unfold wrap64; omega
  have hcut := cut_three 27 5 Try.underlying27 hi (by simp only [Prod.mk.injEq] at hiz; exact hiz.2.1) A b.length c x4 (x4 + x5) h0 (by omega) (by omega)
  have hn : (x4 + x5).toNat - x4.toNat = (partB b ⟨x0, x1, x2, x3, x4, x5, x6, x7, x8, x9⟩).length := by omega
  obtain ⟨A', hA'⟩ : ∃ A' : Option Addr, A' = (if (x4 + x5).toNat = x4.toNat then A else A.map (·.add (x4.toNat * 1))) := ⟨_, rfl⟩
  rw [← hA', hn] at hcut
  have hCm : ∀ W, Kd.C (Kd.int .u8) W A b.length b → Kd.C (Kd.int .u8) W A' (partB b ⟨x0, x1, x2, x3, x4, x5, x6, x7, x8, x9⟩).length (partB b ⟨x0, x1, x2, x3, x4, x5, x6, x7, x8, x9⟩) := by
    intro W hC
    by_cases c0 : (x4 + x5).toNat = x4.toNat
    · have h0' : (partB b ⟨x0, x1, x2, x3, x4, x5, x6, x7, x8, x9⟩).length = 0 := by omega
      rw [List.eq_nil_of_length_eq_zero h0']
      exact ⟨rfl, by decide, fun h => absurd h (by decide)⟩
    · have hm := Kd.C_mid (k := Kd.int .u8) (c := c) (lo := x4.toNat) (hi := (x4 + x5).toNat) hC (by omega) (by omega) e3
      rw [hpe, if_neg (by omega)] at hm
      rw [hA', if_neg c0]
      exact hm
  have HCM := Aside0.mk hCm
  have hw4 : wrap64 x4 = x4 := by unfold wrap64; omega
  have hw5 : wrap64 x5 = x5 := by unfold wrap64; omega
  generalize partB b ⟨x0, x1, x2, x3, x4, x5, x6, x7, x8, x9⟩ = PB at *
  clear h e1 e2 e3 e4 e5 hal hpl hpe hl hn hA' hCm h0 h1 h2
  go_enter Try.func67, Try.ntmps67
  go_wp2
  generalize (w.alloc (.cells #[.int .u32 x0, .int .u32 x1, .int .u32 x2, .int .u32 x3, .int .u32 x4, .int .u32 x5, .int .u32 x6, .int .u32 x7, .int .u32 x8, .int .u32 x9] 47)) = w1 at *
  have hsz : Aside0 (w.heap.size = w.heap.size) := ⟨rfl⟩
  obtain ⟨p, hp⟩ : ∃ p, p = w.heap.size := ⟨_, rfl⟩
  rw [← hp] at HBK ⊢
  have d4 : w1.cell? ⟨p, 4, none⟩ = some (.int .u32 x4) := (blk_cell HBK.out 4).trans rfl
  have d5 : w1.cell? ⟨p, 5, none⟩ = some (.int .u32 x5) := (blk_cell HBK.out 5).trans rfl
  clear hp hsz
  go_quiet (fail)
  have hb2 := pw_below_drewN (Below.refl w1.heap.size w1) nq
  replace E1 := Aside0.mk (blk_below E1.out hb2)
  replace E2 := Aside0.mk (Kd.C_below E2.out hb2)
  have HAL2 := Aside0.mk (pw_below_drewN HAL.out nq)
  clear d4 d5 hb2 HAL HBK
  generalize w1.drewN nq = w2 at *
  have hc0 : w2.cell? ⟨g, 0, none⟩ = some (.slice A b.length c) := (blk_cell E1.out 0).trans rfl
  go_wp2
  go_ret
  exact ⟨A', PB.length, rfl, HCM.out _ E2.out, Nat.le_refl _, HAL2.out⟩
theorem rd47_get (l : List S47) (i : Nat) (h : i < l.length) : l[i]? = some (rd_T47 l (i : Int)) := by unfold rd_T47; rw [Int.toNat_natCast, List.getD_eq_getElem?_getD, List.getElem?_eq_getElem h]; rfl
set_option maxRecDepth 100000 in
set_option maxHeartbeats 4000000 in
theorem row_no {g : Nat} {b : List Int} {rows : List S47} (n : Nat) (kind : Int) (hn : n < 4294967296) (hx : rowS rows n kind = none) (hl : rows.length < 9223372036854775808) (w : World) (h : Rd w g b rows) :
    Calls Try.prog 64 #[.pointer (some ⟨g, 0, none⟩), .int .u32 (n : Int), .int .u32 kind] w fun e w' => e = wrongE 5 ∧ Below w.heap.size w w' := by
  have hu47 := Try.underlying47
  obtain ⟨A, c, Ar, cr, e1, e2, e3, e4, e5⟩ := h.ex
  have hal := below_alloc (Below.refl w.heap.size w) (.cells #[.int .u32 0, .int .u32 0, .int .u32 0, .int .u32 0, .int .u32 0, .int .u32 0, .int .u32 0, .int .u32 0, .int .u32 0, .int .u32 0] 47)
  have HAL := Aside0.mk hal
  have E1 := Aside0.mk (blk_below e1 hal)
  have E4 := Aside0.mk (Kd.C_below e4 hal)
  have hw : wrap64 (n : Int) = n := by unfold wrap64; omega
  clear h e1 e2 e3 e5 hal e4
  have hc1 : (w.alloc (.cells #[.int .u32 0, .int .u32 0, .int .u32 0, .int .u32 0, .int .u32 0, .int .u32 0, .int .u32 0, .int .u32 0, .int .u32 0, .int .u32 0] 47)).cell? ⟨g, 1, none⟩ = some (.slice Ar rows.length cr) := (blk_cell E1.out 1).trans rfl
  go_enter Try.func64, Try.ntmps64
  by_cases c1 : n < rows.length
  · have hr := rd47_get rows n c1
    unfold rowS at hx
    rw [Int.toNat_natCast, hr, Option.bind_some] at hx
    obtain ⟨ad, ea, x0, x1, _⟩ := at_T47 E4.out (n : Int) (by omega) (by omega)
    cases ea
    rw [Int.toNat_natCast] at x1
    generalize rd_T47 rows (n : Int) = y at hx x1
    have hk : ¬ y.f1 = kind := fun h => by rw [if_pos h] at hx; cases hx
    have hk2 : (y.f1 == kind) = false := by simpa using hk
    have p1 : ((n : Int) < (rows.length : Int)) = True := eq_true (by omega)
    have p1d : decide ((n : Int) < (rows.length : Int)) = true := decide_eq_true (by omega)
    have p2 : (n < rows.length) = True := eq_true c1
    have p2d : decide (n < rows.length) = true := decide_eq_true c1
    have p3 : 0 ≤ (n : Int) := by omega
    clear hr hx x0 hk c1
    go_wp2_with fail
    refine (want_no 5 _).mono ?_
    rintro e w2 ⟨rfl, rfl⟩
    exact ⟨rfl, rfl, HAL.out⟩
  · have p1d : decide ((n : Int) < (rows.length : Int)) = false := decide_eq_false (by omega)
    have p1 : ((n : Int) < (rows.length : Int)) = False := eq_false (by omega)
    have p2 : (n < rows.length) = False := eq_false c1
    have p2d : decide (n < rows.length) = false := decide_eq_false c1
    clear c1
    go_wp2_with fail
    refine (want_no 5 _).mono ?_
    rintro e w2 ⟨rfl, rfl⟩
    exact ⟨rfl, rfl, HAL.out⟩
set_option maxRecDepth 100000 in
set_option maxHeartbeats 4000000 in
theorem row_ok {g : Nat} {b : List Int} {rows : List S47} (n : Nat) (kind : Int) (x : S47) (hn : n < 4294967296) (hx : rowS rows n kind = some x) (hl : rows.length < 9223372036854775808) (w : World) (h : Rd w g b rows) :
    Calls Try.prog 64 #[.pointer (some ⟨g, 0, none⟩), .int .u32 (n : Int), .int .u32 kind] w fun e w' => e = .returned (.agg #[.int .u32 x.f0, .int .u32 x.f1, .int .u32 x.f2, .int .u32 x.f3, .int .u32 x.f4, .int .u32 x.f5, .int .u32 x.f6, .int .u32 x.f7, .int .u32 x.f8, .int .u32 x.f9]) ∧ Below w.heap.size w w' := by
  have hu47 := Try.underlying47
  obtain ⟨A, c, Ar, cr, e1, e2, e3, e4, e5⟩ := h.ex
  have hal := below_alloc (Below.refl w.heap.size w) (.cells #[.int .u32 0, .int .u32 0, .int .u32 0, .int .u32 0, .int .u32 0, .int .u32 0, .int .u32 0, .int .u32 0, .int .u32 0, .int .u32 0] 47)
  have HAL := Aside0.mk hal
  have HBK := Aside0.mk (heap_alloc_new w (.cells #[.int .u32 0, .int .u32 0, .int .u32 0, .int .u32 0, .int .u32 0, .int .u32 0, .int .u32 0, .int .u32 0, .int .u32 0, .int .u32 0] 47))
  have E1 := Aside0.mk (blk_below e1 hal)
  have E4 := Aside0.mk (Kd.C_below e4 hal)
  have hw : wrap64 (n : Int) = n := by unfold wrap64; omega
  clear h e1 e2 e3 e5 hal e4
  unfold rowS at hx
  rw [Int.toNat_natCast] at hx
  have c1 : n < rows.length := by
    rcases Nat.lt_or_ge n rows.length with h | h
    · exact h
    · rw [List.getElem?_eq_none h] at hx; cases hx
  have hr := rd47_get rows n c1
  rw [hr, Option.bind_some] at hx
  have hk : (rd_T47 rows (n : Int)).f1 = kind ∧ rd_T47 rows (n : Int) = x := by
    by_cases h : (rd_T47 rows (n : Int)).f1 = kind
    · rw [if_pos h] at hx; exact ⟨h, Option.some.inj hx⟩
    · rw [if_neg h] at hx; cases hx
  obtain ⟨ad, ea, x0, x1, x2, x3, x4, x5, x6, x7, x8, x9⟩ := at_T47 E4.out (n : Int) (by omega) (by omega)
  cases ea
  rw [Int.toNat_natCast] at x0 x1 x2 x3 x4 x5 x6 x7 x8 x9
  rw [hk.2] at x0 x1 x2 x3 x4 x5 x6 x7 x8 x9
  have hk2 : (x.f1 == kind) = true := by rw [← hk.2]; simpa using hk.1
  have p1 : ((n : Int) < (rows.length : Int)) = True := eq_true (by omega)
  have p1d : decide ((n : Int) < (rows.length : Int)) = true := decide_eq_true (by omega)
  have p2 : (n < rows.length) = True := eq_true c1
  have p2d : decide (n < rows.length) = true := decide_eq_true c1
  have p3 : 0 ≤ (n : Int) := by omega
  have hc1 : (w.alloc (.cells #[.int .u32 0, .int .u32 0, .int .u32 0, .int .u32 0, .int .u32 0, .int .u32 0, .int .u32 0, .int .u32 0, .int .u32 0, .int .u32 0] 47)).cell? ⟨g, 1, none⟩ = some (.slice (some ad) rows.length cr) := (blk_cell E1.out 1).trans rfl
  clear hr hx hk c1
  go_enter Try.func64, Try.ntmps64
  go_wp2_with fail
  refine (want_yes 5 _).mono ?_
  rintro e w2 ⟨rfl, rfl⟩
  have hp0 := Nat.le_refl w.heap.size
  have c0 : ∀ i, i < 10 → (w.alloc (.cells #[.int .u32 0, .int .u32 0, .int .u32 0, .int .u32 0, .int .u32 0, .int .u32 0, .int .u32 0, .int .u32 0, .int .u32 0, .int .u32 0] 47)).cell? ⟨w.heap.size, i, none⟩ = some (.int .u32 0) := by
    intro i hi
    rw [blk_cell HBK.out i]
    have : i = 0 ∨ i = 1 ∨ i = 2 ∨ i = 3 ∨ i = 4 ∨ i = 5 ∨ i = 6 ∨ i = 7 ∨ i = 8 ∨ i = 9 := by omega
    rcases this with rfl | rfl | rfl | rfl | rfl | rfl | rfl | rfl | rfl | rfl <;> rfl
  go_wp2
  refine bodyPost_ret (results_cell_row rfl _ _ w.heap.size 47 #[.int .u32 x.f0, .int .u32 x.f1, .int .u32 x.f2, .int .u32 x.f3, .int .u32 x.f4, .int .u32 x.f5, .int .u32 x.f6, .int .u32 x.f7, .int .u32 x.f8, .int .u32 x.f9] (0, 0) _ rfl (heap_alloc_new _ _) Try.underlying47 rfl (by kernel_rfl)) rfl ?_
  exact ⟨rfl, below_alloc (Below.refl _ _) _⟩
theorem cut_to (A : Option Addr) (n c : Nat) (hi' : Nat) (h2 : hi' ≤ n) (hc : n ≤ c) : ∀ W : World, (Instr.slice 27 (.slice A n c) none (some (.int .i64 (hi' : Int))) none).run Try.prog W = .ok (.slice A hi' c) W := by
  intro W
  obtain ⟨i0, hi, hiz⟩ := Option.map_eq_some_iff.1 info5
  simp only [Prod.mk.injEq] at hiz
  have hel : Try.prog.elem 27 = 5 := by simp [Program.elem, Try.underlying27]
  have hu : Try.prog.underlying 27 = some (.slice (Try.prog.elem 27)) := by rw [hel]; exact Try.underlying27
  rw [run_slice_h W 27 A n c hu .i64 (hi' : Int) (by omega) (by omega), hel]
  simp [sizeOf, typeInfo, hi, hiz.2.1, sliced, Result.andThen]
  intro _
  cases A <;> simp [Addr.add]
theorem u8_back (n : Int) (h0 : 0 ≤ n) (h1 : n ≤ 255) : ((UInt8.ofNat n.toNat).toNat : Int) = n := by
  rw [UInt8.toNat_ofNat']
  omega
theorem str_back (l : List Int) (h : AllBytes l) : bytesOf (strOfNums l) = l := by
  unfold bytesOf
  rw [strOfNums_data, List.map_map]
  conv => rhs; rw [← List.map_id l]
  apply List.map_congr_left
  intro x hx
  exact u8_back x (h x hx).1 (h x hx).2
theorem str_toList (l : List Int) : (strOfNums l).toList = l.map fun n => UInt8.ofNat n.toNat := by rw [ByteArray.toList_eq, strOfNums_data]
theorem str_eq (l m : List Int) (hl : AllBytes l) (hm : AllBytes m) : (strOfNums l).toList = (m.map fun n => UInt8.ofNat n.toNat) ↔ l = m := by
  constructor
  · intro h
    have h2 : strOfNums l = strOfNums m := by
      have h3 : (strOfNums l).data.toList = (strOfNums m).data.toList := by rw [← ByteArray.toList_eq, h, strOfNums_data]
      have h4 : (strOfNums l).data = (strOfNums m).data := Array.toList_inj.1 h3
      cases hx : strOfNums l; cases hy : strOfNums m
      rw [hx, hy] at h4
      simp only at h4
      rw [h4]
    rw [← str_back l hl, h2, str_back m hm]
  · rintro rfl
    exact str_toList l
end Go.Proofs.Ytockojajbnnbpaa.E
namespace Go.Proofs.Ytockojajbnnbpaa.E
open Go.RowKit Go.Proofs.Ytockojajbnnbpaa.Q Go.Proofs.YtockojajbnnbpaaW.PrintWords Go.Proofs.YtockojajbnnbpaaW.PrintLast Go.Proofs.YtockojajbnnbpaaW.PrintMore
set_option linter.unusedVariables false
set_option linter.unusedSimpArgs false
theorem magic_bytes : AllBytes magic := by intro x hx; simp [magic] at hx; omega
theorem sizes_bytes : AllBytes sizes := by intro x hx; simp [sizes] at hx; omega
set_option maxRecDepth 100000 in
set_option maxHeartbeats 4000000 in
theorem header_no {g : Nat} {b : List Int} {rows : List S47} (hb : AllBytes b) (hl : b.length < 140737488355328) (h52 : 52 ≤ b.length) (hrl : rows.length < 9223372036854775808) (hx : headerS b rows = none) (w : World) (h : Rd w g b rows) :
    Calls Try.prog 31 #[.pointer (some ⟨g, 0, none⟩)] w fun e w' => e = wrongE 5 ∧ Below w.heap.size w w' := by
  have hu47 := Try.underlying47
  have hal := below_alloc (Below.refl w.heap.size w) (.cells #[.int .u32 0, .int .u32 0, .int .u32 0, .int .u32 0, .int .u32 0, .int .u32 0, .int .u32 0, .int .u32 0, .int .u32 0, .int .u32 0] 47)
  have HR := Aside0.mk (h.below hal)
  have HAL := Aside0.mk hal
  clear h hal
  obtain ⟨A, c, Ar, cr, e1, e2, e3, e4, e5⟩ := HR.out.ex
  obtain ⟨i0, hi, hiz⟩ := Option.map_eq_some_iff.1 info5
  simp only [Prod.mk.injEq] at hiz
  have hcut1 := cut_to A b.length c 32 (by omega) e3
  have hcut2 := cut_mid (P := Try.prog) 27 5 .i64 .i64 Try.underlying27 hi 1 hiz.2.1 A b.length c 36 48 (by decide) (by decide) (by omega) e3
  obtain ⟨A2, hA2⟩ : ∃ A2 : Option Addr, A2 = (if c = (36 : Int).toNat then A else A.map (·.add ((36 : Int).toNat * 1))) := ⟨_, rfl⟩
  rw [← hA2] at hcut2
  have hm := Kd.C_mid (k := Kd.int .u8) (c := c) (lo := 36) (hi := 48) e2 (by decide) (by omega) e3
  have hA3 : (if c = 36 then A else A.map (·.add (36 * (Kd.int IntKind.u8).sz))) = A2 := by rw [hA2]; rfl
  rw [hA3] at hm
  have hm2 : (b.take 48).drop 36 = (b.drop 36).take 12 := by rw [List.drop_take]
  rw [hm2] at hm
  have hl12 : ((b.drop 36).take 12).length = 12 := by rw [List.length_take, List.length_drop]; omega
  have hl32 : (b.take 32).length = 32 := by rw [List.length_take]; omega
  have ht := Kd.C_take (k := Kd.int .u8) (m := 32) e2 (by omega)
  have hs1 := Kd.C_string (c := c) Try.underlying27 (by kernel_rfl : Try.prog.underlying 5 = some (.int .u8)) Try.underlying9 ht
  have hs2 := Kd.C_string (c := c - 36) Try.underlying27 (by kernel_rfl : Try.prog.underlying 5 = some (.int .u8)) Try.underlying9 hm
  rw [hl32] at hs1
  rw [hl12] at hs2
  have q1 := str_eq (b.take 32) magic (fun x hx => hb x (List.mem_of_mem_take hx)) magic_bytes
  have q2 := str_eq ((b.drop 36).take 12) sizes (fun x hx => hb x (List.mem_of_mem_drop (List.mem_of_mem_take hx))) sizes_bytes
  have hc0 : (w.alloc (.cells #[.int .u32 0, .int .u32 0, .int .u32 0, .int .u32 0, .int .u32 0, .int .u32 0, .int .u32 0, .int .u32 0, .int .u32 0, .int .u32 0] 47)).cell? ⟨g, 0, none⟩ = some (.slice A b.length c) := (blk_cell e1 0).trans rfl
  generalize strOfNums (b.take 32) = s1 at *
  generalize strOfNums ((b.drop 36).take 12) = s2 at *
  clear hm ht hA2 hA3 hm2 hiz hi
  go_enter Try.func31, Try.ntmps31
  by_cases c1 : b.take 32 = magic
  · by_cases c2 : (b.drop 36).take 12 = sizes
    · have f1 : (s1.toList == [127, 69, 76, 70, 1, 1, 1, 0, 0, 0, 0, 0, 0, 0, 0, 0, 1, 0, 243, 0, 1, 0, 0, 0, 0, 0, 0, 0, 0, 0, 0, 0]) = true := by
        rw [beq_iff_eq]
        exact q1.2 c1
      have f2 : (s2.toList == [0, 0, 0, 0, 52, 0, 0, 0, 0, 0, 40, 0]) = true := by
        rw [beq_iff_eq]
        exact q2.2 c2
      clear q1 q2 e2
      go_wp2_with fail
      refine (want_yes 5 _).mono ?_
      rintro e w2 ⟨rfl, rfl⟩
      have hc1 : (w.alloc (.cells #[.int .u32 0, .int .u32 0, .int .u32 0, .int .u32 0, .int .u32 0, .int .u32 0, .int .u32 0, .int .u32 0, .int .u32 0, .int .u32 0] 47)).cell? ⟨g, 1, none⟩ = some (.slice Ar rows.length cr) := (blk_cell e1 1).trans rfl
      by_cases c3 : 0 < rows.length
      · have hr := rd47_get rows 0 c3
        obtain ⟨ad, ea, x0, x1, _⟩ := at_T47 e4 (0 : Int) (by omega) (by omega)
        cases ea
        have x1' : (w.alloc (.cells #[.int .u32 0, .int .u32 0, .int .u32 0, .int .u32 0, .int .u32 0, .int .u32 0, .int .u32 0, .int .u32 0, .int .u32 0, .int .u32 0] 47)).cell? ⟨ad.block, ad.off + 1, none⟩ = some (.int .u32 (rd_T47 rows 0).f1) := by simpa [Addr.add] using x1
        have g1 : decide ((0 : Int) < (rows.length : Int)) = true := decide_eq_true (by omega)
        have g2 : ((0 : Int) < (rows.length : Int)) = True := eq_true (by omega)
        have g3 : (0 < rows.length) = True := eq_true c3
        have g4 : decide (0 < rows.length) = true := decide_eq_true c3
        have hcond : (rows[0]?).map (·.f1) = some (rd_T47 rows ((0 : Nat) : Int)).f1 := by rw [hr]; rfl
        have hrr : rd_T47 rows ((0 : Nat) : Int) = rd_T47 rows 0 := rfl
        rw [hrr] at hcond
        generalize rd_T47 rows 0 = y at x1 x1' hcond
        by_cases c4 : y.f1 = 0
        · have g5 : (y.f1 == 0) = true := by simpa using c4
          have hrs : rowS rows (gw b 50 2) 3 = none := by
            unfold headerS at hx
            rw [if_pos ⟨c1, c2, by rw [hcond, c4]⟩] at hx
            exact hx
          clear hcond hr x0 x1
          go_wp2_with fail
          refine (want_yes 5 _).mono ?_
          rintro e w2 ⟨rfl, rfl⟩
          clear x1'
          go_wp2_with fail
          refine (get_ok hb hl 50 2 (.inl rfl) (by omega) _ HR.out).mono ?_
          rintro e w2 ⟨rfl, hb2⟩
          have hrg := gw_rg b hb 50 2 (by decide)
          obtain ⟨nn, hnn⟩ := Int.eq_ofNat_of_zero_le hrg.1
          rw [hnn] at hrs ⊢
          go_wp2_with fail
          refine (row_no nn 3 (by omega) hrs hrl _ (HR.out.below hb2)).mono ?_
          rintro e w3 ⟨rfl, hb3⟩
          exact ⟨rfl, rfl, below_step (below_step HAL.out hb2) hb3⟩
        · have g5 : (y.f1 == 0) = false := by simpa using c4
          clear hcond hr x0 x1
          go_wp2_with fail
          refine (want_no 5 _).mono ?_
          rintro e w2 ⟨rfl, rfl⟩
          exact ⟨rfl, rfl, HAL.out⟩
      · have g1 : decide ((0 : Int) < (rows.length : Int)) = false := decide_eq_false (by omega)
        have g2 : ((0 : Int) < (rows.length : Int)) = False := eq_false (by omega)
        have g3 : (0 < rows.length) = False := eq_false c3
        have g4 : decide (0 < rows.length) = false := decide_eq_false c3
        go_wp2_with fail
        refine (want_no 5 _).mono ?_
        rintro e w2 ⟨rfl, rfl⟩
        exact ⟨rfl, rfl, HAL.out⟩
    · have f1 : (s1.toList == [127, 69, 76, 70, 1, 1, 1, 0, 0, 0, 0, 0, 0, 0, 0, 0, 1, 0, 243, 0, 1, 0, 0, 0, 0, 0, 0, 0, 0, 0, 0, 0]) = true := by
        rw [beq_iff_eq]
        exact q1.2 c1
      have f2 : (s2.toList == [0, 0, 0, 0, 52, 0, 0, 0, 0, 0, 40, 0]) = false := by
        rw [beq_eq_false_iff_ne]
        exact fun h => c2 (q2.1 h)
      clear q1 q2 e2 e4
      go_wp2_with fail
      refine (want_no 5 _).mono ?_
      rintro e w2 ⟨rfl, rfl⟩
      exact ⟨rfl, rfl, HAL.out⟩
  · have f1 : (s1.toList == [127, 69, 76, 70, 1, 1, 1, 0, 0, 0, 0, 0, 0, 0, 0, 0, 1, 0, 243, 0, 1, 0, 0, 0, 0, 0, 0, 0, 0, 0, 0, 0]) = false := by
      rw [beq_eq_false_iff_ne]
      exact fun h => c1 (q1.1 h)
    clear q1 q2 e2 e4
    go_wp2_with fail
    refine (want_no 5 _).mono ?_
    rintro e w2 ⟨rfl, rfl⟩
    exact ⟨rfl, rfl, HAL.out⟩
set_option maxRecDepth 100000 in
set_option maxHeartbeats 4000000 in
theorem header_ok {g : Nat} {b : List Int} {rows : List S47} (hb : AllBytes b) (hl : b.length < 140737488355328) (h52 : 52 ≤ b.length) (hrl : rows.length < 9223372036854775808) (x : S47) (hx : headerS b rows = some x) (w : World) (h : Rd w g b rows) :
    Calls Try.prog 31 #[.pointer (some ⟨g, 0, none⟩)] w fun e w' => e = .returned (.agg #[.int .u32 x.f0, .int .u32 x.f1, .int .u32 x.f2, .int .u32 x.f3, .int .u32 x.f4, .int .u32 x.f5, .int .u32 x.f6, .int .u32 x.f7, .int .u32 x.f8, .int .u32 x.f9]) ∧ Below w.heap.size w w' := by
  have hu47 := Try.underlying47
  have hal := below_alloc (Below.refl w.heap.size w) (.cells #[.int .u32 0, .int .u32 0, .int .u32 0, .int .u32 0, .int .u32 0, .int .u32 0, .int .u32 0, .int .u32 0, .int .u32 0, .int .u32 0] 47)
  have HR := Aside0.mk (h.below hal)
  have HAL := Aside0.mk hal
  clear h hal
  obtain ⟨A, c, Ar, cr, e1, e2, e3, e4, e5⟩ := HR.out.ex
  obtain ⟨i0, hi, hiz⟩ := Option.map_eq_some_iff.1 info5
  simp only [Prod.mk.injEq] at hiz
  have hcut1 := cut_to A b.length c 32 (by omega) e3
  have hcut2 := cut_mid (P := Try.prog) 27 5 .i64 .i64 Try.underlying27 hi 1 hiz.2.1 A b.length c 36 48 (by decide) (by decide) (by omega) e3
  obtain ⟨A2, hA2⟩ : ∃ A2 : Option Addr, A2 = (if c = (36 : Int).toNat then A else A.map (·.add ((36 : Int).toNat * 1))) := ⟨_, rfl⟩
  rw [← hA2] at hcut2
  have hm := Kd.C_mid (k := Kd.int .u8) (c := c) (lo := 36) (hi := 48) e2 (by decide) (by omega) e3
  have hA3 : (if c = 36 then A else A.map (·.add (36 * (Kd.int IntKind.u8).sz))) = A2 := by rw [hA2]; rfl
  rw [hA3] at hm
  have hm2 : (b.take 48).drop 36 = (b.drop 36).take 12 := by rw [List.drop_take]
  rw [hm2] at hm
  have hl12 : ((b.drop 36).take 12).length = 12 := by rw [List.length_take, List.length_drop]; omega
  have hl32 : (b.take 32).length = 32 := by rw [List.length_take]; omega
  have ht := Kd.C_take (k := Kd.int .u8) (m := 32) e2 (by omega)
  have hs1 := Kd.C_string (c := c) Try.underlying27 (by kernel_rfl : Try.prog.underlying 5 = some (.int .u8)) Try.underlying9 ht
  have hs2 := Kd.C_string (c := c - 36) Try.underlying27 (by kernel_rfl : Try.prog.underlying 5 = some (.int .u8)) Try.underlying9 hm
  rw [hl32] at hs1
  rw [hl12] at hs2
  have q1 := str_eq (b.take 32) magic (fun x hx => hb x (List.mem_of_mem_take hx)) magic_bytes
  have q2 := str_eq ((b.drop 36).take 12) sizes (fun x hx => hb x (List.mem_of_mem_drop (List.mem_of_mem_take hx))) sizes_bytes
  have hc0 : (w.alloc (.cells #[.int .u32 0, .int .u32 0, .int .u32 0, .int .u32 0, .int .u32 0, .int .u32 0, .int .u32 0, .int .u32 0, .int .u32 0, .int .u32 0] 47)).cell? ⟨g, 0, none⟩ = some (.slice A b.length c) := (blk_cell e1 0).trans rfl
  generalize strOfNums (b.take 32) = s1 at *
  generalize strOfNums ((b.drop 36).take 12) = s2 at *
  clear hm ht hA2 hA3 hm2 hiz hi
  go_enter Try.func31, Try.ntmps31
  have hc : b.take 32 = magic ∧ (b.drop 36).take 12 = sizes ∧ (rows[0]?).map (·.f1) = some 0 := by
    unfold headerS at hx
    by_cases h : b.take 32 = magic ∧ (b.drop 36).take 12 = sizes ∧ (rows[0]?).map (·.f1) = some 0
    · exact h
    · rw [if_neg h] at hx; cases hx
  have hrs : rowS rows (gw b 50 2) 3 = some x := by
    unfold headerS at hx
    rw [if_pos hc] at hx
    exact hx
  obtain ⟨c1, c2, c34⟩ := hc
  have c3 : 0 < rows.length := by
    rcases Nat.eq_zero_or_pos rows.length with h | h
    · rw [List.eq_nil_of_length_eq_zero h] at c34; cases c34
    · exact h
  have f1 : (s1.toList == [127, 69, 76, 70, 1, 1, 1, 0, 0, 0, 0, 0, 0, 0, 0, 0, 1, 0, 243, 0, 1, 0, 0, 0, 0, 0, 0, 0, 0, 0, 0, 0]) = true := by
    rw [beq_iff_eq]
    exact q1.2 c1
  have f2 : (s2.toList == [0, 0, 0, 0, 52, 0, 0, 0, 0, 0, 40, 0]) = true := by
    rw [beq_iff_eq]
    exact q2.2 c2
  clear q1 q2 e2
  go_wp2_with fail
  refine (want_yes 5 _).mono ?_
  rintro e w2 ⟨rfl, rfl⟩
  have hc1 : (w.alloc (.cells #[.int .u32 0, .int .u32 0, .int .u32 0, .int .u32 0, .int .u32 0, .int .u32 0, .int .u32 0, .int .u32 0, .int .u32 0, .int .u32 0] 47)).cell? ⟨g, 1, none⟩ = some (.slice Ar rows.length cr) := (blk_cell e1 1).trans rfl
  have hr := rd47_get rows 0 c3
  obtain ⟨ad, ea, x0, x1, _⟩ := at_T47 e4 (0 : Int) (by omega) (by omega)
  cases ea
  have x1' : (w.alloc (.cells #[.int .u32 0, .int .u32 0, .int .u32 0, .int .u32 0, .int .u32 0, .int .u32 0, .int .u32 0, .int .u32 0, .int .u32 0, .int .u32 0] 47)).cell? ⟨ad.block, ad.off + 1, none⟩ = some (.int .u32 (rd_T47 rows 0).f1) := by simpa [Addr.add] using x1
  have g1 : decide ((0 : Int) < (rows.length : Int)) = true := decide_eq_true (by omega)
  have g2 : ((0 : Int) < (rows.length : Int)) = True := eq_true (by omega)
  have g3 : (0 < rows.length) = True := eq_true c3
  have g4 : decide (0 < rows.length) = true := decide_eq_true c3
  have hcond : (rows[0]?).map (·.f1) = some (rd_T47 rows ((0 : Nat) : Int)).f1 := by rw [hr]; rfl
  have hrr : rd_T47 rows ((0 : Nat) : Int) = rd_T47 rows 0 := rfl
  rw [hrr] at hcond
  generalize rd_T47 rows 0 = y at x1 x1' hcond
  have c4 : y.f1 = 0 := by rw [hcond] at c34; exact Option.some.inj c34
  have g5 : (y.f1 == 0) = true := by simpa using c4
  clear hcond hr x0 x1 c34
  go_wp2_with fail
  refine (want_yes 5 _).mono ?_
  rintro e w2 ⟨rfl, rfl⟩
  clear x1'
  go_wp2_with fail
  refine (get_ok hb hl 50 2 (.inl rfl) (by omega) _ HR.out).mono ?_
  rintro e w2 ⟨rfl, hb2⟩
  have hrg := gw_rg b hb 50 2 (by decide)
  obtain ⟨nn, hnn⟩ := Int.eq_ofNat_of_zero_le hrg.1
  rw [hnn] at hrs ⊢
  go_wp2_with fail
  refine (row_ok nn 3 x (by omega) hrs hrl _ (HR.out.below hb2)).mono ?_
  rintro e w3 ⟨rfl, hb3⟩
  have HBF := Aside0.mk (below_step (below_step HAL.out hb2) hb3)
  have HBK := Aside0.mk (blk_below (blk_below (heap_alloc_new w (.cells #[.int .u32 0, .int .u32 0, .int .u32 0, .int .u32 0, .int .u32 0, .int .u32 0, .int .u32 0, .int .u32 0, .int .u32 0, .int .u32 0] 47)) hb2) hb3)
  obtain ⟨p, hp⟩ : ∃ p, p = w.heap.size := ⟨_, rfl⟩
  rw [← hp] at HBK ⊢
  have HPS := Aside0.mk hp
  clear hb2 hb3 hrs hrg hnn hc0 hc1 hp
  have d0 : w3.cell? ⟨p, 0, none⟩ = some (.int .u32 0) := (blk_cell HBK.out 0).trans rfl
  have e0' : w3.frozen? ⟨p, 0, none⟩ = false := blk_frozen HBK.out 0
  have d1 : w3.cell? ⟨p, 1, none⟩ = some (.int .u32 0) := (blk_cell HBK.out 1).trans rfl
  have e1' : w3.frozen? ⟨p, 1, none⟩ = false := blk_frozen HBK.out 1
  have d2 : w3.cell? ⟨p, 2, none⟩ = some (.int .u32 0) := (blk_cell HBK.out 2).trans rfl
  have e2' : w3.frozen? ⟨p, 2, none⟩ = false := blk_frozen HBK.out 2
  have d3 : w3.cell? ⟨p, 3, none⟩ = some (.int .u32 0) := (blk_cell HBK.out 3).trans rfl
  have e3' : w3.frozen? ⟨p, 3, none⟩ = false := blk_frozen HBK.out 3
  have d4 : w3.cell? ⟨p, 4, none⟩ = some (.int .u32 0) := (blk_cell HBK.out 4).trans rfl
  have e4' : w3.frozen? ⟨p, 4, none⟩ = false := blk_frozen HBK.out 4
  have d5 : w3.cell? ⟨p, 5, none⟩ = some (.int .u32 0) := (blk_cell HBK.out 5).trans rfl
  have e5' : w3.frozen? ⟨p, 5, none⟩ = false := blk_frozen HBK.out 5
  have d6 : w3.cell? ⟨p, 6, none⟩ = some (.int .u32 0) := (blk_cell HBK.out 6).trans rfl
  have e6' : w3.frozen? ⟨p, 6, none⟩ = false := blk_frozen HBK.out 6
  have d7 : w3.cell? ⟨p, 7, none⟩ = some (.int .u32 0) := (blk_cell HBK.out 7).trans rfl
  have e7' : w3.frozen? ⟨p, 7, none⟩ = false := blk_frozen HBK.out 7
  have d8 : w3.cell? ⟨p, 8, none⟩ = some (.int .u32 0) := (blk_cell HBK.out 8).trans rfl
  have e8' : w3.frozen? ⟨p, 8, none⟩ = false := blk_frozen HBK.out 8
  have d9 : w3.cell? ⟨p, 9, none⟩ = some (.int .u32 0) := (blk_cell HBK.out 9).trans rfl
  have e9' : w3.frozen? ⟨p, 9, none⟩ = false := blk_frozen HBK.out 9
  go_wp2
  have hres : ((((((((((w3.setCell ⟨p, 0, none⟩ (.int .u32 x.f0)).setCell ⟨p, 1, none⟩ (.int .u32 x.f1)).setCell ⟨p, 2, none⟩ (.int .u32 x.f2)).setCell ⟨p, 3, none⟩ (.int .u32 x.f3)).setCell ⟨p, 4, none⟩ (.int .u32 x.f4)).setCell ⟨p, 5, none⟩ (.int .u32 x.f5)).setCell ⟨p, 6, none⟩ (.int .u32 x.f6)).setCell ⟨p, 7, none⟩ (.int .u32 x.f7)).setCell ⟨p, 8, none⟩ (.int .u32 x.f8)).setCell ⟨p, 9, none⟩ (.int .u32 x.f9)).heap[p]? = some (.cells #[.int .u32 x.f0, .int .u32 x.f1, .int .u32 x.f2, .int .u32 x.f3, .int .u32 x.f4, .int .u32 x.f5, .int .u32 x.f6, .int .u32 x.f7, .int .u32 x.f8, .int .u32 x.f9] 47 (0, 0)) := by
    refine blk_put (cs := #[.int .u32 x.f0, .int .u32 x.f1, .int .u32 x.f2, .int .u32 x.f3, .int .u32 x.f4, .int .u32 x.f5, .int .u32 x.f6, .int .u32 x.f7, .int .u32 x.f8, .int .u32 0]) ?_ 9 _ rfl
    refine blk_put (cs := #[.int .u32 x.f0, .int .u32 x.f1, .int .u32 x.f2, .int .u32 x.f3, .int .u32 x.f4, .int .u32 x.f5, .int .u32 x.f6, .int .u32 x.f7, .int .u32 0, .int .u32 0]) ?_ 8 _ rfl
    refine blk_put (cs := #[.int .u32 x.f0, .int .u32 x.f1, .int .u32 x.f2, .int .u32 x.f3, .int .u32 x.f4, .int .u32 x.f5, .int .u32 x.f6, .int .u32 0, .int .u32 0, .int .u32 0]) ?_ 7 _ rfl
    refine blk_put (cs := #[.int .u32 x.f0, .int .u32 x.f1, .int .u32 x.f2, .int .u32 x.f3, .int .u32 x.f4, .int .u32 x.f5, .int .u32 0, .int .u32 0, .int .u32 0, .int .u32 0]) ?_ 6 _ rfl
    refine blk_put (cs := #[.int .u32 x.f0, .int .u32 x.f1, .int .u32 x.f2, .int .u32 x.f3, .int .u32 x.f4, .int .u32 0, .int .u32 0, .int .u32 0, .int .u32 0, .int .u32 0]) ?_ 5 _ rfl
    refine blk_put (cs := #[.int .u32 x.f0, .int .u32 x.f1, .int .u32 x.f2, .int .u32 x.f3, .int .u32 0, .int .u32 0, .int .u32 0, .int .u32 0, .int .u32 0, .int .u32 0]) ?_ 4 _ rfl
    refine blk_put (cs := #[.int .u32 x.f0, .int .u32 x.f1, .int .u32 x.f2, .int .u32 0, .int .u32 0, .int .u32 0, .int .u32 0, .int .u32 0, .int .u32 0, .int .u32 0]) ?_ 3 _ rfl
    refine blk_put (cs := #[.int .u32 x.f0, .int .u32 x.f1, .int .u32 0, .int .u32 0, .int .u32 0, .int .u32 0, .int .u32 0, .int .u32 0, .int .u32 0, .int .u32 0]) ?_ 2 _ rfl
    refine blk_put (cs := #[.int .u32 x.f0, .int .u32 0, .int .u32 0, .int .u32 0, .int .u32 0, .int .u32 0, .int .u32 0, .int .u32 0, .int .u32 0, .int .u32 0]) ?_ 1 _ rfl
    refine blk_put (cs := #[.int .u32 0, .int .u32 0, .int .u32 0, .int .u32 0, .int .u32 0, .int .u32 0, .int .u32 0, .int .u32 0, .int .u32 0, .int .u32 0]) ?_ 0 _ rfl
    exact HBK.out
  refine bodyPost_ret (results_cell_row rfl _ _ p 47 #[.int .u32 x.f0, .int .u32 x.f1, .int .u32 x.f2, .int .u32 x.f3, .int .u32 x.f4, .int .u32 x.f5, .int .u32 x.f6, .int .u32 x.f7, .int .u32 x.f8, .int .u32 x.f9] (0, 0) _ rfl hres Try.underlying47 rfl (by kernel_rfl)) rfl ?_
  have hpz : w.heap.size ≤ p := Nat.le_of_eq HPS.out.symm
  exact ⟨rfl, ((((((((((HBF.out.setCell hpz _).setCell hpz _).setCell hpz _).setCell hpz _).setCell hpz _).setCell hpz _).setCell hpz _).setCell hpz _).setCell hpz _).setCell hpz _)⟩
end Go.Proofs.Ytockojajbnnbpaa.E
namespace Go.Proofs.Ytockojajbnnbpaa.E
open Go.RowKit Go.Proofs.Ytockojajbnnbpaa.Q Go.Proofs.YtockojajbnnbpaaW.PrintWords Go.Proofs.YtockojajbnnbpaaW.PrintLast Go.Proofs.YtockojajbnnbpaaW.PrintMore
set_option linter.unusedVariables false
set_option linter.unusedSimpArgs false
set_option maxRecDepth 100000 in
set_option maxHeartbeats 8000000 in
theorem symbols_calls {S : Nat → Prop} {g : Nat} {A : Option Addr} {c : Nat} (l : List S94) (w : World) (h : Tx w S g [0]) (hC : Kd.C k94 w A l.length l) (hA : 0 < l.length → ∀ ad, A = some ad → ¬ S ad.block) (hr : ∀ x ∈ l, SymRg x ∧ x.f0.size ≤ 64 ∧ x.f3 ≤ 2 ∧ x.f4 ≤ 3 ∧ -3 ≤ x.f6 ∧ x.f6 < 64) (hz : l.length ≤ 512) :
    Calls Try.prog 25 #[.slice A l.length c, .pointer (some ⟨g, 0, none⟩)] w fun e w' => ∃ v S1 S2, e = .returned (.tuple #[v, .int .u32 (l.foldl symStep ⟨List.replicate 16 0, [0], 1⟩).loc]) ∧ Rb w' S1 v (l.foldl symStep ⟨List.replicate 16 0, [0], 1⟩).b ∧ Tx w' S2 g (l.foldl symStep ⟨List.replicate 16 0, [0], 1⟩).own ∧ Two w w' S S1 S2 := by
  have hu94 := Try.underlying94
  have hu50 := Try.underlying50
  have HC := Aside0.mk hC
  have HA := Aside0.mk hA
  have HR := Aside0.mk hr
  have HZ := Aside0.mk hz
  have HS := Aside0.mk h.lt
  have HT0 := Aside0.mk h
  clear h hC hA hr hz
  go_enter Try.func25, Try.ntmps25
  go_wp2_with (first | ((with_reducible refine gate_dst (N := 10) rfl ?_); refine ev_make rfl (N := 10) rfl _ _ rfl 16 rfl rfl (by decide) ?_; intro L0 A0 c0 w1 hL0 hr0 hb0; have HL0 := hL0; have HR0 := Aside0.mk hr0; have HB0 := Aside0.mk hb0; clear hL0 hr0 hb0))
  have HY0 : Aside0 (∃ S1, Ys w (w1.alloc (.cells #[.slice A0 L0.length c0, .slice none 0 0] 50)) S S1 S w1.heap.size g L0 [0]) := ⟨by
    have hal := below_alloc (Below.refl w1.heap.size w1) (.cells #[.slice A0 L0.length c0, .slice none 0 0] 50)
    have hz := HB0.out.size
    have hz1 : (w1.alloc (.cells #[.slice A0 L0.length c0, .slice none 0 0] 50)).heap.size = w1.heap.size + 1 := by simp
    refine ⟨_, ⟨⟨_, _, Wr.init HR0.out (fun k hk => hk.2)⟩, (HT0.out.below HB0.out).below hal, ⟨(Fr.of_below HB0.out).trans (Fr.of_below hal), fun k hk => ?_, fun k hk => ⟨.inl hk, by have := HS.out k hk; omega⟩, fun k hk h2 => ?_⟩⟩⟩
    · rcases hk with h1 | h1 <;> omega
    · have := HS.out k h2
      rcases hk with h1 | h1 <;> omega⟩
  clear HT0 HR0 HB0
  generalize (w1.alloc (.cells #[.slice A0 L0.length c0, .slice none 0 0] 50)) = w2 at *
  generalize w1.heap.size = gw at *
  go_wp2_with fail
  have HY1 : Aside0 (∃ S1 S2, Ys w w2 S S1 S2 gw g ((l.take 0).foldl symStep ⟨L0, [0], 1⟩).b ((l.take 0).foldl symStep ⟨L0, [0], 1⟩).own) := ⟨by obtain ⟨S1, h⟩ := HY0.out; exact ⟨S1, S, h⟩⟩
  clear HY0
  go_loopg [5, 15] (l.length + 1) (fun kq v5 v15 w' => ∃ (i : Nat), v15 = .int .i64 (i : Int) ∧ v5 = .int .u32 ((l.take i).foldl symStep ⟨L0, [0], 1⟩).loc ∧ Aside0 (i + kq = l.length + 1) ∧ Aside0 (i ≤ l.length) ∧ Aside0 (∃ S1 S2, Ys w w' S S1 S2 gw g ((l.take i).foldl symStep ⟨L0, [0], 1⟩).b ((l.take i).foldl symStep ⟨L0, [0], 1⟩).own))
  case atStart => exact ⟨0, rfl, rfl, ⟨by omega⟩, ⟨by omega⟩, HY1⟩
  case round =>
    clear HY1
    obtain ⟨i, rfl, rfl, HK, HI, HY⟩ := hrel
    by_cases c1 : i < l.length
    · cases gk with
      | zero => exact absurd HK.out (by have := HI.out; omega)
      | succ gk =>
        obtain ⟨S1, S2, hy⟩ := HY.out
        obtain ⟨ad, ea, x0, x1, x2, x3, x4, x5, x6⟩ := at_T94 (C_fr (d := k94) (fun hK => hK) HC.out hy.s.fr (HA.out (by omega))) (i : Int) (by omega) (by omega)
        cases ea
        rw [Int.toNat_natCast] at x0 x1 x2 x3 x4 x5 x6
        have hx : l[i]? = some (rd_T94 l (i : Int)) := by unfold rd_T94; rw [Int.toNat_natCast, List.getD_eq_getElem?_getD, List.getElem?_eq_getElem c1]; rfl
        have hrg := HR.out _ (List.mem_of_getElem? hx)
        have hst := symStep_at l i _ hx ⟨L0, [0], 1⟩
        generalize rd_T94 l (i : Int) = x at x0 x1 x2 x3 x4 x5 x6 hx hrg hst
        obtain ⟨y0, y1, y2, y3, y4, y5, y6⟩ := x
        simp only at x0 x1 x2 x3 x4 x5 x6
        have hob : ((l.take i).foldl symStep ⟨L0, [0], 1⟩).b.length = L0.length + 16 * i := by rw [symB_len, List.length_take, Nat.min_eq_left (by omega)]
        have hoo := symO_len (l.take i) (fun x hx => (HR.out x (List.mem_of_mem_take hx)).2.1) ⟨L0, [0], 1⟩
        have hlo := symL_le (l.take i) ⟨L0, [0], 1⟩
        rw [List.length_take] at hlo
        have hl0 : L0.length = 16 := by rw [HL0.out]; simp
        have hz2 := HZ.out
        simp only [List.length_cons, List.length_nil, List.length_take] at hoo
        generalize (l.take i).foldl symStep ⟨L0, [0], 1⟩ = Y at *
        have hzz : Aside0 (Y.b.length ≤ 10000 ∧ Y.own.length ≤ 40000 ∧ 0 < Y.own.length ∧ y0.size ≤ 64 ∧ 0 ≤ Y.loc ∧ Y.loc ≤ 1000) := ⟨by have := hrg.2.1; simp only at this hlo; omega⟩
        have p1 : ((i : Int) < (l.length : Int)) = True := eq_true (by omega)
        have p2 : (i < l.length) = True := eq_true c1
        have p3 : 0 ≤ (i : Int) := by omega
        have HX := Aside0.mk hrg
        have HRX := Aside0.mk (And.intro hrg.1.1 hrg.1.2.1)
        have HLC : (Y.loc + 1) % 4294967296 = Y.loc + 1 := by have := hzz.out; omega
        have HST := Aside0.mk hst
        have HC1 := Aside0.mk c1
        have HY3 := Aside0.mk hy
        have q3 : 0 ≤ y3 := hrg.1.2.2.1.1
        have q4 : y3 ≤ 255 := hrg.1.2.2.1.2
        have q5 : 0 ≤ y4 := hrg.1.2.2.2.1
        have q6 : y4 ≤ 255 := hrg.1.2.2.2.2
        clear hx hrg hst c1 hob hoo hlo hl0 hz2 HY hy HL0
        rcases Bool.eq_false_or_eq_true y5 with e5 | e5 <;> subst e5 <;> by_cases e3 : y3 = 0
        all_goals (have e3b : (y3 == 0) = decide (y3 = 0) := rfl)
        · subst e3
          have hs1 := HY3.out.w.lt
          have hs2 := HY3.out.t.lt
          have NP1 : ¬ S1 wr.heap.size := fun h => Nat.lt_irrefl _ (hs1 _ h)
          have NP2 : ¬ S2 wr.heap.size := fun h => Nat.lt_irrefl _ (hs2 _ h)
          have HB7 := Aside0.mk (heap_alloc_new wr (.cells #[.string y0, .int .u32 y1, .int .u32 y2, .int .u8 0, .int .u8 y4, .bool true, .int .i64 y6] 94))
          have HY4 := Aside0.mk (HY3.out.below (below_alloc (Below.refl _ _) (.cells #[.string y0, .int .u32 y1, .int .u32 y2, .int .u8 0, .int .u8 y4, .bool true, .int .i64 y6] 94)))
          have HINF := Aside0.mk (info_is 0 y4 512 y6 q3 HX.out.2.2.1 q5 HX.out.2.2.2.1 (.inr rfl) HX.out.2.2.2.2.1 HX.out.2.2.2.2.2)
          have HRG := Aside0.mk (show 0 ≤ 16 * 0 + y4 + 512 + 65536 * inS y6 ∧ 16 * 0 + y4 + 512 + 65536 * inS y6 < 4294967296 from (by have h1 := HX.out.2.2.1; have h2 := HX.out.2.2.2.1; have h3 := inS_rg y6 HX.out.2.2.2.2.1 (by have h4 := HX.out.2.2.2.2.2; have h7 : y6 < 64 := h4; omega); simp only at h1 h2; omega))
          have HADD := Aside0.mk (show 0 ≤ (addS Y.own y0).1 ∧ (addS Y.own y0).1 < 4294967296 from (by unfold addS; split; exact ⟨by simp, by simp⟩; exact ⟨by omega, by omega⟩))
          clear hs1 hs2 HY3
          go_wp2
          generalize (wr.alloc (.cells #[.string y0, .int .u32 y1, .int .u32 y2, .int .u8 0, .int .u8 y4, .bool true, .int .i64 y6] 94)) = w3 at *
          generalize wr.heap.size = p at *
          have hs : w3.cell? ⟨p, 0, none⟩ = some (.string y0) ∧ w3.cell? ⟨p, 1, none⟩ = some (.int .u32 y1) ∧ w3.cell? ⟨p, 2, none⟩ = some (.int .u32 y2) ∧ w3.cell? ⟨p, 3, none⟩ = some (.int .u8 0) ∧ w3.cell? ⟨p, 4, none⟩ = some (.int .u8 y4) ∧ w3.cell? ⟨p, 5, none⟩ = some (.bool true) ∧ w3.cell? ⟨p, 6, none⟩ = some (.int .i64 y6) :=
            ⟨(blk_cell HB7.out 0).trans rfl, (blk_cell HB7.out 1).trans rfl, (blk_cell HB7.out 2).trans rfl, (blk_cell HB7.out 3).trans rfl, (blk_cell HB7.out 4).trans rfl, (blk_cell HB7.out 5).trans rfl, (blk_cell HB7.out 6).trans rfl⟩
          have hyd : Ys w w3.drew S S1 S2 gw g Y.b Y.own := HY4.out.below (Below.refl _ _).drew
          clear x0 x1 x2 x3 x4 x5 x6 HB7 HY4
          go_region_held3 (fun w' => w'.cell? ⟨p, 0, none⟩ = some (.string y0) ∧ w'.cell? ⟨p, 1, none⟩ = some (.int .u32 y1) ∧ w'.cell? ⟨p, 2, none⟩ = some (.int .u32 y2) ∧ w'.cell? ⟨p, 3, none⟩ = some (.int .u8 0) ∧ w'.cell? ⟨p, 4, none⟩ = some (.int .u8 y4) ∧ w'.cell? ⟨p, 5, none⟩ = some (.bool true) ∧ w'.cell? ⟨p, 6, none⟩ = some (.int .i64 y6)) (first | with_reducible assumption | (with_reducible refine keep7 keepD ?_; with_reducible assumption) | (with_reducible refine keep7 (keepA _) ?_; with_reducible assumption) | (with_reducible exact keep7 (keepB (by with_reducible assumption)) (by with_reducible assumption)) | (with_reducible exact keep7 (keepF (by with_reducible assumption) (by with_reducible assumption)) (by with_reducible assumption))) (first | (go_at_call 24; ((with_reducible refine (add_ys y0 (by with_reducible assumption) hzz.out.2.2.1 (by have := hzz.out; omega)).mono ?_)); rintro e w' ⟨rfl, S2', hy', hf'⟩) | (go_at_call 61; ((with_reducible refine (in61_calls y6 HX.out.2.2.2.2.1 (by have h6 := HX.out.2.2.2.2.2; have h7 : y6 < 64 := h6; omega) _).mono ?_)); rintro e w' ⟨rfl, hb'⟩; have hyb := Ys.below (by with_reducible assumption) hb') | (go_at_call 26; ((with_reducible refine (word4_ys (addS Y.own y0).1 y1 y2 (16 * 0 + y4 + 512 + 65536 * inS y6) _ HINF.out HS.out (by with_reducible assumption) HADD.out HRX.out.1 HRX.out.2 HRG.out (by have := hzz.out; omega)).mono ?_)); rintro e w' ⟨rfl, S1', hyw, hf'⟩; have hkw := fun hp => (hf'.block p hp NP1)))
          all_goals (
            have HE := Aside0.mk hyw
            go_wp2
            go_roundg gk
            case measure => omega
            case rel => exact ⟨i + 1, congrArg (Value.int .i64) (w64s i (by have := HC1.out; have := HZ.out; omega)), by rw [HST.out]; simp [symStep], ⟨by have := HK.out; omega⟩, ⟨HC1.out⟩, ⟨_, _, by rw [HST.out]; exact HE.out⟩⟩)
        · have hs1 := HY3.out.w.lt
          have hs2 := HY3.out.t.lt
          have NP1 : ¬ S1 wr.heap.size := fun h => Nat.lt_irrefl _ (hs1 _ h)
          have NP2 : ¬ S2 wr.heap.size := fun h => Nat.lt_irrefl _ (hs2 _ h)
          have HB7 := Aside0.mk (heap_alloc_new wr (.cells #[.string y0, .int .u32 y1, .int .u32 y2, .int .u8 y3, .int .u8 y4, .bool true, .int .i64 y6] 94))
          have HY4 := Aside0.mk (HY3.out.below (below_alloc (Below.refl _ _) (.cells #[.string y0, .int .u32 y1, .int .u32 y2, .int .u8 y3, .int .u8 y4, .bool true, .int .i64 y6] 94)))
          have HINF := Aside0.mk (info_is y3 y4 512 y6 q3 HX.out.2.2.1 q5 HX.out.2.2.2.1 (.inr rfl) HX.out.2.2.2.2.1 HX.out.2.2.2.2.2)
          have HRG := Aside0.mk (show 0 ≤ 16 * y3 + y4 + 512 + 65536 * inS y6 ∧ 16 * y3 + y4 + 512 + 65536 * inS y6 < 4294967296 from (by have h1 := HX.out.2.2.1; have h2 := HX.out.2.2.2.1; have h3 := inS_rg y6 HX.out.2.2.2.2.1 (by have h4 := HX.out.2.2.2.2.2; have h7 : y6 < 64 := h4; omega); simp only at h1 h2; omega))
          have HADD := Aside0.mk (show 0 ≤ (addS Y.own y0).1 ∧ (addS Y.own y0).1 < 4294967296 from (by unfold addS; split; exact ⟨by simp, by simp⟩; exact ⟨by omega, by omega⟩))
          clear hs1 hs2 HY3
          go_wp2
          generalize (wr.alloc (.cells #[.string y0, .int .u32 y1, .int .u32 y2, .int .u8 y3, .int .u8 y4, .bool true, .int .i64 y6] 94)) = w3 at *
          generalize wr.heap.size = p at *
          have hs : w3.cell? ⟨p, 0, none⟩ = some (.string y0) ∧ w3.cell? ⟨p, 1, none⟩ = some (.int .u32 y1) ∧ w3.cell? ⟨p, 2, none⟩ = some (.int .u32 y2) ∧ w3.cell? ⟨p, 3, none⟩ = some (.int .u8 y3) ∧ w3.cell? ⟨p, 4, none⟩ = some (.int .u8 y4) ∧ w3.cell? ⟨p, 5, none⟩ = some (.bool true) ∧ w3.cell? ⟨p, 6, none⟩ = some (.int .i64 y6) :=
            ⟨(blk_cell HB7.out 0).trans rfl, (blk_cell HB7.out 1).trans rfl, (blk_cell HB7.out 2).trans rfl, (blk_cell HB7.out 3).trans rfl, (blk_cell HB7.out 4).trans rfl, (blk_cell HB7.out 5).trans rfl, (blk_cell HB7.out 6).trans rfl⟩
          have hyd : Ys w w3.drew S S1 S2 gw g Y.b Y.own := HY4.out.below (Below.refl _ _).drew
          clear x0 x1 x2 x3 x4 x5 x6 HB7 HY4
          go_region_held3 (fun w' => w'.cell? ⟨p, 0, none⟩ = some (.string y0) ∧ w'.cell? ⟨p, 1, none⟩ = some (.int .u32 y1) ∧ w'.cell? ⟨p, 2, none⟩ = some (.int .u32 y2) ∧ w'.cell? ⟨p, 3, none⟩ = some (.int .u8 y3) ∧ w'.cell? ⟨p, 4, none⟩ = some (.int .u8 y4) ∧ w'.cell? ⟨p, 5, none⟩ = some (.bool true) ∧ w'.cell? ⟨p, 6, none⟩ = some (.int .i64 y6)) (first | with_reducible assumption | (with_reducible refine keep7 keepD ?_; with_reducible assumption) | (with_reducible refine keep7 (keepA _) ?_; with_reducible assumption) | (with_reducible exact keep7 (keepB (by with_reducible assumption)) (by with_reducible assumption)) | (with_reducible exact keep7 (keepF (by with_reducible assumption) (by with_reducible assumption)) (by with_reducible assumption))) (first | (go_at_call 24; ((with_reducible refine (add_ys y0 (by with_reducible assumption) hzz.out.2.2.1 (by have := hzz.out; omega)).mono ?_)); rintro e w' ⟨rfl, S2', hy', hf'⟩) | (go_at_call 61; ((with_reducible refine (in61_calls y6 HX.out.2.2.2.2.1 (by have h6 := HX.out.2.2.2.2.2; have h7 : y6 < 64 := h6; omega) _).mono ?_)); rintro e w' ⟨rfl, hb'⟩; have hyb := Ys.below (by with_reducible assumption) hb') | (go_at_call 26; ((with_reducible refine (word4_ys (addS Y.own y0).1 y1 y2 (16 * y3 + y4 + 512 + 65536 * inS y6) _ HINF.out HS.out (by with_reducible assumption) HADD.out HRX.out.1 HRX.out.2 HRG.out (by have := hzz.out; omega)).mono ?_)); rintro e w' ⟨rfl, S1', hyw, hf'⟩; have hkw := fun hp => (hf'.block p hp NP1)))
          all_goals (
            have HE := Aside0.mk hyw
            go_wp2
            go_roundg gk
            case measure => omega
            case rel => exact ⟨i + 1, congrArg (Value.int .i64) (w64s i (by have := HC1.out; have := HZ.out; omega)), by rw [HST.out]; simp [symStep, e3], ⟨by have := HK.out; omega⟩, ⟨HC1.out⟩, ⟨_, _, by rw [HST.out]; exact HE.out⟩⟩)
        · subst e3
          have hs1 := HY3.out.w.lt
          have hs2 := HY3.out.t.lt
          have NP1 : ¬ S1 wr.heap.size := fun h => Nat.lt_irrefl _ (hs1 _ h)
          have NP2 : ¬ S2 wr.heap.size := fun h => Nat.lt_irrefl _ (hs2 _ h)
          have HB7 := Aside0.mk (heap_alloc_new wr (.cells #[.string y0, .int .u32 y1, .int .u32 y2, .int .u8 0, .int .u8 y4, .bool false, .int .i64 y6] 94))
          have HY4 := Aside0.mk (HY3.out.below (below_alloc (Below.refl _ _) (.cells #[.string y0, .int .u32 y1, .int .u32 y2, .int .u8 0, .int .u8 y4, .bool false, .int .i64 y6] 94)))
          have HINF := Aside0.mk (info_is 0 y4 0 y6 q3 HX.out.2.2.1 q5 HX.out.2.2.2.1 (.inl rfl) HX.out.2.2.2.2.1 HX.out.2.2.2.2.2)
          have HRG := Aside0.mk (show 0 ≤ 16 * 0 + y4 + 0 + 65536 * inS y6 ∧ 16 * 0 + y4 + 0 + 65536 * inS y6 < 4294967296 from (by have h1 := HX.out.2.2.1; have h2 := HX.out.2.2.2.1; have h3 := inS_rg y6 HX.out.2.2.2.2.1 (by have h4 := HX.out.2.2.2.2.2; have h7 : y6 < 64 := h4; omega); simp only at h1 h2; omega))
          have HADD := Aside0.mk (show 0 ≤ (addS Y.own y0).1 ∧ (addS Y.own y0).1 < 4294967296 from (by unfold addS; split; exact ⟨by simp, by simp⟩; exact ⟨by omega, by omega⟩))
          clear hs1 hs2 HY3
          go_wp2
          generalize (wr.alloc (.cells #[.string y0, .int .u32 y1, .int .u32 y2, .int .u8 0, .int .u8 y4, .bool false, .int .i64 y6] 94)) = w3 at *
          generalize wr.heap.size = p at *
          have hs : w3.cell? ⟨p, 0, none⟩ = some (.string y0) ∧ w3.cell? ⟨p, 1, none⟩ = some (.int .u32 y1) ∧ w3.cell? ⟨p, 2, none⟩ = some (.int .u32 y2) ∧ w3.cell? ⟨p, 3, none⟩ = some (.int .u8 0) ∧ w3.cell? ⟨p, 4, none⟩ = some (.int .u8 y4) ∧ w3.cell? ⟨p, 5, none⟩ = some (.bool false) ∧ w3.cell? ⟨p, 6, none⟩ = some (.int .i64 y6) :=
            ⟨(blk_cell HB7.out 0).trans rfl, (blk_cell HB7.out 1).trans rfl, (blk_cell HB7.out 2).trans rfl, (blk_cell HB7.out 3).trans rfl, (blk_cell HB7.out 4).trans rfl, (blk_cell HB7.out 5).trans rfl, (blk_cell HB7.out 6).trans rfl⟩
          have hyd : Ys w w3.drew S S1 S2 gw g Y.b Y.own := HY4.out.below (Below.refl _ _).drew
          clear x0 x1 x2 x3 x4 x5 x6 HB7 HY4
          go_region_held3 (fun w' => w'.cell? ⟨p, 0, none⟩ = some (.string y0) ∧ w'.cell? ⟨p, 1, none⟩ = some (.int .u32 y1) ∧ w'.cell? ⟨p, 2, none⟩ = some (.int .u32 y2) ∧ w'.cell? ⟨p, 3, none⟩ = some (.int .u8 0) ∧ w'.cell? ⟨p, 4, none⟩ = some (.int .u8 y4) ∧ w'.cell? ⟨p, 5, none⟩ = some (.bool false) ∧ w'.cell? ⟨p, 6, none⟩ = some (.int .i64 y6)) (first | with_reducible assumption | (with_reducible refine keep7 keepD ?_; with_reducible assumption) | (with_reducible refine keep7 (keepA _) ?_; with_reducible assumption) | (with_reducible exact keep7 (keepB (by with_reducible assumption)) (by with_reducible assumption)) | (with_reducible exact keep7 (keepF (by with_reducible assumption) (by with_reducible assumption)) (by with_reducible assumption))) (first | (go_at_call 24; ((with_reducible refine (add_ys y0 (by with_reducible assumption) hzz.out.2.2.1 (by have := hzz.out; omega)).mono ?_)); rintro e w' ⟨rfl, S2', hy', hf'⟩) | (go_at_call 61; ((with_reducible refine (in61_calls y6 HX.out.2.2.2.2.1 (by have h6 := HX.out.2.2.2.2.2; have h7 : y6 < 64 := h6; omega) _).mono ?_)); rintro e w' ⟨rfl, hb'⟩; have hyb := Ys.below (by with_reducible assumption) hb') | (go_at_call 26; ((with_reducible refine (word4_ys (addS Y.own y0).1 y1 y2 (16 * 0 + y4 + 0 + 65536 * inS y6) _ HINF.out HS.out (by with_reducible assumption) HADD.out HRX.out.1 HRX.out.2 HRG.out (by have := hzz.out; omega)).mono ?_)); rintro e w' ⟨rfl, S1', hyw, hf'⟩; have hkw := fun hp => (hf'.block p hp NP1)))
          all_goals (
            have HE := Aside0.mk hyw
            go_wp2
            go_roundg gk
            case measure => omega
            case rel => exact ⟨i + 1, congrArg (Value.int .i64) (w64s i (by have := HC1.out; have := HZ.out; omega)), by rw [HST.out]; simp [symStep], ⟨by have := HK.out; omega⟩, ⟨HC1.out⟩, ⟨_, _, by rw [HST.out]; exact HE.out⟩⟩)
        · have hs1 := HY3.out.w.lt
          have hs2 := HY3.out.t.lt
          have NP1 : ¬ S1 wr.heap.size := fun h => Nat.lt_irrefl _ (hs1 _ h)
          have NP2 : ¬ S2 wr.heap.size := fun h => Nat.lt_irrefl _ (hs2 _ h)
          have HB7 := Aside0.mk (heap_alloc_new wr (.cells #[.string y0, .int .u32 y1, .int .u32 y2, .int .u8 y3, .int .u8 y4, .bool false, .int .i64 y6] 94))
          have HY4 := Aside0.mk (HY3.out.below (below_alloc (Below.refl _ _) (.cells #[.string y0, .int .u32 y1, .int .u32 y2, .int .u8 y3, .int .u8 y4, .bool false, .int .i64 y6] 94)))
          have HINF := Aside0.mk (info_is y3 y4 0 y6 q3 HX.out.2.2.1 q5 HX.out.2.2.2.1 (.inl rfl) HX.out.2.2.2.2.1 HX.out.2.2.2.2.2)
          have HRG := Aside0.mk (show 0 ≤ 16 * y3 + y4 + 0 + 65536 * inS y6 ∧ 16 * y3 + y4 + 0 + 65536 * inS y6 < 4294967296 from (by have h1 := HX.out.2.2.1; have h2 := HX.out.2.2.2.1; have h3 := inS_rg y6 HX.out.2.2.2.2.1 (by have h4 := HX.out.2.2.2.2.2; have h7 : y6 < 64 := h4; omega); simp only at h1 h2; omega))
          have HADD := Aside0.mk (show 0 ≤ (addS Y.own y0).1 ∧ (addS Y.own y0).1 < 4294967296 from (by unfold addS; split; exact ⟨by simp, by simp⟩; exact ⟨by omega, by omega⟩))
          clear hs1 hs2 HY3
          go_wp2
          generalize (wr.alloc (.cells #[.string y0, .int .u32 y1, .int .u32 y2, .int .u8 y3, .int .u8 y4, .bool false, .int .i64 y6] 94)) = w3 at *
          generalize wr.heap.size = p at *
          have hs : w3.cell? ⟨p, 0, none⟩ = some (.string y0) ∧ w3.cell? ⟨p, 1, none⟩ = some (.int .u32 y1) ∧ w3.cell? ⟨p, 2, none⟩ = some (.int .u32 y2) ∧ w3.cell? ⟨p, 3, none⟩ = some (.int .u8 y3) ∧ w3.cell? ⟨p, 4, none⟩ = some (.int .u8 y4) ∧ w3.cell? ⟨p, 5, none⟩ = some (.bool false) ∧ w3.cell? ⟨p, 6, none⟩ = some (.int .i64 y6) :=
            ⟨(blk_cell HB7.out 0).trans rfl, (blk_cell HB7.out 1).trans rfl, (blk_cell HB7.out 2).trans rfl, (blk_cell HB7.out 3).trans rfl, (blk_cell HB7.out 4).trans rfl, (blk_cell HB7.out 5).trans rfl, (blk_cell HB7.out 6).trans rfl⟩
          have hyd : Ys w w3.drew S S1 S2 gw g Y.b Y.own := HY4.out.below (Below.refl _ _).drew
          clear x0 x1 x2 x3 x4 x5 x6 HB7 HY4
          go_region_held3 (fun w' => w'.cell? ⟨p, 0, none⟩ = some (.string y0) ∧ w'.cell? ⟨p, 1, none⟩ = some (.int .u32 y1) ∧ w'.cell? ⟨p, 2, none⟩ = some (.int .u32 y2) ∧ w'.cell? ⟨p, 3, none⟩ = some (.int .u8 y3) ∧ w'.cell? ⟨p, 4, none⟩ = some (.int .u8 y4) ∧ w'.cell? ⟨p, 5, none⟩ = some (.bool false) ∧ w'.cell? ⟨p, 6, none⟩ = some (.int .i64 y6)) (first | with_reducible assumption | (with_reducible refine keep7 keepD ?_; with_reducible assumption) | (with_reducible refine keep7 (keepA _) ?_; with_reducible assumption) | (with_reducible exact keep7 (keepB (by with_reducible assumption)) (by with_reducible assumption)) | (with_reducible exact keep7 (keepF (by with_reducible assumption) (by with_reducible assumption)) (by with_reducible assumption))) (first | (go_at_call 24; ((with_reducible refine (add_ys y0 (by with_reducible assumption) hzz.out.2.2.1 (by have := hzz.out; omega)).mono ?_)); rintro e w' ⟨rfl, S2', hy', hf'⟩) | (go_at_call 61; ((with_reducible refine (in61_calls y6 HX.out.2.2.2.2.1 (by have h6 := HX.out.2.2.2.2.2; have h7 : y6 < 64 := h6; omega) _).mono ?_)); rintro e w' ⟨rfl, hb'⟩; have hyb := Ys.below (by with_reducible assumption) hb') | (go_at_call 26; ((with_reducible refine (word4_ys (addS Y.own y0).1 y1 y2 (16 * y3 + y4 + 0 + 65536 * inS y6) _ HINF.out HS.out (by with_reducible assumption) HADD.out HRX.out.1 HRX.out.2 HRG.out (by have := hzz.out; omega)).mono ?_)); rintro e w' ⟨rfl, S1', hyw, hf'⟩; have hkw := fun hp => (hf'.block p hp NP1)))
          all_goals (
            have HE := Aside0.mk hyw
            go_wp2
            go_roundg gk
            case measure => omega
            case rel => exact ⟨i + 1, congrArg (Value.int .i64) (w64s i (by have := HC1.out; have := HZ.out; omega)), by rw [HST.out]; simp [symStep, e3], ⟨by have := HK.out; omega⟩, ⟨HC1.out⟩, ⟨_, _, by rw [HST.out]; exact HE.out⟩⟩)
    · have hi : i = l.length := by have := HI.out; omega
      subst hi
      rw [List.take_length] at HY ⊢
      obtain ⟨S1, S2, hy⟩ := HY.out
      obtain ⟨vb, vr, hV⟩ := hy.w
      obtain ⟨A5, c5, rfl⟩ := Kd.R_slice hV.rb
      have hc := hV.at0.1
      have HYE := Aside0.mk hy
      have HRB := Aside0.mk hV.rb
      have HL1 := HL0.out
      clear hV hy HY
      go_wp2
      go_ret2
      rw [HL1] at HRB HYE ⊢
      exact ⟨_, S1, S2, rfl, HRB.out, HYE.out.t, HYE.out.s⟩
end Go.Proofs.Ytockojajbnnbpaa.E
namespace Go.Proofs.Ytockojajbnnbpaa.E
open Go.RowKit Go.Proofs.Ytockojajbnnbpaa.Q Go.Proofs.YtockojajbnnbpaaW.PrintWords Go.Proofs.YtockojajbnnbpaaW.PrintLast Go.Proofs.YtockojajbnnbpaaW.PrintMore
set_option linter.unusedVariables false
set_option linter.unusedSimpArgs false
theorem w64p (i j : Nat) (hj : i = j + 1) (h : i < 4611686018427387904) : wrap64 ((i : Int) - 1) = (j : Int) := by unfold wrap64; omega
structure Mst (w0 : World) (p0 : Nat) (A0 A1 A2 : Option Addr) (c0 c1 c2 : Nat) (o : Ob) (W : World) : Prop where
  b : Below w0.heap.size w0 W
  c : ObC W A0 A1 A2 c0 c1 c2 o
  k : W.heap[p0]? = some (.cells #[.slice A0 o.secs.length c0, .slice A1 o.syms.length c1, .slice A2 o.rels.length c2] 26 (0, 0))
section
variable {w0 W W1 : World} {p0 : Nat} {A0 A1 A2 : Option Addr} {c0 c1 c2 : Nat} {o : Ob}
theorem Mst.below (h : Mst w0 p0 A0 A1 A2 c0 c1 c2 o W) (k : Below W.heap.size W W1) : Mst w0 p0 A0 A1 A2 c0 c1 c2 o W1 := ⟨below_step h.b k, h.c.below k, blk_below h.k k⟩
theorem Mst.k0 (h : Mst w0 p0 A0 A1 A2 c0 c1 c2 o W) : W.cell? ⟨p0, 0, none⟩ = some (.slice A0 o.secs.length c0) := (blk_cell h.k 0).trans rfl
theorem Mst.k1 (h : Mst w0 p0 A0 A1 A2 c0 c1 c2 o W) : W.cell? ⟨p0, 1, none⟩ = some (.slice A1 o.syms.length c1) := (blk_cell h.k 1).trans rfl
theorem Mst.k2 (h : Mst w0 p0 A0 A1 A2 c0 c1 c2 o W) : W.cell? ⟨p0, 2, none⟩ = some (.slice A2 o.rels.length c2) := (blk_cell h.k 2).trans rfl
theorem Mst.init (w : World) (h : ObC w A0 A1 A2 c0 c1 c2 o) : Mst w w.heap.size A0 A1 A2 c0 c1 c2 o (w.alloc (.cells #[.slice A0 o.secs.length c0, .slice A1 o.syms.length c1, .slice A2 o.rels.length c2] 26)) :=
  ⟨below_alloc (Below.refl _ _) _, h.below (below_alloc (Below.refl _ _) _), heap_alloc_new _ _⟩
end
theorem rd94_get (l : List S94) (i : Nat) (h : i < l.length) : l[i]? = some (rd_T94 l (i : Int)) := by unfold rd_T94; rw [Int.toNat_natCast, List.getD_eq_getElem?_getD, List.getElem?_eq_getElem h]; rfl
theorem rd59_get (l : List S59) (i : Nat) (h : i < l.length) : l[i]? = some (rd_T59 l (i : Int)) := by unfold rd_T59; rw [Int.toNat_natCast, List.getD_eq_getElem?_getD, List.getElem?_eq_getElem h]; rfl
theorem rd40_mem (l : List S40) (i : Nat) (h : i < l.length) : rd_T40 l (i : Int) ∈ l := by rw [rd40_get l i h]; exact List.getElem_mem h
set_option maxRecDepth 100000 in
set_option maxHeartbeats 16000000 in
theorem may_calls {A0 A1 A2 : Option Addr} {c0 c1 c2 : Nat} {o : Ob} (hg : ObRg o) (w : World) (h : ObC w A0 A1 A2 c0 c1 c2 o) :
    Calls Try.prog 18 #[obV A0 A1 A2 c0 c1 c2 o] w fun e w' => ∃ r, e = .returned (.bool r) ∧ (r = true ↔ MayP o) ∧ Below w.heap.size w w' := by
  have hu26 := Try.underlying26
  have hu40 := Try.underlying40
  have hu94 := Try.underlying94
  have hu59 := Try.underlying59
  have HG := Aside0.mk hg
  have HM := Aside0.mk (Mst.init w h)
  clear h hg
  unfold obV
  go_enter Try.func18, Try.ntmps18
  go_wp2_with fail
  generalize (w.alloc (.cells #[.slice A0 o.secs.length c0, .slice A1 o.syms.length c1, .slice A2 o.rels.length c2] 26)) = wa at *
  obtain ⟨p0, hp0⟩ : ∃ p, p = w.heap.size := ⟨_, rfl⟩
  rw [← hp0] at HM ⊢
  clear hp0
  refine (limits_calls HG.out _ HM.out.c).mono ?_
  rintro e w1 ⟨r, rfl, hr, hb⟩
  replace HM := Aside0.mk (HM.out.below hb)
  have HR := Aside0.mk hr
  have k0 := HM.out.k0
  clear hb hr
  cases r with
  | false =>
    go_wp2
    go_ret
    exact ⟨false, rfl, ⟨fun h => (by cases h), fun h => absurd (HR.out.2 h.1) (by decide)⟩, HM.out.b⟩
  | true =>
    have HL := Aside0.mk (HR.out.1 rfl)
    clear HR
    go_wp2_with fail
    clear k0
    go_loopg [16] (o.secs.length + 1) (fun kq v16 w' => ∃ (i : Nat), v16 = .int .i64 (i : Int) ∧ Aside0 (i + kq = o.secs.length + 1) ∧ Aside0 (i ≤ o.secs.length) ∧ Aside0 (Mst w p0 A0 A1 A2 c0 c1 c2 o w') ∧ Aside0 (∀ j, j < i → SecP (rd_T40 o.secs (j : Int))))
    case atStart => exact ⟨0, rfl, ⟨by omega⟩, ⟨by omega⟩, HM, ⟨fun j hj => absurd hj (Nat.not_lt_zero _)⟩⟩
    case round =>
      clear HM
      obtain ⟨i, rfl, HK, HI, HM, HP⟩ := hrel
      by_cases ci : i < o.secs.length
      · cases gk with
        | zero => exact absurd HK.out (by have := HI.out; omega)
        | succ gk =>
          obtain ⟨ad, A5, c5, ea, x0, x1, x2, x3, x4, x5, l5, g5⟩ := at_T40 HM.out.c.r0 (i : Int) (by omega) (by omega)
          cases ea
          rw [Int.toNat_natCast] at x0 x1 x2 x3 x4 x5
          have HRG := Aside0.mk (HG.out.secs _ (rd40_mem o.secs i ci))
          have HI2 := Aside0.mk ci
          have hw := w64s i (by have := HG.out.n0; have := HL.out.1; omega)
          have HXP : Aside0 (∀ x, x = rd_T40 o.secs (i : Int) → x ∈ o.secs) := ⟨fun x e => e ▸ rd40_mem o.secs i ci⟩
          obtain ⟨x, hx⟩ : ∃ x, x = rd_T40 o.secs (i : Int) := ⟨_, rfl⟩
          rw [← hx] at x0 x1 x2 x3 x4 x5 l5 g5 HRG
          have HX := Aside0.mk hx
          have p1 : ((i : Int) < (o.secs.length : Int)) = True := eq_true (by omega)
          have p2 : (i < o.secs.length) = True := eq_true ci
          have p3 : 0 ≤ (i : Int) := by omega
          have G5 := Aside0.mk (And.intro l5 g5)
          clear ci l5 g5 hx HI
          obtain ⟨y0, y1, y2, y3, y4, y5⟩ := x
          simp only at x0 x1 x2 x3 x4 x5
          go_wp2_with fail
          have hal := below_alloc (Below.refl wr.heap.size wr) (.cells #[.string y0, .int .u32 y1, .int .u32 y2, .int .u32 y3, .int .u32 y4, .slice A5 y5.length c5] 40)
          replace HM := Aside0.mk (HM.out.below hal)
          replace G5 := Aside0.mk (And.intro G5.out.1 (Kd.C_below G5.out.2 hal))
          clear hal x0 x1 x2 x3 x4 x5
          refine (section_calls ⟨y0, y1, y2, y3, y4, y5⟩ HRG.out A5 c5 _ G5.out.2 G5.out.1).mono ?_
          rintro e w2 ⟨r, rfl, hr, hb⟩
          replace HM := Aside0.mk (HM.out.below hb)
          have HR := Aside0.mk hr
          clear hb hr
          cases r with
          | false =>
            go_wp2
            go_ret
            exact ⟨false, rfl, ⟨fun h => (by cases h), fun h => absurd (HR.out.2 (h.2.1 _ (HXP.out _ HX.out))) (by decide)⟩, HM.out.b⟩
          | true =>
            have HP2 : Aside0 (∀ j, j < i + 1 → SecP (rd_T40 o.secs (j : Int))) := ⟨fun j hj => by
              by_cases e : j = i
              · subst e; rw [← HX.out]; exact HR.out.1 rfl
              · exact HP.out j (by omega)⟩
            clear HR HP HX HXP HRG G5
            go_wp2
            go_roundg gk
            case measure => omega
            case rel => exact ⟨i + 1, (by first | exact congrArg (Value.int .i64) hw | (simp; done)), ⟨by have := HK.out; omega⟩, ⟨HI2.out⟩, HM, HP2⟩
      · have hi : i = o.secs.length := by have := HI.out; omega
        subst hi
        have HS : Aside0 (∀ s ∈ o.secs, SecP s) := ⟨fun s hs => by
          obtain ⟨j, hj, rfl⟩ := List.mem_iff_getElem.1 hs
          rw [← rd40_get o.secs j hj]
          exact HP.out j hj⟩
        have k1 := HM.out.k1
        clear HP HI HK ci
        go_wp2_with fail
        clear k1
        go_loopg [27] (o.syms.length + 1) (fun kq v27 w' => ∃ (i : Nat), v27 = .int .i64 (i : Int) ∧ Aside0 (i + kq = o.syms.length + 1) ∧ Aside0 (i ≤ o.syms.length) ∧ Aside0 (Mst w p0 A0 A1 A2 c0 c1 c2 o w') ∧ Aside0 (∀ j, j < i → SymAt o.secs.length o.syms j))
        case atStart => exact ⟨0, rfl, ⟨by omega⟩, ⟨by omega⟩, HM, ⟨fun j hj => absurd hj (Nat.not_lt_zero _)⟩⟩
        case round =>
          clear HM
          obtain ⟨i, rfl, HK, HI, HM, HP⟩ := hrel
          by_cases ci : i < o.syms.length
          · cases gk with
            | zero => exact absurd HK.out (by have := HI.out; omega)
            | succ gk =>
              obtain ⟨ad, ea, x0, x1, x2, x3, x4, x5, x6⟩ := at_T94 HM.out.c.r1 (i : Int) (by omega) (by omega)
              cases ea
              rw [Int.toNat_natCast] at x0 x1 x2 x3 x4 x5 x6
              have hx := rd94_get o.syms i ci
              have HRG := Aside0.mk (HG.out.syms _ (List.mem_of_getElem? hx))
              have HI2 := Aside0.mk ci
              have hw := w64s i (by have := HG.out.n1; have := HL.out.2.1; omega)
              have p1 : ((i : Int) < (o.syms.length : Int)) = True := eq_true (by omega)
              have p2 : (i < o.syms.length) = True := eq_true ci
              have p3 : 0 ≤ (i : Int) := by omega
              have k0 := HM.out.k0
              have k1 := HM.out.k1
              have HX : Aside0 (∃ x, x = rd_T94 o.syms (i : Int) ∧ o.syms[i]? = some x) := ⟨_, rfl, hx⟩
              generalize rd_T94 o.syms (i : Int) = x at x0 x1 x2 x3 x4 x5 x6 hx HRG
              have HX := Aside0.mk hx
              clear ci hx HI
              obtain ⟨y0, y1, y2, y3, y4, y5, y6⟩ := x
              simp only at x0 x1 x2 x3 x4 x5 x6
              have hal := below_alloc (Below.refl wr.heap.size wr) (.cells #[.string y0, .int .u32 y1, .int .u32 y2, .int .u8 y3, .int .u8 y4, .bool y5, .int .i64 y6] 94)
              have HAL := Aside0.mk hal
              have ka0 : (wr.alloc (.cells #[.string y0, .int .u32 y1, .int .u32 y2, .int .u8 y3, .int .u8 y4, .bool y5, .int .i64 y6] 94)).cell? ⟨p0, 0, none⟩ = some (.slice A0 o.secs.length c0) := (HM.out.below hal).k0
              clear hal
              go_wp2_with fail
              replace HM := Aside0.mk (HM.out.below HAL.out)
              have HB94 := Aside0.mk (heap_alloc_new wr (.cells #[.string y0, .int .u32 y1, .int .u32 y2, .int .u8 y3, .int .u8 y4, .bool y5, .int .i64 y6] 94))
              clear HAL x0 x1 x2 x3 x4 x5 x6 k0 k1 ka0
              generalize (wr.alloc (.cells #[.string y0, .int .u32 y1, .int .u32 y2, .int .u8 y3, .int .u8 y4, .bool y5, .int .i64 y6] 94)) = w2 at *
              generalize wr.heap.size = p1_ at *
              refine (symbol_calls ⟨y0, y1, y2, y3, y4, y5, y6⟩ HRG.out.2 o.secs.length _).mono ?_
              rintro e w3 ⟨r, rfl, hr, hb⟩
              replace HM := Aside0.mk (HM.out.below hb)
              replace HB94 := Aside0.mk (blk_below HB94.out hb)
              have HR := Aside0.mk hr
              clear hb hr
              cases r with
              | false =>
                go_wp2
                go_ret
                exact ⟨false, rfl, ⟨fun h => (by cases h), fun h => absurd (HR.out.2 (h.2.2.1 i HI2.out _ HX.out).1) (by decide)⟩, HM.out.b⟩
              | true =>
                have HSY := Aside0.mk (HR.out.1 rfl)
                clear HR
                have d3 : w3.cell? ⟨p1_, 3, none⟩ = some (.int .u8 y3) := (blk_cell HB94.out 3).trans rfl
                have k1 := HM.out.k1
                by_cases e0 : i = 0
                · have f1 : decide ((0 : Int) < (i : Int)) = false := decide_eq_false (by omega)
                  have g1 : ((0 : Int) < (i : Int)) = False := eq_false (by omega)
                  have g2 : (0 < i) = False := eq_false (by omega)
                  have HP2 : Aside0 (∀ j, j < i + 1 → SymAt o.secs.length o.syms j) := ⟨fun j hj x hx => by
                    have : j = i := by omega
                    subst this
                    rw [HX.out] at hx
                    cases hx
                    exact ⟨HSY.out, fun y hy => by omega⟩⟩
                  clear HB94 HSY HRG HX HP e0
                  go_wp2
                  go_roundg gk
                  case measure => omega
                  case rel => exact ⟨i + 1, (by first | exact congrArg (Value.int .i64) hw | (simp; done)), ⟨by have := HK.out; omega⟩, ⟨HI2.out⟩, HM, HP2⟩
                · have f1 : decide ((0 : Int) < (i : Int)) = true := decide_eq_true (by omega)
                  have g1 : ((0 : Int) < (i : Int)) = True := eq_true (by omega)
                  have g2 : (0 < i) = True := eq_true (by omega)
                  have g3 : (i = 0) = False := eq_false e0
                  by_cases e3 : y3 = 0
                  · have f3 : (y3 == 0) = true := by simpa using e3
                    obtain ⟨j, hj⟩ : ∃ j, i = j + 1 := ⟨i - 1, by omega⟩
                    have hjl : j < o.syms.length := by have := HI2.out; omega
                    obtain ⟨ad2, ea, z0, z1, z2, z3, z4, z5, z6⟩ := at_T94 HM.out.c.r1 (j : Int) (by omega) (by omega)
                    cases ea
                    rw [Int.toNat_natCast] at z3
                    have hq := rd94_get o.syms j hjl
                    generalize rd_T94 o.syms (j : Int) = q at z3 hq
                    have hwj := w64p i j hj (by have := HI2.out; have := HL.out.2.1; omega)
                    have q1 : ((j : Int) < (o.syms.length : Int)) = True := eq_true (by omega)
                    have q2 : (j < o.syms.length) = True := eq_true hjl
                    have q3 : 0 ≤ (j : Int) := by omega
                    by_cases e4 : q.f3 = 0
                    · have f4 : (q.f3 != 0) = false := by simpa using e4
                      have f5 : (q.f3 == 0) = true := by simpa using e4
                      have HP2 : Aside0 (∀ j, j < i + 1 → SymAt o.secs.length o.syms j) := ⟨fun m hm x hx => by
                        by_cases e : m = i
                        · subst e
                          rw [HX.out] at hx
                          cases hx
                          refine ⟨HSY.out, fun y hy hyq _ => ?_⟩
                          rw [show m - 1 = j by omega, hq] at hyq
                          cases hyq
                          exact e4
                        · exact HP.out m (by omega) x hx⟩
                      clear HB94 HSY HRG HX HP e0 e3 e4 hj hjl hq z0 z1 z2 z4 z5 z6
                      go_wp2
                      go_roundg gk
                      case measure => omega
                      case rel => exact ⟨i + 1, (by first | exact congrArg (Value.int .i64) hw | (simp; done)), ⟨by have := HK.out; omega⟩, ⟨HI2.out⟩, HM, HP2⟩
                    · have f4 : (q.f3 != 0) = true := by simpa using e4
                      have f5 : (q.f3 == 0) = false := by simpa using e4
                      have HNO : Aside0 (¬ MayP o) := ⟨fun h => e4 ((h.2.2.1 i HI2.out _ HX.out).2 q (by omega) (by rw [show i - 1 = j by omega]; exact hq) e3)⟩
                      clear HB94 HSY HRG HX HP e0 e3 e4 hj hjl hq z0 z1 z2 z4 z5 z6
                      go_wp2
                      go_ret
                      first | exact ⟨false, rfl, ⟨fun h => (by cases h), fun h => absurd h HNO.out⟩, HM.out.b⟩ | exact .inl ⟨rfl, HNO.out, HM.out.b⟩
                  · have f3 : (y3 == 0) = false := by simpa using e3
                    have HP2 : Aside0 (∀ j, j < i + 1 → SymAt o.secs.length o.syms j) := ⟨fun m hm x hx => by
                      by_cases e : m = i
                      · subst e
                        rw [HX.out] at hx
                        cases hx
                        exact ⟨HSY.out, fun y hy hyq h0 => absurd h0 e3⟩
                      · exact HP.out m (by omega) x hx⟩
                    clear HB94 HSY HRG HX HP e0 e3
                    go_wp2
                    go_roundg gk
                    case measure => omega
                    case rel => exact ⟨i + 1, (by first | exact congrArg (Value.int .i64) hw | (simp; done)), ⟨by have := HK.out; omega⟩, ⟨HI2.out⟩, HM, HP2⟩
          · have hi : i = o.syms.length := by have := HI.out; omega
            subst hi
            have k2 := HM.out.k2
            clear HI HK ci
            go_wp2_with fail
            clear k2
            go_loopg [61] (o.rels.length + 1) (fun kq v61 w' => ∃ (i : Nat), v61 = .int .i64 (i : Int) ∧ Aside0 (i + kq = o.rels.length + 1) ∧ Aside0 (i ≤ o.rels.length) ∧ Aside0 (Mst w p0 A0 A1 A2 c0 c1 c2 o w') ∧ Aside0 (∀ j, j < i → RelAt o j))
            case atStart => exact ⟨0, rfl, ⟨by omega⟩, ⟨by omega⟩, HM, ⟨fun j hj => absurd hj (Nat.not_lt_zero _)⟩⟩
            case round =>
              clear HM
              have HPS := HP
              clear HP
              obtain ⟨i, rfl, HK, HI, HM, HP⟩ := hrel
              by_cases ci : i < o.rels.length
              · cases gk with
                | zero => exact absurd HK.out (by have := HI.out; omega)
                | succ gk =>
                  obtain ⟨ad, ea, x0, x1, x2, x3, x4⟩ := at_T59 HM.out.c.r2 (i : Int) (by omega) (by omega)
                  cases ea
                  rw [Int.toNat_natCast] at x0 x1 x2 x3 x4
                  have hx := rd59_get o.rels i ci
                  have HI2 := Aside0.mk ci
                  have hw := w64s i (by have := HG.out.n2; have := HL.out.2.2.1; omega)
                  have p1 : ((i : Int) < (o.rels.length : Int)) = True := eq_true (by omega)
                  have p2 : (i < o.rels.length) = True := eq_true ci
                  have p3 : 0 ≤ (i : Int) := by omega
                  generalize rd_T59 o.rels (i : Int) = x at x0 x1 x2 x3 x4 hx
                  have HX := Aside0.mk hx
                  clear ci hx HI
                  obtain ⟨y0, y1, y2, y3, y4⟩ := x
                  simp only at x0 x1 x2 x3 x4
                  go_wp2
                  replace HM := Aside0.mk (HM.out.below (below_alloc (Below.refl wr.heap.size wr) (.cells #[.int .i64 y0, .int .u32 y1, .int .u8 y2, .int .i64 y3, .int .i32 y4] 59)))
                  have HB59 := Aside0.mk (heap_alloc_new wr (.cells #[.int .i64 y0, .int .u32 y1, .int .u8 y2, .int .i64 y3, .int .i32 y4] 59))
                  clear x0 x1 x2 x3 x4
                  generalize (wr.alloc (.cells #[.int .i64 y0, .int .u32 y1, .int .u8 y2, .int .i64 y3, .int .i32 y4] 59)) = w2 at *
                  generalize wr.heap.size = p1_ at *
                  have k0 := HM.out.k0
                  have k1 := HM.out.k1
                  have k2 := HM.out.k2
                  have d0 : w2.cell? ⟨p1_, 0, none⟩ = some (.int .i64 y0) := (blk_cell HB59.out 0).trans rfl
                  have d1 : w2.cell? ⟨p1_, 1, none⟩ = some (.int .u32 y1) := (blk_cell HB59.out 1).trans rfl
                  have d3 : w2.cell? ⟨p1_, 3, none⟩ = some (.int .i64 y3) := (blk_cell HB59.out 3).trans rfl
                  by_cases c1 : y0 < 0
                  · have c1d : decide (y0 < 0) = true := decide_eq_true (by omega)
                    have c1e : (y0 < 0) = True := eq_true (by omega)
                    have HNO : Aside0 (¬ MayP o) := ⟨fun h => by have h2 := h.2.2.2 i HI2.out _ HX.out; have h3 := h2.1; simp only at h3; omega⟩
                    go_quiet (fail)
                    replace HM := Aside0.mk (HM.out.below (pw_below_drewN (Below.refl _ _) nq))
                    go_wp2
                    go_ret
                    first | exact ⟨false, rfl, ⟨fun h => (by cases h), fun h => absurd h HNO.out⟩, HM.out.b⟩ | exact .inl ⟨rfl, HNO.out, HM.out.b⟩
                  have c1d : decide (y0 < 0) = false := decide_eq_false (by omega)
                  have c1e : (y0 < 0) = False := eq_false (by omega)
                  by_cases c2 : (o.secs.length : Int) ≤ y0
                  · have c2d : decide (y0 ≥ (o.secs.length : Int)) = true := decide_eq_true (by omega)
                    have c2e : (y0 ≥ (o.secs.length : Int)) = True := eq_true (by omega)
                    have c2f : decide ((o.secs.length : Int) ≤ y0) = true := decide_eq_true (by omega)
                    have c2g : ((o.secs.length : Int) ≤ y0) = True := eq_true (by omega)
                    have HNO : Aside0 (¬ MayP o) := ⟨fun h => by have h2 := h.2.2.2 i HI2.out _ HX.out; have h3 := h2.2.1; simp only at h3; omega⟩
                    go_quiet (fail)
                    replace HM := Aside0.mk (HM.out.below (pw_below_drewN (Below.refl _ _) nq))
                    go_wp2
                    go_ret
                    first | exact ⟨false, rfl, ⟨fun h => (by cases h), fun h => absurd h HNO.out⟩, HM.out.b⟩ | exact .inl ⟨rfl, HNO.out, HM.out.b⟩
                  have c2d : decide (y0 ≥ (o.secs.length : Int)) = false := decide_eq_false (by omega)
                  have c2e : (y0 ≥ (o.secs.length : Int)) = False := eq_false (by omega)
                  have c2f : decide ((o.secs.length : Int) ≤ y0) = false := decide_eq_false (by omega)
                  have c2g : ((o.secs.length : Int) ≤ y0) = False := eq_false (by omega)
                  by_cases c3 : y3 < -1
                  · have c3d : decide (y3 < -1) = true := decide_eq_true (by omega)
                    have c3e : (y3 < -1) = True := eq_true (by omega)
                    have HNO : Aside0 (¬ MayP o) := ⟨fun h => by have h2 := h.2.2.2 i HI2.out _ HX.out; have h3 := h2.2.2.1; simp only at h3; omega⟩
                    go_quiet (fail)
                    replace HM := Aside0.mk (HM.out.below (pw_below_drewN (Below.refl _ _) nq))
                    go_wp2
                    go_ret
                    first | exact ⟨false, rfl, ⟨fun h => (by cases h), fun h => absurd h HNO.out⟩, HM.out.b⟩ | exact .inl ⟨rfl, HNO.out, HM.out.b⟩
                  have c3d : decide (y3 < -1) = false := decide_eq_false (by omega)
                  have c3e : (y3 < -1) = False := eq_false (by omega)
                  by_cases c4 : (o.syms.length : Int) ≤ y3
                  · have c4d : decide (y3 ≥ (o.syms.length : Int)) = true := decide_eq_true (by omega)
                    have c4e : (y3 ≥ (o.syms.length : Int)) = True := eq_true (by omega)
                    have c4f : decide ((o.syms.length : Int) ≤ y3) = true := decide_eq_true (by omega)
                    have c4g : ((o.syms.length : Int) ≤ y3) = True := eq_true (by omega)
                    have HNO : Aside0 (¬ MayP o) := ⟨fun h => by have h2 := h.2.2.2 i HI2.out _ HX.out; have h3 := h2.2.2.2.1; simp only at h3; omega⟩
                    go_quiet (fail)
                    replace HM := Aside0.mk (HM.out.below (pw_below_drewN (Below.refl _ _) nq))
                    go_wp2
                    go_ret
                    first | exact ⟨false, rfl, ⟨fun h => (by cases h), fun h => absurd h HNO.out⟩, HM.out.b⟩ | exact .inl ⟨rfl, HNO.out, HM.out.b⟩
                  have c4d : decide (y3 ≥ (o.syms.length : Int)) = false := decide_eq_false (by omega)
                  have c4e : (y3 ≥ (o.syms.length : Int)) = False := eq_false (by omega)
                  have c4f : decide ((o.syms.length : Int) ≤ y3) = false := decide_eq_false (by omega)
                  have c4g : ((o.syms.length : Int) ≤ y3) = False := eq_false (by omega)
                  by_cases e0 : i = 0
                  · have e0d : decide ((0 : Int) < (i : Int)) = false := decide_eq_false (by omega)
                    have e0e : ((0 : Int) < (i : Int)) = False := eq_false (by omega)
                    have e0f : decide (0 < i) = false := decide_eq_false (by omega)
                    have e0g : (0 < i) = False := eq_false (by omega)
                    have q1 : (y0 < (o.secs.length : Int)) = True := eq_true (by omega)
                    have q2 : (y0.toNat < o.secs.length) = True := eq_true (by omega)
                    have q3 : (0 ≤ y0) = True := eq_true (by omega)
                    go_quiet (fail)
                    replace HM := Aside0.mk (HM.out.below (pw_below_drewN (Below.refl _ _) nq))
                    have HB59 := Aside0.mk (blk_below HB59.out (pw_below_drewN (Below.refl w2.heap.size w2) nq))
                    clear k0 k1 k2 d0 d1 d3
                    generalize w2.drewN nq = w3 at *
                    have k0 := HM.out.k0
                    have d0 : w3.cell? ⟨p1_, 0, none⟩ = some (.int .i64 y0) := (blk_cell HB59.out 0).trans rfl
                    have d1 : w3.cell? ⟨p1_, 1, none⟩ = some (.int .u32 y1) := (blk_cell HB59.out 1).trans rfl
                    obtain ⟨ads, A5, c5, ea, s0, s1, s2, s3, s4, s5, l5, g5⟩ := at_T40 HM.out.c.r0 y0 (by omega) (by omega)
                    cases ea
                    generalize hsx : rd_T40 o.secs y0 = sx at s0 s1 s2 s3 s4 s5 l5 g5
                    obtain ⟨m0, m1, m2, m3, m4, m5⟩ := sx
                    have HSX := Aside0.mk hsx
                    clear hsx l5 g5
                    simp only at s0 s1 s2 s3 s4 s5
                    have ka1 : (w3.alloc (.cells #[.string m0, .int .u32 m1, .int .u32 m2, .int .u32 m3, .int .u32 m4, .slice A5 m5.length c5] 40)).cell? ⟨p1_, 1, none⟩ = some (.int .u32 y1) := ((below_alloc (Below.refl _ _) _).cell (blk_lt HB59.out)).trans d1
                    replace HM := Aside0.mk (HM.out.below (below_alloc (Below.refl w3.heap.size w3) (.cells #[.string m0, .int .u32 m1, .int .u32 m2, .int .u32 m3, .int .u32 m4, .slice A5 m5.length c5] 40)))
                    by_cases e1 : m1 = 1
                    · have f1 : (m1 != 1) = false := by simpa using e1
                      have f1a : (m1 == 1) = true := by simpa using e1
                      by_cases e2 : m4 ≤ y1
                      · have f2 : decide (y1 ≥ m4) = true := decide_eq_true e2
                        have f2a : decide (m4 ≤ y1) = true := decide_eq_true e2
                        have f2b : (m4 ≤ y1) = True := eq_true e2
                        have HNO : Aside0 (¬ MayP o) := ⟨fun h => by have h2 := (h.2.2.2 i HI2.out _ HX.out).2.2.2.2.2.2; rw [HSX.out] at h2; simp only at h2; omega⟩
                        clear HB59 HX HP e1 e2
                        go_wp2
                        go_ret
                        first | exact ⟨false, rfl, ⟨fun h => (by cases h), fun h => absurd h HNO.out⟩, HM.out.b⟩ | exact .inl ⟨rfl, HNO.out, HM.out.b⟩
                      · have f2 : decide (y1 ≥ m4) = false := decide_eq_false e2
                        have f2a : decide (m4 ≤ y1) = false := decide_eq_false e2
                        have f2b : (m4 ≤ y1) = False := eq_false e2
                        have HP2 : Aside0 (∀ j, j < i + 1 → RelAt o j) := ⟨fun m hm => by
                          by_cases e : m = i
                          · subst e
                            intro x hx
                            rw [HX.out] at hx
                            cases hx
                            refine ⟨by simp only; omega, by simp only; omega, by simp only; omega, by simp only; omega, fun y hy => by omega, ?_, ?_⟩
                            · rw [HSX.out]; exact e1
                            · rw [HSX.out]; simp only; omega
                          · exact HP.out m (by omega)⟩
                        clear HB59 HX HP e1 e2 HSX
                        go_wp2
                        go_roundg gk
                        case measure => omega
                        case rel => exact ⟨i + 1, (by first | exact congrArg (Value.int .i64) hw | (simp; done) | (simp; omega)), ⟨by have := HK.out; omega⟩, ⟨HI2.out⟩, HM, HP2⟩
                    · have f1 : (m1 != 1) = true := by simpa using e1
                      have f1a : (m1 == 1) = false := by simpa using e1
                      have HNO : Aside0 (¬ MayP o) := ⟨fun h => by have h2 := (h.2.2.2 i HI2.out _ HX.out).2.2.2.2.2.1; rw [HSX.out] at h2; exact e1 h2⟩
                      clear HB59 HX HP e1
                      go_wp2
                      go_ret
                      first | exact ⟨false, rfl, ⟨fun h => (by cases h), fun h => absurd h HNO.out⟩, HM.out.b⟩ | exact .inl ⟨rfl, HNO.out, HM.out.b⟩
                  · have e0d : decide ((0 : Int) < (i : Int)) = true := decide_eq_true (by omega)
                    have e0e : ((0 : Int) < (i : Int)) = True := eq_true (by omega)
                    have e0f : decide (0 < i) = true := decide_eq_true (by omega)
                    have e0g : (0 < i) = True := eq_true (by omega)
                    obtain ⟨j, hj⟩ : ∃ j, i = j + 1 := ⟨i - 1, by omega⟩
                    have hjl : j < o.rels.length := by have := HI2.out; omega
                    obtain ⟨ad2, ea, z0, z1, z2, z3, z4⟩ := at_T59 HM.out.c.r2 (j : Int) (by omega) (by omega)
                    cases ea
                    rw [Int.toNat_natCast] at z0
                    have hq := rd59_get o.rels j hjl
                    generalize rd_T59 o.rels (j : Int) = q at z0 hq
                    have hwj := w64p i j hj (by have := HI2.out; have := HL.out.2.2.1; omega)
                    have r1 : ((j : Int) < (o.rels.length : Int)) = True := eq_true (by omega)
                    have r2 : (j < o.rels.length) = True := eq_true hjl
                    have r3 : 0 ≤ (j : Int) := by omega
                    have HQ := Aside0.mk hq
                    have HJ := Aside0.mk hj
                    clear z1 z2 z3 z4 hq hj hjl
                    by_cases c6 : y0 < q.f0
                    · have c6d : decide (y0 < q.f0) = true := decide_eq_true (by omega)
                      have c6e : (y0 < q.f0) = True := eq_true (by omega)
                      have c6f : decide (q.f0 > y0) = true := decide_eq_true (by omega)
                      have c6g : (q.f0 > y0) = True := eq_true (by omega)
                      have HNO : Aside0 (¬ MayP o) := ⟨fun h => by have h2 := h.2.2.2 i HI2.out _ HX.out; have h3 := h2.2.2.2.2.1 q (by omega) (by rw [show i - 1 = j by have := HJ.out; omega]; exact HQ.out); simp only at h3; omega⟩
                      go_quiet (fail)
                      replace HM := Aside0.mk (HM.out.below (pw_below_drewN (Below.refl _ _) nq))
                      go_wp2
                      go_ret
                      first | exact ⟨false, rfl, ⟨fun h => (by cases h), fun h => absurd h HNO.out⟩, HM.out.b⟩ | exact .inl ⟨rfl, HNO.out, HM.out.b⟩
                    · have c6d : decide (y0 < q.f0) = false := decide_eq_false (by omega)
                      have c6e : (y0 < q.f0) = False := eq_false (by omega)
                      have c6f : decide (q.f0 > y0) = false := decide_eq_false (by omega)
                      have c6g : (q.f0 > y0) = False := eq_false (by omega)
                      have q1 : (y0 < (o.secs.length : Int)) = True := eq_true (by omega)
                      have q2 : (y0.toNat < o.secs.length) = True := eq_true (by omega)
                      have q3 : (0 ≤ y0) = True := eq_true (by omega)
                      go_quiet (fail)
                      replace HM := Aside0.mk (HM.out.below (pw_below_drewN (Below.refl _ _) nq))
                      have HB59 := Aside0.mk (blk_below HB59.out (pw_below_drewN (Below.refl w2.heap.size w2) nq))
                      clear k0 k1 k2 d0 d1 d3
                      generalize w2.drewN nq = w3 at *
                      have k0 := HM.out.k0
                      have d0 : w3.cell? ⟨p1_, 0, none⟩ = some (.int .i64 y0) := (blk_cell HB59.out 0).trans rfl
                      have d1 : w3.cell? ⟨p1_, 1, none⟩ = some (.int .u32 y1) := (blk_cell HB59.out 1).trans rfl
                      obtain ⟨ads, A5, c5, ea, s0, s1, s2, s3, s4, s5, l5, g5⟩ := at_T40 HM.out.c.r0 y0 (by omega) (by omega)
                      cases ea
                      generalize hsx : rd_T40 o.secs y0 = sx at s0 s1 s2 s3 s4 s5 l5 g5
                      obtain ⟨m0, m1, m2, m3, m4, m5⟩ := sx
                      have HSX := Aside0.mk hsx
                      clear hsx l5 g5
                      simp only at s0 s1 s2 s3 s4 s5
                      have ka1 : (w3.alloc (.cells #[.string m0, .int .u32 m1, .int .u32 m2, .int .u32 m3, .int .u32 m4, .slice A5 m5.length c5] 40)).cell? ⟨p1_, 1, none⟩ = some (.int .u32 y1) := ((below_alloc (Below.refl _ _) _).cell (blk_lt HB59.out)).trans d1
                      replace HM := Aside0.mk (HM.out.below (below_alloc (Below.refl w3.heap.size w3) (.cells #[.string m0, .int .u32 m1, .int .u32 m2, .int .u32 m3, .int .u32 m4, .slice A5 m5.length c5] 40)))
                      by_cases e1 : m1 = 1
                      · have f1 : (m1 != 1) = false := by simpa using e1
                        have f1a : (m1 == 1) = true := by simpa using e1
                        by_cases e2 : m4 ≤ y1
                        · have f2 : decide (y1 ≥ m4) = true := decide_eq_true e2
                          have f2a : decide (m4 ≤ y1) = true := decide_eq_true e2
                          have f2b : (m4 ≤ y1) = True := eq_true e2
                          have HNO : Aside0 (¬ MayP o) := ⟨fun h => by have h2 := (h.2.2.2 i HI2.out _ HX.out).2.2.2.2.2.2; rw [HSX.out] at h2; simp only at h2; omega⟩
                          clear HB59 HX HP e1 e2
                          go_wp2
                          go_ret
                          first | exact ⟨false, rfl, ⟨fun h => (by cases h), fun h => absurd h HNO.out⟩, HM.out.b⟩ | exact .inl ⟨rfl, HNO.out, HM.out.b⟩
                        · have f2 : decide (y1 ≥ m4) = false := decide_eq_false e2
                          have f2a : decide (m4 ≤ y1) = false := decide_eq_false e2
                          have f2b : (m4 ≤ y1) = False := eq_false e2
                          have HP2 : Aside0 (∀ j, j < i + 1 → RelAt o j) := ⟨fun m hm => by
                            by_cases e : m = i
                            · subst e
                              intro x hx
                              rw [HX.out] at hx
                              cases hx
                              refine ⟨by simp only; omega, by simp only; omega, by simp only; omega, by simp only; omega, fun y hy hyq => by rw [show m - 1 = j by have := HJ.out; omega, HQ.out] at hyq; cases hyq; simp only; omega, ?_, ?_⟩
                              · rw [HSX.out]; exact e1
                              · rw [HSX.out]; simp only; omega
                            · exact HP.out m (by omega)⟩
                          clear HB59 HX HP e1 e2 HSX
                          go_wp2
                          go_roundg gk
                          case measure => omega
                          case rel => exact ⟨i + 1, (by first | exact congrArg (Value.int .i64) hw | (simp; done) | (simp; omega)), ⟨by have := HK.out; omega⟩, ⟨HI2.out⟩, HM, HP2⟩
                      · have f1 : (m1 != 1) = true := by simpa using e1
                        have f1a : (m1 == 1) = false := by simpa using e1
                        have HNO : Aside0 (¬ MayP o) := ⟨fun h => by have h2 := (h.2.2.2 i HI2.out _ HX.out).2.2.2.2.2.1; rw [HSX.out] at h2; exact e1 h2⟩
                        clear HB59 HX HP e1
                        go_wp2
                        go_ret
                        first | exact ⟨false, rfl, ⟨fun h => (by cases h), fun h => absurd h HNO.out⟩, HM.out.b⟩ | exact .inl ⟨rfl, HNO.out, HM.out.b⟩
              · have hi : i = o.rels.length := by have := HI.out; omega
                subst hi
                have HYES : Aside0 (MayP o) := ⟨⟨HL.out, HS.out, HPS.out, HP.out⟩⟩
                clear HI HK ci HP HPS HL HS
                go_wp2
                go_ret
                first | exact ⟨true, rfl, ⟨fun _ => HYES.out, fun _ => rfl⟩, HM.out.b⟩ | exact .inr ⟨rfl, HYES.out, HM.out.b⟩
end Go.Proofs.Ytockojajbnnbpaa.E
namespace Go.Proofs.Ytockojajbnnbpaa.E
open Go.RowKit Go.Proofs.Ytockojajbnnbpaa.Q Go.Proofs.YtockojajbnnbpaaW.PrintWords Go.Proofs.YtockojajbnnbpaaW.PrintLast Go.Proofs.YtockojajbnnbpaaW.PrintMore
set_option linter.unusedVariables false
set_option linter.unusedSimpArgs false
structure Tri (wa W : World) (S1 S2 S3 : Nat → Prop) : Prop where
  b : Below wa.heap.size wa W
  q1 : ∀ k, S1 k → wa.heap.size ≤ k ∧ k < W.heap.size
  q2 : ∀ k, S2 k → wa.heap.size ≤ k ∧ k < W.heap.size
  q3 : ∀ k, S3 k → wa.heap.size ≤ k ∧ k < W.heap.size
  d12 : ∀ k, S1 k → ¬ S2 k
  d13 : ∀ k, S1 k → ¬ S3 k
  d23 : ∀ k, S2 k → ¬ S3 k
section
variable {wa W W1 : World} {S1 S2 S3 S' : Nat → Prop}
theorem Tri.below (h : Tri wa W S1 S2 S3) (k : Below W.heap.size W W1) : Tri wa W1 S1 S2 S3 :=
  ⟨below_step h.b k, fun i hi => ⟨(h.q1 i hi).1, Nat.lt_of_lt_of_le (h.q1 i hi).2 k.size⟩, fun i hi => ⟨(h.q2 i hi).1, Nat.lt_of_lt_of_le (h.q2 i hi).2 k.size⟩, fun i hi => ⟨(h.q3 i hi).1, Nat.lt_of_lt_of_le (h.q3 i hi).2 k.size⟩, h.d12, h.d13, h.d23⟩
theorem Tri.one (h : Tri wa W S1 S2 S3) (o : Ow S1 S' W W1) : Tri wa W1 S' S2 S3 := by
  have hz := o.fr.size
  have hz0 := h.b.size
  refine ⟨o.fr.below h.b (fun i hi => (h.q1 i hi).1) hz0, fun k hk => ?_, fun k hk => ⟨(h.q2 k hk).1, Nat.lt_of_lt_of_le (h.q2 k hk).2 hz⟩, fun k hk => ⟨(h.q3 k hk).1, Nat.lt_of_lt_of_le (h.q3 k hk).2 hz⟩, fun k hk h2 => ?_, fun k hk h2 => ?_, h.d23⟩
  · rcases (o.sub k hk).1 with h1 | h1
    · exact ⟨(h.q1 k h1).1, (o.sub k hk).2⟩
    · exact ⟨by omega, (o.sub k hk).2⟩
  · rcases (o.sub k hk).1 with h1 | h1
    · exact h.d12 k h1 h2
    · have := (h.q2 k h2).2; omega
  · rcases (o.sub k hk).1 with h1 | h1
    · exact h.d13 k h1 h2
    · have := (h.q3 k h2).2; omega
theorem Tri.swap12 (h : Tri wa W S1 S2 S3) : Tri wa W S2 S1 S3 := ⟨h.b, h.q2, h.q1, h.q3, fun k a b => h.d12 k b a, h.d23, h.d13⟩
theorem Tri.swap13 (h : Tri wa W S1 S2 S3) : Tri wa W S3 S2 S1 := ⟨h.b, h.q3, h.q2, h.q1, fun k a b => h.d23 k b a, fun k a b => h.d13 k b a, fun k a b => h.d12 k b a⟩
theorem Tri.two (h : Tri wa W S1 S2 S3) (o : Ow S2 S' W W1) : Tri wa W1 S1 S' S3 := (h.swap12.one o).swap12
theorem Tri.three (h : Tri wa W S1 S2 S3) (o : Ow S3 S' W W1) : Tri wa W1 S1 S2 S' := (h.swap13.one o).swap13
end
structure Pst (wa W : World) (S1 S2 S3 : Nat → Prop) (gw gn go : Nat) (s : Wst) (names own : List Int) : Prop where
  t : Tri wa W S1 S2 S3
  w : Wr W S1 gw s.b s.rows
  n : Tx W S2 gn names
  y : Tx W S3 go own
section
variable {wa W W1 : World} {S1 S2 S3 S' : Nat → Prop} {gw gn go : Nat} {s s' : Wst} {names own t' : List Int}
theorem Pst.below (h : Pst wa W S1 S2 S3 gw gn go s names own) (k : Below W.heap.size W W1) : Pst wa W1 S1 S2 S3 gw gn go s names own := ⟨h.t.below k, h.w.below k, h.n.below k, h.y.below k⟩
theorem Pst.setW (h : Pst wa W S1 S2 S3 gw gn go s names own) (hw : Wr W1 S' gw s'.b s'.rows) (o : Ow S1 S' W W1) : Pst wa W1 S' S2 S3 gw gn go s' names own :=
  ⟨h.t.one o, hw, h.n.fr o.fr (fun k a b => h.t.d12 k b a), h.y.fr o.fr (fun k a b => h.t.d13 k b a)⟩
theorem Pst.setN (h : Pst wa W S1 S2 S3 gw gn go s names own) (hn : Tx W1 S' gn t') (o : Ow S2 S' W W1) : Pst wa W1 S1 S' S3 gw gn go s t' own :=
  ⟨h.t.two o, h.w.fr o.fr h.t.d12, hn, h.y.fr o.fr (fun k a b => h.t.d23 k b a)⟩
theorem Pst.setY (h : Pst wa W S1 S2 S3 gw gn go s names own) (hy : Tx W1 S' go t') (o : Ow S3 S' W W1) : Pst wa W1 S1 S2 S' gw gn go s names t' :=
  ⟨h.t.three o, h.w.fr o.fr h.t.d13, h.n.fr o.fr h.t.d23, hy⟩
theorem part_ps {A : Option Addr} {c : Nat} (r : S47) (x : List Int) (h : Pst wa W S1 S2 S3 gw gn go s names own) (hx : Kd.C (Kd.int .u8) W A x.length x) (hz : s.b.length + x.length < 35184372088832) (hrz : s.rows.length < 1073741824) :
    Calls Try.prog 23 #[.pointer (some ⟨gw, 0, none⟩), rowV r, .slice A x.length c] W fun e w' => e = .returned (.tuple #[]) ∧ ∃ S1', Pst wa w' S1' S2 S3 gw gn go (partS s r x) names own ∧ Fr S1 W w' :=
  (part_calls r x W h.w hx hz hrz).mono fun e w' ⟨he, S', hw, ho⟩ => ⟨he, S', h.setW hw ho, ho.fr⟩
theorem addN_ps (x : ByteArray) (h : Pst wa W S1 S2 S3 gw gn go s names own) (hn : 0 < names.length) (hz : names.length + x.size < 35184372088832) :
    Calls Try.prog 24 #[.pointer (some ⟨gn, 0, none⟩), .string x] W fun e w' => e = .returned (.int .u32 (addS names x).1) ∧ ∃ S2', Pst wa w' S1 S2' S3 gw gn go s (addS names x).2 own ∧ Fr S2 W w' :=
  (add_calls x W h.n hn hz).mono fun e w' ⟨he, S', ht, ho⟩ => ⟨he, S', h.setN ht ho, ho.fr⟩
end
theorem R_one {α : Type} (d : Kd α) (e : Nat) (W : World) (x : α) (cs : List Value) (hM : d.M W 0 (fun _ => False) x cs) : d.R e (W.alloc (.cells cs.toArray e)) 0 (fun k => k = W.heap.size) (.slice (some ⟨W.heap.size, 0, none⟩) 1 1) [x] := by
  have hl := d.K_len (d.K_of_M hM)
  have h2 := World.ownsRow_lit (base := 0) (e := e) (size := d.sz) W cs.toArray 1 (Nat.zero_le _) (by decide) (by simpa using hl)
  refine ⟨fun k hk => by simp [Value.ownBlock] at hk; exact hk.symm, cs, by simpa using h2, by simpa using hl, fun j p hj => ?_⟩
  cases j with
  | succ j => simp at hj
  | zero =>
    have e1 : x = p := by simpa using hj
    subst e1
    rw [Nat.zero_mul, List.drop_zero, ← hl, List.take_length]
    exact d.M_mono (fun _ hk => hk.elim) (Kd.M_below hM (below_alloc (Below.refl _ _) _))
theorem partS_len (s : Wst) (r : S47) (x : List Int) : (partS s r x).b.length ≤ s.b.length + x.length + 3 ∧ (partS s r x).rows.length = s.rows.length + 1 ∧ s.b.length ≤ (partS s r x).b.length := by
  have e1 : (partS s r x).b.length = (s.b.length + x.length) + (4 - (s.b.length + x.length) % 4) % 4 := by simp [partS, pad4]; omega
  have e2 : (partS s r x).rows.length = s.rows.length + 1 := by simp [partS]
  omega
theorem st1_len (l : List S40) (s : Wst × List Int) (hl : ∀ x ∈ l, x.f5.length < 4294967296 ∧ x.f0.size ≤ 64) :
    (l.foldl secStep s).1.b.length ≤ s.1.b.length + 4294967300 * l.length ∧ (l.foldl secStep s).1.rows.length = s.1.rows.length + l.length ∧ (l.foldl secStep s).2.length ≤ s.2.length + 65 * l.length ∧ s.2.length ≤ (l.foldl secStep s).2.length ∧ s.1.b.length ≤ (l.foldl secStep s).1.b.length := by
  induction l generalizing s with
  | nil => simp
  | cons x t ih =>
    have h1 := ih (secStep s x) (fun y hy => hl y (List.mem_cons_of_mem _ hy))
    have h2 := hl x List.mem_cons_self
    have h3 := partS_len s.1 ⟨(addS s.2 x.f0).1, x.f1, x.f2, 0, 0, x.f4, 0, 0, x.f3, 0⟩ x.f5
    have h4 := addS_len s.2 x.f0 h2.2
    rw [List.foldl_cons, List.length_cons]
    have e1 : (secStep s x).1 = partS s.1 ⟨(addS s.2 x.f0).1, x.f1, x.f2, 0, 0, x.f4, 0, 0, x.f3, 0⟩ x.f5 := rfl
    have e2 : (secStep s x).2 = (addS s.2 x.f0).2 := rfl
    rw [e1, e2] at h1
    omega
theorem secStep_at (l : List S40) (i : Nat) (h : i < l.length) (s : Wst × List Int) : (l.take (i + 1)).foldl secStep s = secStep ((l.take i).foldl secStep s) (rd_T40 l (i : Int)) := by
  rw [List.take_succ_eq_append_getElem h, List.foldl_append, rd40_get l i h]
  rfl
theorem Tri.refl (wa W : World) (b : Below wa.heap.size wa W) : Tri wa W (fun _ => False) (fun _ => False) (fun _ => False) := ⟨b, fun _ h => h.elim, fun _ h => h.elim, fun _ h => h.elim, fun _ h => h.elim, fun _ h => h.elim, fun _ h => h.elim⟩
theorem Pst.init {wa w1 : World} {L : List Int} {A : Option Addr} {c : Nat} (hb : Below wa.heap.size wa w1) (h0 : Rb w1 (fun k => wa.heap.size ≤ k ∧ k < w1.heap.size) (.slice A L.length c) L) :
    ∃ S1 S2 S3, Pst wa ((((((w1.alloc (.cells #[.int .u32 0, .int .u32 0, .int .u32 0, .int .u32 0, .int .u32 0, .int .u32 0, .int .u32 0, .int .u32 0, .int .u32 0, .int .u32 0] 47)).alloc (.cells #[.slice A L.length c, .slice (some ⟨w1.heap.size, 0, none⟩) 1 1] 50)).alloc (.cells #[.int .u8 0] 5)).alloc (.cells #[.slice (some ⟨w1.heap.size + 2, 0, none⟩) 1 1] 53)).alloc (.cells #[.int .u8 0] 5)).alloc (.cells #[.slice (some ⟨w1.heap.size + 4, 0, none⟩) 1 1] 53)) S1 S2 S3 (w1.heap.size + 1) (w1.heap.size + 3) (w1.heap.size + 5) ⟨L, [z47]⟩ [0] [0] := by
  have r1 := R_one k47 47 w1 z47 _ (k47_mkM w1 0 (fun _ => False) z47)
  have e1 : (w1.alloc (.cells #[.int .u32 0, .int .u32 0, .int .u32 0, .int .u32 0, .int .u32 0, .int .u32 0, .int .u32 0, .int .u32 0, .int .u32 0, .int .u32 0] 47)).heap.size = w1.heap.size + 1 := by simp
  change Kd.R k47 47 (w1.alloc (.cells #[.int .u32 0, .int .u32 0, .int .u32 0, .int .u32 0, .int .u32 0, .int .u32 0, .int .u32 0, .int .u32 0, .int .u32 0, .int .u32 0] 47)) 0 _ _ _ at r1
  have b1 := below_alloc (Below.refl w1.heap.size w1) (.cells #[.int .u32 0, .int .u32 0, .int .u32 0, .int .u32 0, .int .u32 0, .int .u32 0, .int .u32 0, .int .u32 0, .int .u32 0, .int .u32 0] 47)
  generalize w1.alloc (.cells #[.int .u32 0, .int .u32 0, .int .u32 0, .int .u32 0, .int .u32 0, .int .u32 0, .int .u32 0, .int .u32 0, .int .u32 0, .int .u32 0] 47) = w2 at *
  have h02 := Kd.R_below h0 b1
  have b2 := below_alloc (Below.refl w2.heap.size w2) (.cells #[.slice A L.length c, .slice (some ⟨w1.heap.size, 0, none⟩) 1 1] 50)
  have hz := hb.size
  have W3 : Wrv (w2.alloc (.cells #[.slice A L.length c, .slice (some ⟨w1.heap.size, 0, none⟩) 1 1] 50)) (fun k => wa.heap.size ≤ k ∧ k < w2.heap.size + 1) (w1.heap.size + 1) (.slice A L.length c) (.slice (some ⟨w1.heap.size, 0, none⟩) 1 1) L [z47] :=
    ⟨by rw [← e1]; exact heap_alloc_new _ _, Kd.R_mono (Kd.R_below h02 b2) (fun k hk => ⟨hk.1, by omega⟩), Kd.R_mono (Kd.R_below r1 b2) (fun k hk => by subst hk; exact ⟨hz, by omega⟩), ⟨by omega, by omega⟩, fun k hk => by simpa using hk.2⟩
  have e2 : (w2.alloc (.cells #[.slice A L.length c, .slice (some ⟨w1.heap.size, 0, none⟩) 1 1] 50)).heap.size = w1.heap.size + 2 := by simp [e1]
  have B3 : Below wa.heap.size wa (w2.alloc (.cells #[.slice A L.length c, .slice (some ⟨w1.heap.size, 0, none⟩) 1 1] 50)) := below_step (below_step hb b1) b2
  generalize w2.alloc (.cells #[.slice A L.length c, .slice (some ⟨w1.heap.size, 0, none⟩) 1 1] 50) = w3 at *
  have P3 : Tri wa w3 (fun k => wa.heap.size ≤ k ∧ k < w2.heap.size + 1) (fun _ => False) (fun _ => False) := ⟨B3, fun k hk => ⟨hk.1, by omega⟩, fun _ h => h.elim, fun _ h => h.elim, fun _ _ h => h.elim, fun _ _ h => h.elim, fun _ h => h.elim⟩
  clear b1 b2 h02 r1 h0 hb B3
  -- the names
  have r4 := R_one (Kd.int .u8) 5 w3 (0 : Int) [.int .u8 0] rfl
  have e4 : (w3.alloc (.cells #[.int .u8 0] 5)).heap.size = w1.heap.size + 3 := by simp [e2]
  have b4 := below_alloc (Below.refl w3.heap.size w3) (.cells #[.int .u8 0] 5)
  change Kd.R (Kd.int .u8) 5 (w3.alloc (.cells #[.int .u8 0] 5)) 0 _ _ _ at r4
  rw [e2] at r4
  generalize w3.alloc (.cells #[.int .u8 0] 5) = w4 at *
  have t4 := Tx.init (L := [0]) r4 (fun k hk => by omega)
  rw [e4] at t4
  have b5 := below_alloc (Below.refl w4.heap.size w4) (.cells #[.slice (some ⟨w1.heap.size + 2, 0, none⟩) 1 1] 53)
  have e5 : (w4.alloc (.cells #[.slice (some ⟨w1.heap.size + 2, 0, none⟩) 1 1] 53)).heap.size = w1.heap.size + 4 := by simp [e4]
  generalize w4.alloc (.cells #[.slice (some ⟨w1.heap.size + 2, 0, none⟩) 1 1] 53) = w5 at *
  have W5 := (W3.below b4).below b5
  have P5 : Tri wa w5 (fun k => wa.heap.size ≤ k ∧ k < w2.heap.size + 1) (fun k => k = w1.heap.size + 2 ∨ k = w1.heap.size + 3) (fun _ => False) := by
    have h := (P3.below b4).below b5
    exact ⟨h.b, h.q1, fun k hk => by omega, fun _ h => h.elim, fun k hk h2 => by omega, fun _ _ h => h.elim, fun _ _ h => h.elim⟩
  clear b4 b5 r4 P3 W3
  have r6 := R_one (Kd.int .u8) 5 w5 (0 : Int) [.int .u8 0] rfl
  have e6 : (w5.alloc (.cells #[.int .u8 0] 5)).heap.size = w1.heap.size + 5 := by simp [e5]
  have b6 := below_alloc (Below.refl w5.heap.size w5) (.cells #[.int .u8 0] 5)
  change Kd.R (Kd.int .u8) 5 (w5.alloc (.cells #[.int .u8 0] 5)) 0 _ _ _ at r6
  rw [e5] at r6
  generalize w5.alloc (.cells #[.int .u8 0] 5) = w6 at *
  have t6 := Tx.init (L := [0]) r6 (fun k hk => by omega)
  rw [e6] at t6
  have b7 := below_alloc (Below.refl w6.heap.size w6) (.cells #[.slice (some ⟨w1.heap.size + 4, 0, none⟩) 1 1] 53)
  have e7 : (w6.alloc (.cells #[.slice (some ⟨w1.heap.size + 4, 0, none⟩) 1 1] 53)).heap.size = w1.heap.size + 6 := by simp [e6]
  generalize w6.alloc (.cells #[.slice (some ⟨w1.heap.size + 4, 0, none⟩) 1 1] 53) = w7 at *
  have h7 := (P5.below b6).below b7
  refine ⟨_, _, fun k => k = w1.heap.size + 4 ∨ k = w1.heap.size + 5, ⟨⟨h7.b, h7.q1, h7.q2, fun k hk => by omega, h7.d12, fun k hk h2 => by omega, fun k hk h2 => by omega⟩, ⟨_, _, (W5.below b6).below b7⟩, (Tx.below (Tx.below ⟨_, t4⟩ b6) b7), ⟨_, t6⟩⟩⟩
section
variable {P : Program} {ops : Array Oper} {rest : List Oper} {o : Oper} {a : Act} {Q : Exit → Act → World → Prop}
theorem ev_box {W : World} (hgd : o.guard = none) {N : Tmp} (_hd : o.dst = some N) {cs : Array Value} {t : TypeId}
    (hrun : (execOp a.eval o).run P W = .ok (.value (.pointer (some ⟨W.heap.size, 0, none⟩))) (W.alloc (.cells cs t (0, 0))))
    (h : ∀ g w1, g = W.heap.size → w1 = W.alloc (.cells cs t) → wpList P ops Q rest (a.put o.dst (.pointer (some ⟨g, 0, none⟩))) w1) : wpList P ops Q (o :: rest) a W :=
  Kd.event_run hgd hrun (h _ _ rfl rfl)
end
theorem part_pr {wa W : World} {S1 S2 S3 : Nat → Prop} {gw gn go : Nat} {s : Wst} {names own : List Int} {A : Option Addr} {c : Nat} (r0 r1 r2 r3 r4 r5 r6 r7 r8 r9 : Int) (x : List Int) (h : Pst wa W S1 S2 S3 gw gn go s names own) (hx : Kd.C (Kd.int .u8) W A x.length x) (hz : s.b.length + x.length < 35184372088832) (hrz : s.rows.length < 1073741824) :
    Calls Try.prog 23 #[.pointer (some ⟨gw, 0, none⟩), .agg #[.int .u32 r0, .int .u32 r1, .int .u32 r2, .int .u32 r3, .int .u32 r4, .int .u32 r5, .int .u32 r6, .int .u32 r7, .int .u32 r8, .int .u32 r9], .slice A x.length c] W fun e w' => e = .returned (.tuple #[]) ∧ ∃ S1', Pst wa w' S1' S2 S3 gw gn go (partS s ⟨r0, r1, r2, r3, r4, r5, r6, r7, r8, r9⟩ x) names own ∧ Fr S1 W w' :=
  part_ps ⟨r0, r1, r2, r3, r4, r5, r6, r7, r8, r9⟩ x h hx hz hrz
theorem Two.ow {w0 w : World} {S S1 S2 : Nat → Prop} (h : Two w0 w S S1 S2) : Ow S S2 w0 w := ⟨h.fr, h.n2⟩
theorem C_old {α : Type} {d : Kd α} (hd : 0 < d.sz) {w : World} {A : Option Addr} {n : Nat} {l : List α} (h : Kd.C d w A n l) (hl : 0 < n) : ∀ ad, A = some ad → ad.block < w.heap.size := by
  intro ad e
  obtain ⟨ad', e', hc⟩ := h.2.2 hl
  rw [e] at e'
  cases e'
  have hl2 : 0 < l.length := by have := h.1; omega
  obtain ⟨c, h1, _, h3⟩ := hc 0 _ (List.getElem?_eq_getElem hl2)
  have h4 := h3 0 _ (List.getElem?_eq_getElem (by omega))
  have hb : (ad.add (0 * d.sz + 0)).block = ad.block := by unfold Addr.add; split <;> rfl
  rw [← hb]
  exact World.block_lt_of_cell? _ _ h4
theorem Tri.far {wa W W1 : World} {S1 S2 S3 T : Nat → Prop} (h : Tri wa W S1 S2 S3) (f : Fr T W W1) (hT : ∀ k, T k → wa.heap.size ≤ k) : Tri wa W1 S1 S2 S3 :=
  ⟨f.below h.b hT h.b.size, fun k hk => ⟨(h.q1 k hk).1, Nat.lt_of_lt_of_le (h.q1 k hk).2 f.size⟩, fun k hk => ⟨(h.q2 k hk).1, Nat.lt_of_lt_of_le (h.q2 k hk).2 f.size⟩, fun k hk => ⟨(h.q3 k hk).1, Nat.lt_of_lt_of_le (h.q3 k hk).2 f.size⟩, h.d12, h.d13, h.d23⟩
theorem Pst.far {wa W W1 : World} {S1 S2 S3 T : Nat → Prop} {gw gn go : Nat} {s : Wst} {names own : List Int} (h : Pst wa W S1 S2 S3 gw gn go s names own) (f : Fr T W W1) (hT : ∀ k, T k → wa.heap.size ≤ k ∧ ¬ S1 k ∧ ¬ S2 k ∧ ¬ S3 k) : Pst wa W1 S1 S2 S3 gw gn go s names own :=
  ⟨h.t.far f (fun k hk => (hT k hk).1), h.w.fr f (fun k hk h2 => (hT k h2).2.1 hk), h.n.fr f (fun k hk h2 => (hT k h2).2.2.1 hk), h.y.fr f (fun k hk h2 => (hT k h2).2.2.2 hk)⟩
structure Xst (wa W : World) (B : Nat) (S1 S2 S3 Sx : Nat → Prop) (gw gn go gx : Nat) (s : Wst) (names own bx : List Int) : Prop where
  p : Pst wa W S1 S2 S3 gw gn go s names own
  x : Wr W Sx gx bx []
  n : ∀ k, Sx k → B ≤ k
  l : ∀ k, S1 k ∨ S2 k ∨ S3 k → k < B
  a : wa.heap.size ≤ B
theorem Xst.below {wa W W1 : World} {B : Nat} {S1 S2 S3 Sx : Nat → Prop} {gw gn go gx : Nat} {s : Wst} {names own bx : List Int} (h : Xst wa W B S1 S2 S3 Sx gw gn go gx s names own bx) (k : Below W.heap.size W W1) : Xst wa W1 B S1 S2 S3 Sx gw gn go gx s names own bx := ⟨h.p.below k, h.x.below k, h.n, h.l, h.a⟩
theorem Xst.init {wa W : World} {S1 S2 S3 : Nat → Prop} {gw gn go : Nat} {s : Wst} {names own : List Int} (h : Pst wa W S1 S2 S3 gw gn go s names own) : Xst wa (W.alloc (.cells #[.slice none 0 0, .slice none 0 0] 50)) W.heap.size S1 S2 S3 (fun k => k = W.heap.size) gw gn go W.heap.size s names own [] := by
  have hal := below_alloc (Below.refl W.heap.size W) (.cells #[.slice none 0 0, .slice none 0 0] 50)
  refine ⟨h.below hal, ⟨_, _, heap_alloc_new _ _, Kd.R_nil _ _ _ _ _, Kd.R_nil _ _ _ _ _, rfl, fun k hk => by subst hk; simp⟩, fun k hk => Nat.le_of_eq hk.symm, fun k hk => ?_, h.t.b.size⟩
  rcases hk with h1 | h1 | h1
  · exact (h.t.q1 k h1).2
  · exact (h.t.q2 k h1).2
  · exact (h.t.q3 k h1).2
theorem word_xs {wa W : World} {B : Nat} {S1 S2 S3 Sx : Nat → Prop} {gw gn go gx : Nat} {s : Wst} {names own bx : List Int} (x y z x1 y1 z1 : Int) (ex : x1 = x) (ey : y1 = y) (ez : z1 = z) (h : Xst wa W B S1 S2 S3 Sx gw gn go gx s names own bx) (hx : 0 ≤ x ∧ x < 4294967296) (hy : 0 ≤ y ∧ y < 4294967296) (hz : 0 ≤ z ∧ z < 4294967296) (hl : bx.length < 35184372088832) :
    Calls Try.prog 26 #[.pointer (some ⟨gx, 0, none⟩), .slice (some ⟨W.heap.size, 0, none⟩) 3 3] (W.alloc (.cells #[.int .u32 x1, .int .u32 y1, .int .u32 z1] 38)) fun e w' => e = .returned (.tuple #[]) ∧ ∃ Sx', Xst wa w' B S1 S2 S3 Sx' gw gn go gx s names own (bx ++ (le4 x ++ le4 y ++ le4 z)) := by
  subst ex; subst ey; subst ez
  have hal := below_alloc (Below.refl W.heap.size W) (.cells #[.int .u32 x1, .int .u32 y1, .int .u32 z1] 38)
  have hC := C_lit .u32 W [x1, y1, z1] 38 (by simp)
  have hw := h.x.lt
  have h2 := h.below hal
  refine (word_calls (c := 3) [x1, y1, z1] _ h2.x hC (fun ad e hk => ?_) (fun v hv => ?_) (by simp; omega)).mono fun e w' ⟨he, S', hy', ho⟩ => ⟨he, S', ⟨h2.p.far ho.fr (fun k hk => ⟨Nat.le_trans h.a (h.n k hk), fun h1 => ?_, fun h1 => ?_, fun h1 => ?_⟩), by simpa using hy', fun k hk => ?_, h.l, h.a⟩⟩
  · cases e
    have := hw _ hk
    exact Nat.lt_irrefl _ this
  · simp only [List.mem_cons, List.not_mem_nil, or_false] at hv
    rcases hv with rfl | rfl | rfl <;> assumption
  · have := h.l k (.inl h1); have := h.n k hk; omega
  · have := h.l k (.inr (.inl h1)); have := h.n k hk; omega
  · have := h.l k (.inr (.inr h1)); have := h.n k hk; omega
  · rcases (ho.sub k hk).1 with h1 | h1
    · exact h.n k h1
    · have := h.p.t.b.size; have := hal.size; have := hw; have := h.n _ (by obtain ⟨vb, vr, hv⟩ := h.x; exact hv.own); have hg := hw _ (by obtain ⟨vb, vr, hv⟩ := h.x; exact hv.own); omega
theorem relB_cons (a : S59) (t : List S59) (i : Int) : relB (a :: t) i = (if a.f0 = i then relW a else []) ++ relB t i := rfl
theorem relW_len (r : S59) : (relW r).length = 12 := rfl
theorem relB_len (l : List S59) (i : Int) : (relB l i).length ≤ 12 * l.length := by
  induction l with
  | nil => simp [relB]
  | cons a t ih =>
    rw [relB_cons, List.length_append, List.length_cons]
    by_cases c : a.f0 = i
    · rw [if_pos c, relW_len]; omega
    · rw [if_neg c]; simp; omega
theorem relB_snoc (l : List S59) (j : Nat) (hj : j < l.length) (i : Int) (x : S59) (hx : l[j]? = some x) : relB (l.take (j + 1)) i = relB (l.take j) i ++ (if x.f0 = i then relW x else []) := by
  unfold relB
  obtain ⟨_, rfl⟩ := List.getElem?_eq_some_iff.1 hx
  rw [List.take_succ_eq_append_getElem hj, List.flatMap_append]
  simp
theorem relStep_len (l : List S59) (at_ : Int) (s : Wst) (i : Nat) (hl : l.length ≤ 1024) : (relStep l at_ s i).b.length ≤ s.b.length + 12300 ∧ (relStep l at_ s i).rows.length ≤ s.rows.length + 1 ∧ s.rows.length ≤ (relStep l at_ s i).rows.length ∧ s.b.length ≤ (relStep l at_ s i).b.length := by
  unfold relStep
  have h1 := relB_len l i
  split
  · omega
  · have := partS_len s ⟨0, 4, 0, 0, 0, 0, at_, (i : Int) + 1, 4, 12⟩ (relB l i); omega
theorem relF_snoc0 (l : List S59) (at_ : Int) (s : Wst) (i : Nat) : (List.range (i + 1)).foldl (relStep l at_) s = relStep l at_ ((List.range i).foldl (relStep l at_) s) i := by
  rw [List.range_succ, List.foldl_append]; rfl
theorem relF_len (l : List S59) (at_ : Int) (s : Wst) (hl : l.length ≤ 1024) (i : Nat) : ((List.range i).foldl (relStep l at_) s).b.length ≤ s.b.length + 12300 * i ∧ ((List.range i).foldl (relStep l at_) s).rows.length ≤ s.rows.length + i ∧ s.rows.length ≤ ((List.range i).foldl (relStep l at_) s).rows.length ∧ s.b.length ≤ ((List.range i).foldl (relStep l at_) s).b.length := by
  induction i with
  | zero => exact ⟨Nat.le_refl _, Nat.le_refl _, Nat.le_refl _, Nat.le_refl _⟩
  | succ i ih =>
    obtain ⟨h1, h2, h3, h4⟩ := relStep_len l at_ ((List.range i).foldl (relStep l at_) s) i hl
    obtain ⟨g1, g2, g3, g4⟩ := ih
    rw [relF_snoc0, Nat.mul_succ]
    exact ⟨Nat.le_trans h1 (by rw [← Nat.add_assoc]; exact Nat.add_le_add_right g1 _), Nat.le_trans h2 (by rw [← Nat.add_assoc]; exact Nat.add_le_add_right g2 _), Nat.le_trans g3 h3, Nat.le_trans g4 h4⟩
theorem relF_snoc (l : List S59) (at_ : Int) (s : Wst) (i : Nat) : (List.range (i + 1)).foldl (relStep l at_) s = relStep l at_ ((List.range i).foldl (relStep l at_) s) i := by
  rw [List.range_succ, List.foldl_append]; rfl
theorem relE_is (y2 y3 : Int) (a0 : 0 ≤ y2) (a1 : y2 ≤ 255) (b0 : -1 ≤ y3) (b1 : y3 < 512) : bits .or .u32 (IntKind.u32.wrap (wrap64 (y3 + 1) % 4294967296 * 256)) (IntKind.u32.wrap y2) = 256 * (y3 + 1) + y2 := by
  have e : wrap64 (y3 + 1) % 4294967296 = y3 + 1 := by unfold wrap64; omega
  rw [e, u32w, u32w, show (y3 + 1) * 256 % 4294967296 = 256 * (y3 + 1) by omega, show y2 % 4294967296 = y2 by omega]
  exact or_hi 8 _ _ (by omega) (by omega) (by omega) a0 (by omega) (by omega)
set_option maxRecDepth 100000 in
set_option maxHeartbeats 4000000 in
theorem word_callsv {S : Nat → Prop} {g : Nat} {vb0 vr : Value} {b : List Int} {rows : List S47} {A : Option Addr} {c : Nat} (l : List Int) (w : World) (h : Wrv w S g vb0 vr b rows) (hl : Kd.C (Kd.int .u32) w A l.length l) (hA : ∀ ad, A = some ad → ¬ S ad.block) (hr : ∀ x ∈ l, 0 ≤ x ∧ x < 4294967296) (hz : b.length + 4 * l.length < 70368744177664) :
    Calls Try.prog 26 #[.pointer (some ⟨g, 0, none⟩), .slice A l.length c] w fun e w' => e = .returned (.tuple #[]) ∧ ∃ S' vb', Wrv w' S' g vb' vr (b ++ l.flatMap le4) rows ∧ Ow S S' w w' := by
  have HL := Aside0.mk hl
  have HA := Aside0.mk hA
  have HR := Aside0.mk hr
  have HZ := Aside0.mk hz
  have HW0 : Aside0 (∃ vb', Wrv w S g vb' vr (b ++ (l.take 0).flatMap le4) rows) := ⟨vb0, by simpa using h⟩
  have HO0 : Aside0 (Ow S S w w) := ⟨Ow.refl h.lt⟩
  clear h hl hA hr hz
  go_enter Try.func26, Try.ntmps26
  go_wp2
  go_loopg [10] (l.length + 1) (fun kq v10 w' => ∃ (i : Nat) (S' : Nat → Prop), v10 = .int .i64 (i : Int) ∧ Aside0 (i + kq = l.length + 1) ∧ Aside0 (i ≤ l.length) ∧ Aside0 (∃ vb', Wrv w' S' g vb' vr (b ++ (l.take i).flatMap le4) rows) ∧ Aside0 (Ow S S' w w'))
  case atStart => exact ⟨0, S, rfl, ⟨by omega⟩, ⟨by omega⟩, HW0, HO0⟩
  case round =>
    clear HW0 HO0
    obtain ⟨i, S', rfl, HK, HI, HW, HO⟩ := hrel
    by_cases c1 : i < l.length
    · cases gk with
      | zero => exact absurd HK.out (by have := HI.out; omega)
      | succ gk =>
        obtain ⟨ad, ea, hx⟩ := Kd.at_int (Ci_fr HL.out HO.out.fr HA.out) (i : Int) (by omega) (by omega)
        cases ea
        rw [Int.toNat_natCast] at hx
        have hrg := HR.out (rd l i) (by rw [rd_get l i c1]; exact List.getElem_mem c1)
        have hsn := Aside0.mk (words_snoc l i c1)
        have hln : Aside0 ((b ++ (l.take i).flatMap le4).length < 70368744177664) := ⟨by rw [List.length_append, words_len, List.length_take]; have := HZ.out; omega⟩
        generalize rd l (i : Int) = n at hx hrg hsn
        have hw : IntKind.u64.wrap n = n := u64id n hrg.1 (by omega)
        have HRG := Aside0.mk hrg
        clear hrg
        have p1 : ((i : Int) < (l.length : Int)) = True := eq_true (by omega)
        have p2 : (i < l.length) = True := eq_true c1
        have HC1 := Aside0.mk c1
        have p3 : 0 ≤ (i : Int) := by omega
        clear c1
        go_wp2_with fail
        refine (put4_calls n HRG.out.1 HRG.out.2 _).mono ?_
        rintro e w2 ⟨v, rfl, hv, hb⟩
        obtain ⟨A2, c2, rfl, hl2, hC2⟩ := Kd.R_reads hv
        obtain ⟨vb, hW0⟩ := HW.out
        have hW := hW0.below hb
        clear hW0
        replace HO := Aside0.mk (HO.out.below_after hb)
        have hc0 := hW.at0.1
        have hf0 := blk_frozen hW.blk 0
        have HV := Aside0.mk hW
        have HC2 := Aside0.mk hC2
        clear hv hb hW hC2 hl2 hx
        go_wp2_with (first | ((with_reducible refine gate_builtin (b := .append) (xs := #[.tmp 24, .tmp 25]) rfl ?_); at_builtin; refine ev_bytes rfl (.tmp 24) (.tmp 25) 27 rfl Try.underlying27 vb _ (le4 n) A2 _ c2 S' rfl rfl HV.out.rb HC2.out (by have := hln.out; have := le4_len n; omega) ?_; intro L1 A3 c3 w3 hL1 hr1 hg1; obtain ⟨S1, hW1, hO1⟩ := HV.out.setB hr1 hg1; have HN1 := Aside0.mk hW1; have HN2 := Aside0.mk hO1; clear hW1 hO1; obtain ⟨hc1, hf1⟩ := HV.out.atB hg1; clear hr1 hg1 hc0 hf0))
        go_roundg gk
        case measure => omega
        case rel => exact ⟨i + 1, _, congrArg (Value.int .i64) (w64s i (by have := HZ.out; have := HC1.out; omega)), ⟨by have := HK.out; omega⟩, ⟨HC1.out⟩, ⟨_, by rw [← hsn.out, ← List.append_assoc, ← hL1.out]; exact HN1.out⟩, ⟨HO.out.trans HN2.out⟩⟩
    · have hi : i = l.length := by have := HI.out; omega
      subst hi
      rw [List.take_length] at HW
      go_wp2
      go_end0
      obtain ⟨vb', hw'⟩ := HW.out
      exact ⟨rfl, S', vb', hw', HO.out⟩
def fieldsL (r : S47) : List Int := [r.f0, r.f1, r.f2, r.f3, r.f4, r.f5, r.f6, r.f7, r.f8, r.f9]
theorem rowWords_eq (r : S47) : rowWords r = (fieldsL r).flatMap le4 := by simp [rowWords, fieldsL]
def RowRg (r : S47) : Prop := ∀ x ∈ fieldsL r, 0 ≤ x ∧ x < 4294967296
theorem partS_rg (s : Wst) (r : S47) (x : List Int) (h : ∀ r ∈ s.rows, RowRg r) (hr : RowRg r) : ∀ q ∈ (partS s r x).rows, RowRg q := by
  intro q hq
  simp only [partS, List.mem_append, List.mem_singleton] at hq
  rcases hq with hq | rfl
  · exact h q hq
  · intro y hy
    have h0 := hr
    unfold RowRg fieldsL at h0
    simp only [List.mem_cons, List.not_mem_nil, or_false, forall_eq_or_imp, forall_eq] at h0
    simp only [fieldsL, List.mem_cons, List.not_mem_nil, or_false] at hy
    rcases hy with rfl | rfl | rfl | rfl | rfl | rfl | rfl | rfl | rfl | rfl
    all_goals first | omega | (split <;> omega)
theorem rg_mk (r0 r1 r2 r3 r4 r5 r6 r7 r8 r9 : Int) (h0 : 0 ≤ r0 ∧ r0 < 4294967296) (h1 : 0 ≤ r1 ∧ r1 < 4294967296) (h2 : 0 ≤ r2 ∧ r2 < 4294967296) (h3 : 0 ≤ r3 ∧ r3 < 4294967296) (h4 : 0 ≤ r4 ∧ r4 < 4294967296) (h5 : 0 ≤ r5 ∧ r5 < 4294967296) (h6 : 0 ≤ r6 ∧ r6 < 4294967296) (h7 : 0 ≤ r7 ∧ r7 < 4294967296) (h8 : 0 ≤ r8 ∧ r8 < 4294967296) (h9 : 0 ≤ r9 ∧ r9 < 4294967296) : RowRg ⟨r0, r1, r2, r3, r4, r5, r6, r7, r8, r9⟩ := by
  intro y hy
  simp only [fieldsL, List.mem_cons, List.not_mem_nil, or_false] at hy
  rcases hy with rfl | rfl | rfl | rfl | rfl | rfl | rfl | rfl | rfl | rfl <;> assumption
theorem addS_rg (t : List Int) (s : ByteArray) : 0 ≤ (addS t s).1 ∧ (addS t s).1 < 4294967296 := by
  unfold addS
  split
  · simp
  · exact ⟨by simp only; omega, by simp only; omega⟩
theorem st1_rg (l : List S40) (hl : ∀ x ∈ l, SecRg x) (s : Wst × List Int) (h : ∀ r ∈ s.1.rows, RowRg r) : ∀ r ∈ (l.foldl secStep s).1.rows, RowRg r := by
  induction l generalizing s with
  | nil => exact h
  | cons x t ih =>
    rw [List.foldl_cons]
    have hx := hl x List.mem_cons_self
    exact ih (fun y hy => hl y (List.mem_cons_of_mem _ hy)) _ (partS_rg _ _ _ h (rg_mk _ _ _ _ _ _ _ _ _ _ (addS_rg _ _) hx.2.1 hx.2.2.1 (by omega) (by omega) hx.2.2.2.2.1 (by omega) (by omega) hx.2.2.2.1 (by omega)))
theorem relF_rg (l : List S59) (at_ : Int) (ha : 0 ≤ at_ ∧ at_ < 4294967296) (s : Wst) (h : ∀ r ∈ s.rows, RowRg r) (i : Nat) (hi : i < 1000) : ∀ r ∈ ((List.range i).foldl (relStep l at_) s).rows, RowRg r := by
  induction i with
  | zero => exact h
  | succ i ih =>
    rw [relF_snoc0]
    unfold relStep
    split
    · exact ih (by omega)
    · exact partS_rg _ _ _ (ih (by omega)) (rg_mk _ _ _ _ _ _ _ _ _ _ (by omega) (by omega) (by omega) (by omega) (by omega) (by omega) ha (by omega) (by omega) (by omega))
theorem st5_rg (o : Ob) (hg : ObRg o) (hm : MayP o) : ∀ r ∈ (st5 o).rows, RowRg r := by
  have h1 : ∀ r ∈ (st1 o).1.rows, RowRg r := st1_rg o.secs hg.secs _ (fun r hr => by
    simp only [List.mem_singleton] at hr
    subst hr
    exact rg_mk _ _ _ _ _ _ _ _ _ _ (by omega) (by omega) (by omega) (by omega) (by omega) (by omega) (by omega) (by omega) (by omega) (by omega))
  have hl := st1_len o.secs (⟨List.replicate 52 0, [z47]⟩, [0]) (fun x hx => by
    have hx2 := hm.2.1 x hx
    have hx3 := hg.secs x hx
    refine ⟨?_, hx2.1.2⟩
    rcases hx2.2.2.2 with h1 | h1
    · have := hx3.2.2.2.2.1.2; omega
    · rw [h1.2]; simp)
  have hi64 := hm.1.1
  have hat : 0 ≤ atS o ∧ atS o < 1000 := by
    unfold atS st1
    simp only [List.length_singleton] at hl
    omega
  have hy := symL_le o.syms ⟨List.replicate 16 0, [0], 1⟩
  have hy2 := hm.1.2.1
  have h2 : ∀ r ∈ (st2 o).rows, RowRg r := partS_rg _ _ _ h1 (rg_mk _ _ _ _ _ _ _ _ _ _ (by omega) (by omega) (by omega) (by omega) (by omega) (by omega) (by omega) (by unfold yst; simp only at hy; omega) (by omega) (by omega))
  have h3 : ∀ r ∈ (st3 o).rows, RowRg r := partS_rg _ _ _ h2 (rg_mk _ _ _ _ _ _ _ _ _ _ (by omega) (by omega) (by omega) (by omega) (by omega) (by omega) (by omega) (by omega) (by omega) (by omega))
  have h4 : ∀ r ∈ (st4 o).rows, RowRg r := relF_rg _ _ (by omega) _ h3 _ (by omega)
  exact partS_rg _ _ _ h4 (rg_mk _ _ _ _ _ _ _ _ _ _ (by omega) (by omega) (by omega) (by omega) (by omega) (by omega) (by omega) (by omega) (by omega) (by omega))
structure Wv (wa W : World) (S1 : Nat → Prop) (gw : Nat) (vr : Value) (b : List Int) (rows : List S47) : Prop where
  bl : Below wa.heap.size wa W
  w : ∃ vb, Wrv W S1 gw vb vr b rows
  q : ∀ k, S1 k → wa.heap.size ≤ k
theorem Wv.below {wa W W1 : World} {S1 : Nat → Prop} {gw : Nat} {vr : Value} {b : List Int} {rows : List S47} (h : Wv wa W S1 gw vr b rows) (k : Below W.heap.size W W1) : Wv wa W1 S1 gw vr b rows := ⟨below_step h.bl k, by obtain ⟨vb, hw⟩ := h.w; exact ⟨vb, hw.below k⟩, h.q⟩
theorem Wv.lt {wa W : World} {S1 : Nat → Prop} {gw : Nat} {vr : Value} {b : List Int} {rows : List S47} (h : Wv wa W S1 gw vr b rows) : ∀ k, S1 k → k < W.heap.size := by obtain ⟨vb, hw⟩ := h.w; exact hw.lt
theorem Wv.far {wa W W1 : World} {S1 T : Nat → Prop} {gw : Nat} {vr : Value} {b : List Int} {rows : List S47} (h : Wv wa W S1 gw vr b rows) (f : Fr T W W1) (hT : ∀ k, T k → wa.heap.size ≤ k ∧ ¬ S1 k) : Wv wa W1 S1 gw vr b rows :=
  ⟨f.below h.bl (fun k hk => (hT k hk).1) h.bl.size, by obtain ⟨vb, hw⟩ := h.w; exact ⟨vb, hw.fr f (fun k hk h2 => (hT k h2).2 hk)⟩, h.q⟩
theorem word1_wv {wa W : World} {S1 : Nat → Prop} {gw : Nat} {vr : Value} {b : List Int} {rows : List S47} (x x1 : Int) (ex : x1 = x) (h : Wv wa W S1 gw vr b rows) (hx : 0 ≤ x ∧ x < 4294967296) (hl : b.length < 35184372088832) :
    Calls Try.prog 26 #[.pointer (some ⟨gw, 0, none⟩), .slice (some ⟨W.heap.size, 0, none⟩) 1 1] (W.alloc (.cells #[.int .u32 x1] 38)) fun e w' => e = .returned (.tuple #[]) ∧ ∃ S', Wv wa w' S' gw vr (b ++ le4 x) rows ∧ Ow S1 S' (W.alloc (.cells #[.int .u32 x1] 38)) w' := by
  subst ex
  have hal := below_alloc (Below.refl W.heap.size W) (.cells #[.int .u32 x1] 38)
  have hC := C_lit .u32 W [x1] 38 (by simp)
  have hw := h.lt
  have h2 := h.below hal
  obtain ⟨vb, hv⟩ := h2.w
  refine (word_callsv (c := 1) [x1] _ hv hC (fun ad e hk => ?_) (fun v hv => ?_) (by simp; omega)).mono fun e w' ⟨he, S', vb', hy', ho⟩ => ⟨he, S', ⟨ho.fr.below h2.bl h2.q h2.bl.size, ⟨vb', by simpa using hy'⟩, fun k hk => ?_⟩, ho⟩
  · cases e
    have := hw _ hk
    exact Nat.lt_irrefl _ this
  · simp only [List.mem_cons, List.not_mem_nil, or_false] at hv
    subst hv; exact hx
  · rcases (ho.sub k hk).1 with h1 | h1
    · exact h.q k h1
    · have := h2.bl.size; omega
structure Wh (wa W : World) (S1 Sh : Nat → Prop) (gw gh : Nat) (vr vh : Value) (b : List Int) (rows : List S47) (hb : List Int) : Prop where
  v : Wv wa W S1 gw vr b rows
  h : Wv wa W Sh gh vh hb []
  d : ∀ k, Sh k → ¬ S1 k
theorem Wh.below {wa W W1 : World} {S1 Sh : Nat → Prop} {gw gh : Nat} {vr vh : Value} {b : List Int} {rows : List S47} {hb : List Int} (h : Wh wa W S1 Sh gw gh vr vh b rows hb) (k : Below W.heap.size W W1) : Wh wa W1 S1 Sh gw gh vr vh b rows hb := ⟨h.v.below k, h.h.below k, h.d⟩
theorem Wh.step {wa W W1 : World} {S1 Sh Sh' : Nat → Prop} {gw gh : Nat} {vr vh vh' : Value} {b : List Int} {rows : List S47} {hb hb' : List Int} (h : Wh wa W S1 Sh gw gh vr vh b rows hb) (k : Wv wa W1 Sh' gh vh' hb' []) (o : Ow Sh Sh' W W1) : Wh wa W1 S1 Sh' gw gh vr vh' b rows hb' :=
  ⟨h.v.far o.fr (fun i hi => ⟨h.h.q i hi, h.d i hi⟩), k, fun i hi h2 => by
    rcases (o.sub i hi).1 with h1 | h1
    · exact h.d i h1 h2
    · have := h.v.lt i h2; omega⟩
theorem word1_wh {wa W : World} {S1 Sh : Nat → Prop} {gw gh : Nat} {vr vh : Value} {b : List Int} {rows : List S47} {hb : List Int} (x x1 : Int) (ex : x1 = x) (h : Wh wa W S1 Sh gw gh vr vh b rows hb) (hx : 0 ≤ x ∧ x < 4294967296) (hl : hb.length < 35184372088832) :
    Calls Try.prog 26 #[.pointer (some ⟨gh, 0, none⟩), .slice (some ⟨W.heap.size, 0, none⟩) 1 1] (W.alloc (.cells #[.int .u32 x1] 38)) fun e w' => e = .returned (.tuple #[]) ∧ ∃ Sh', Wh wa w' S1 Sh' gw gh vr vh b rows (hb ++ le4 x) :=
  (word1_wv x x1 ex h.h hx hl).mono fun e w' ⟨he, S', hv, ho⟩ => ⟨he, S', (h.below (below_alloc (Below.refl _ _) _)).step hv ho⟩
theorem Wh.init {wa W : World} {S1 : Nat → Prop} {gw : Nat} {vr : Value} {b : List Int} {rows : List S47} (h : Wv wa W S1 gw vr b rows) (l : List Int) (hl : l.length < 1000) :
    Wh wa ((W.alloc (.cells (encs (Value.int .u8) l).toArray 5)).alloc (.cells #[.slice (some ⟨W.heap.size, 0, none⟩) l.length l.length, .slice none 0 0] 50)) S1 (fun k => k = W.heap.size ∨ k = W.heap.size + 1) gw (W.heap.size + 1) vr (.slice none 0 0) b rows l := by
  have h1 := below_alloc (Below.refl W.heap.size W) (.cells (encs (Value.int .u8) l).toArray 5)
  have e1 : (W.alloc (.cells (encs (Value.int .u8) l).toArray 5)).heap.size = W.heap.size + 1 := by simp
  have hr : Rb (W.alloc (.cells (encs (Value.int .u8) l).toArray 5)) (fun k => k = W.heap.size) (.slice (some ⟨W.heap.size, 0, none⟩) l.length l.length) l := by
    refine Kd.R_of_own ?_ (fun k hk => by simp [Value.ownBlock] at hk; exact hk.symm)
    have h2 := World.ownsRow_lit (base := 0) (e := 5) (size := 1) W (encs (Value.int .u8) l).toArray l.length (Nat.zero_le _) (by simp [maxLen]; omega) (by simp [encs])
    simpa using h2
  generalize W.alloc (.cells (encs (Value.int .u8) l).toArray 5) = W1 at *
  have h2 := below_alloc (Below.refl W1.heap.size W1) (.cells #[.slice (some ⟨W.heap.size, 0, none⟩) l.length l.length, .slice none 0 0] 50)
  have hi := Wr.init hr (fun k hk => by omega)
  rw [e1] at hi
  have hz := h.bl.size
  refine ⟨(h.below h1).below h2, ⟨below_step (below_step h.bl h1) h2, ⟨_, hi⟩, fun k hk => by omega⟩, fun k hk h3 => ?_⟩
  have := h.lt k h3
  omega
end Go.Proofs.Ytockojajbnnbpaa.E
namespace Go.Proofs.Ytockojajbnnbpaa.E
open Go.RowKit Go.Proofs.Ytockojajbnnbpaa.Q Go.Proofs.YtockojajbnnbpaaW.PrintWords Go.Proofs.YtockojajbnnbpaaW.PrintLast Go.Proofs.YtockojajbnnbpaaW.PrintMore
set_option linter.unusedVariables false
set_option linter.unusedSimpArgs false
set_option maxRecDepth 100000 in
set_option maxHeartbeats 4000000 in
theorem fields_calls (q : Nat) (w : World) : Calls Try.prog 27 #[.pointer (some ⟨q, 0, none⟩)] w fun e w' => e = .returned (.agg #[.pointer (some ⟨q, 0, none⟩), .pointer (some ⟨q, 1, none⟩), .pointer (some ⟨q, 2, none⟩), .pointer (some ⟨q, 3, none⟩), .pointer (some ⟨q, 4, none⟩), .pointer (some ⟨q, 5, none⟩), .pointer (some ⟨q, 6, none⟩), .pointer (some ⟨q, 7, none⟩), .pointer (some ⟨q, 8, none⟩), .pointer (some ⟨q, 9, none⟩)]) ∧ Below w.heap.size w w' := by
  have hu62 := Try.underlying62
  have hb := Aside0.mk (Below.refl w.heap.size w)
  have HBK := Aside0.mk (heap_alloc_new w (.cells #[.pointer none, .pointer none, .pointer none, .pointer none, .pointer none, .pointer none, .pointer none, .pointer none, .pointer none, .pointer none] 62))
  have HBL := Aside0.mk (below_alloc (Below.refl w.heap.size w) (.cells #[.pointer none, .pointer none, .pointer none, .pointer none, .pointer none, .pointer none, .pointer none, .pointer none, .pointer none, .pointer none] 62))
  go_enter Try.func27, Try.ntmps27
  go_wp2
  generalize (w.alloc (.cells #[.pointer none, .pointer none, .pointer none, .pointer none, .pointer none, .pointer none, .pointer none, .pointer none, .pointer none, .pointer none] 62)) = w1 at *
  obtain ⟨p, hp⟩ : ∃ p, p = w.heap.size := ⟨_, rfl⟩
  rw [← hp] at HBK ⊢
  have HP := Aside0.mk hp
  clear hp hb
  go_still_tail 30, (by kernel_rfl)
  change wpList _ _ _ _ _ w1.drew
  have HBK2 : Aside0 (w1.drew.heap[p]? = _) := HBK
  have HBL2 : Aside0 (Below w.heap.size w w1.drew) := ⟨HBL.out.drew⟩
  generalize w1.drew = w2 at *
  have c0 : w2.cell? ⟨p, 0, none⟩ = some (.pointer none) := (blk_cell HBK2.out 0).trans rfl
  have f0 : w2.frozen? ⟨p, 0, none⟩ = false := blk_frozen HBK2.out 0
  have c1 : w2.cell? ⟨p, 1, none⟩ = some (.pointer none) := (blk_cell HBK2.out 1).trans rfl
  have f1 : w2.frozen? ⟨p, 1, none⟩ = false := blk_frozen HBK2.out 1
  have c2 : w2.cell? ⟨p, 2, none⟩ = some (.pointer none) := (blk_cell HBK2.out 2).trans rfl
  have f2 : w2.frozen? ⟨p, 2, none⟩ = false := blk_frozen HBK2.out 2
  have c3 : w2.cell? ⟨p, 3, none⟩ = some (.pointer none) := (blk_cell HBK2.out 3).trans rfl
  have f3 : w2.frozen? ⟨p, 3, none⟩ = false := blk_frozen HBK2.out 3
  have c4 : w2.cell? ⟨p, 4, none⟩ = some (.pointer none) := (blk_cell HBK2.out 4).trans rfl
  have f4 : w2.frozen? ⟨p, 4, none⟩ = false := blk_frozen HBK2.out 4
  have c5 : w2.cell? ⟨p, 5, none⟩ = some (.pointer none) := (blk_cell HBK2.out 5).trans rfl
  have f5 : w2.frozen? ⟨p, 5, none⟩ = false := blk_frozen HBK2.out 5
  have c6 : w2.cell? ⟨p, 6, none⟩ = some (.pointer none) := (blk_cell HBK2.out 6).trans rfl
  have f6 : w2.frozen? ⟨p, 6, none⟩ = false := blk_frozen HBK2.out 6
  have c7 : w2.cell? ⟨p, 7, none⟩ = some (.pointer none) := (blk_cell HBK2.out 7).trans rfl
  have f7 : w2.frozen? ⟨p, 7, none⟩ = false := blk_frozen HBK2.out 7
  have c8 : w2.cell? ⟨p, 8, none⟩ = some (.pointer none) := (blk_cell HBK2.out 8).trans rfl
  have f8 : w2.frozen? ⟨p, 8, none⟩ = false := blk_frozen HBK2.out 8
  have c9 : w2.cell? ⟨p, 9, none⟩ = some (.pointer none) := (blk_cell HBK2.out 9).trans rfl
  have f9 : w2.frozen? ⟨p, 9, none⟩ = false := blk_frozen HBK2.out 9
  clear HBK HBL
  go_wp2
  have hres : ((((((((((w2.setCell ⟨p, 0, none⟩ (.pointer (some ⟨q, 0, none⟩))).setCell ⟨p, 1, none⟩ (.pointer (some ⟨q, 1, none⟩))).setCell ⟨p, 2, none⟩ (.pointer (some ⟨q, 2, none⟩))).setCell ⟨p, 3, none⟩ (.pointer (some ⟨q, 3, none⟩))).setCell ⟨p, 4, none⟩ (.pointer (some ⟨q, 4, none⟩))).setCell ⟨p, 5, none⟩ (.pointer (some ⟨q, 5, none⟩))).setCell ⟨p, 6, none⟩ (.pointer (some ⟨q, 6, none⟩))).setCell ⟨p, 7, none⟩ (.pointer (some ⟨q, 7, none⟩))).setCell ⟨p, 8, none⟩ (.pointer (some ⟨q, 8, none⟩))).setCell ⟨p, 9, none⟩ (.pointer (some ⟨q, 9, none⟩))).heap[p]? = some (.cells #[.pointer (some ⟨q, 0, none⟩), .pointer (some ⟨q, 1, none⟩), .pointer (some ⟨q, 2, none⟩), .pointer (some ⟨q, 3, none⟩), .pointer (some ⟨q, 4, none⟩), .pointer (some ⟨q, 5, none⟩), .pointer (some ⟨q, 6, none⟩), .pointer (some ⟨q, 7, none⟩), .pointer (some ⟨q, 8, none⟩), .pointer (some ⟨q, 9, none⟩)] 62 (0, 0)) := by
    refine blk_put (cs := #[.pointer (some ⟨q, 0, none⟩), .pointer (some ⟨q, 1, none⟩), .pointer (some ⟨q, 2, none⟩), .pointer (some ⟨q, 3, none⟩), .pointer (some ⟨q, 4, none⟩), .pointer (some ⟨q, 5, none⟩), .pointer (some ⟨q, 6, none⟩), .pointer (some ⟨q, 7, none⟩), .pointer (some ⟨q, 8, none⟩), .pointer none]) ?_ 9 _ rfl
    refine blk_put (cs := #[.pointer (some ⟨q, 0, none⟩), .pointer (some ⟨q, 1, none⟩), .pointer (some ⟨q, 2, none⟩), .pointer (some ⟨q, 3, none⟩), .pointer (some ⟨q, 4, none⟩), .pointer (some ⟨q, 5, none⟩), .pointer (some ⟨q, 6, none⟩), .pointer (some ⟨q, 7, none⟩), .pointer none, .pointer none]) ?_ 8 _ rfl
    refine blk_put (cs := #[.pointer (some ⟨q, 0, none⟩), .pointer (some ⟨q, 1, none⟩), .pointer (some ⟨q, 2, none⟩), .pointer (some ⟨q, 3, none⟩), .pointer (some ⟨q, 4, none⟩), .pointer (some ⟨q, 5, none⟩), .pointer (some ⟨q, 6, none⟩), .pointer none, .pointer none, .pointer none]) ?_ 7 _ rfl
    refine blk_put (cs := #[.pointer (some ⟨q, 0, none⟩), .pointer (some ⟨q, 1, none⟩), .pointer (some ⟨q, 2, none⟩), .pointer (some ⟨q, 3, none⟩), .pointer (some ⟨q, 4, none⟩), .pointer (some ⟨q, 5, none⟩), .pointer none, .pointer none, .pointer none, .pointer none]) ?_ 6 _ rfl
    refine blk_put (cs := #[.pointer (some ⟨q, 0, none⟩), .pointer (some ⟨q, 1, none⟩), .pointer (some ⟨q, 2, none⟩), .pointer (some ⟨q, 3, none⟩), .pointer (some ⟨q, 4, none⟩), .pointer none, .pointer none, .pointer none, .pointer none, .pointer none]) ?_ 5 _ rfl
    refine blk_put (cs := #[.pointer (some ⟨q, 0, none⟩), .pointer (some ⟨q, 1, none⟩), .pointer (some ⟨q, 2, none⟩), .pointer (some ⟨q, 3, none⟩), .pointer none, .pointer none, .pointer none, .pointer none, .pointer none, .pointer none]) ?_ 4 _ rfl
    refine blk_put (cs := #[.pointer (some ⟨q, 0, none⟩), .pointer (some ⟨q, 1, none⟩), .pointer (some ⟨q, 2, none⟩), .pointer none, .pointer none, .pointer none, .pointer none, .pointer none, .pointer none, .pointer none]) ?_ 3 _ rfl
    refine blk_put (cs := #[.pointer (some ⟨q, 0, none⟩), .pointer (some ⟨q, 1, none⟩), .pointer none, .pointer none, .pointer none, .pointer none, .pointer none, .pointer none, .pointer none, .pointer none]) ?_ 2 _ rfl
    refine blk_put (cs := #[.pointer (some ⟨q, 0, none⟩), .pointer none, .pointer none, .pointer none, .pointer none, .pointer none, .pointer none, .pointer none, .pointer none, .pointer none]) ?_ 1 _ rfl
    refine blk_put (cs := #[.pointer none, .pointer none, .pointer none, .pointer none, .pointer none, .pointer none, .pointer none, .pointer none, .pointer none, .pointer none]) ?_ 0 _ rfl
    exact HBK2.out
  refine bodyPost_ret (results_cell_row rfl _ _ p 62 #[.pointer (some ⟨q, 0, none⟩), .pointer (some ⟨q, 1, none⟩), .pointer (some ⟨q, 2, none⟩), .pointer (some ⟨q, 3, none⟩), .pointer (some ⟨q, 4, none⟩), .pointer (some ⟨q, 5, none⟩), .pointer (some ⟨q, 6, none⟩), .pointer (some ⟨q, 7, none⟩), .pointer (some ⟨q, 8, none⟩), .pointer (some ⟨q, 9, none⟩)] (0, 0) _ rfl hres Try.underlying62 rfl (by kernel_rfl)) rfl ?_
  have hpz : w.heap.size ≤ p := Nat.le_of_eq HP.out.symm
  refine ⟨rfl, ?_⟩
  exact ((((((((((HBL2.out.setCell hpz _).setCell hpz _).setCell hpz _).setCell hpz _).setCell hpz _).setCell hpz _).setCell hpz _).setCell hpz _).setCell hpz _).setCell hpz _)
theorem le4_mod (n : Int) : le4 (n % 4294967296) = le4 n := by
  unfold le4
  simp only [List.cons.injEq, and_true]
  refine ⟨?_, ?_, ?_, ?_⟩ <;> omega
theorem le4_two (n m : Int) (h0 : 0 ≤ n) (h1 : n < 65536) (g0 : 0 ≤ m) (g1 : m < 65536) : le4 (n + 65536 * m) = le2 n ++ le2 m := by
  unfold le4 le2
  simp only [List.cons_append, List.nil_append, List.cons.injEq, and_true]
  refine ⟨?_, ?_, ?_, ?_⟩ <;> omega
theorem Wh.setH {wa W w1 : World} {S1 Sh : Nat → Prop} {gw gh : Nat} {vr vh vb v1 : Value} {b : List Int} {rows : List S47} {hb hb' : List Int} (h : Wh wa W S1 Sh gw gh vr vh b rows hb) (hv : Wrv W Sh gh vb vh hb []) (h1 : Rb w1 (fun k => (Sh k ∨ W.heap.size ≤ k) ∧ k < w1.heap.size) v1 hb') (hg : W.grownBy w1 vb.ownBlock) :
    ∃ Sh', Wh wa (w1.setCell ⟨gh, 0, none⟩ v1) S1 Sh' gw gh vr vh b rows hb' := by
  obtain ⟨S', hw, ho⟩ := hv.setB h1 hg
  refine ⟨S', h.step ⟨ho.fr.below h.h.bl h.h.q h.h.bl.size, ⟨_, hw⟩, fun k hk => ?_⟩ ho⟩
  rcases (ho.sub k hk).1 with h2 | h2
  · exact h.h.q k h2
  · have := h.h.bl.size; omega
theorem Rb_base {w : World} {S : Nat → Prop} {v : Value} {l : List Int} {B : Nat} (h : Rb w S v l) (hB : ∀ k, S k → B ≤ k) : Kd.R (Kd.int .u8) 5 w B (fun _ => True) v l := by
  have ho := Kd.own_of_R h
  refine Kd.R_of_own ⟨ho.1, ?_⟩ (fun _ _ => trivial)
  rcases ho.2 with h2 | ⟨g, cap, cur, hv, _, r⟩
  · exact .inl h2
  · refine .inr ⟨g, cap, cur, hv, hB g (h.1 g (by rw [hv]; rfl)), r⟩
end Go.Proofs.Ytockojajbnnbpaa.E
namespace Go.Proofs.Ytockojajbnnbpaa.E
open Go.RowKit Go.Proofs.Ytockojajbnnbpaa.Q Go.Proofs.YtockojajbnnbpaaW.PrintWords Go.Proofs.YtockojajbnnbpaaW.PrintLast Go.Proofs.YtockojajbnnbpaaW.PrintMore
set_option linter.unusedVariables false
set_option linter.unusedSimpArgs false
def ptrs (q : Nat) : Value := .agg #[.pointer (some ⟨q, 0, none⟩), .pointer (some ⟨q, 1, none⟩), .pointer (some ⟨q, 2, none⟩), .pointer (some ⟨q, 3, none⟩), .pointer (some ⟨q, 4, none⟩), .pointer (some ⟨q, 5, none⟩), .pointer (some ⟨q, 6, none⟩), .pointer (some ⟨q, 7, none⟩), .pointer (some ⟨q, 8, none⟩), .pointer (some ⟨q, 9, none⟩)]
theorem run_ptrs (q : Nat) (k : Nat) (hk : k < 10) (W : World) : (Instr.index 62 (ptrs q) (.int .i64 (k : Int))).run Try.prog W = .ok (.pointer (some ⟨q, k, none⟩)) W := by
  have hs : (sizeOf 61).run Try.prog W = .ok 1 W := by
    have : (Try.prog.info? 61).map (·.size) = some 1 := by kernel_rfl
    obtain ⟨i, hi, hz⟩ := Option.map_eq_some_iff.1 this
    simp [sizeOf, typeInfo, hi, hz]
  have hk10 : k = 0 ∨ k = 1 ∨ k = 2 ∨ k = 3 ∨ k = 4 ∨ k = 5 ∨ k = 6 ∨ k = 7 ∨ k = 8 ∨ k = 9 := by omega
  unfold Instr.index ptrs
  rcases hk10 with rfl | rfl | rfl | rfl | rfl | rfl | rfl | rfl | rfl | rfl <;> simp [run_underlying Try.underlying62, hs, asIntOf, part, go_sem]
theorem cells_of_C {W : World} {ad : Addr} {n : Nat} {l : List Int} (h : Kd.C (Kd.int .u8) W (some ad) n l) : ∀ (j : Nat) (u : Value), (encs (Value.int .u8) l)[j]? = some u → W.cell? (ad.add j) = some u := by
  intro j u hj
  have hjl : j < l.length := by have := (List.getElem?_eq_some_iff.1 hj).1; simpa [encs] using this
  obtain ⟨ad', ea', hc'⟩ := (Kd.reads_of_C (enc := Value.int .u8) (d := (0 : Int)) (h1 := fun _ => rfl) h).2.2 (by have := h.1; omega)
  cases ea'
  rw [hc' j (by have := h.1; omega), List.getD_eq_getElem?_getD, List.getElem?_eq_getElem hjl]
  simp [encs, List.getElem?_eq_getElem hjl] at hj
  simp [hj]
section
variable {ops : Array Oper} {rest : List Oper} {o : Oper} {a : Act} {Q : Exit → Act → World → Prop}
theorem ev_grow {W : World} (hgd : o.guard = none) (s x : Operand) (ho : o.op = .call { callee := .builtin .append, args := #[s, x], argTypes := #[27, 27] })
    (bk : Nat) (l ys : List Int) (A2 : Option Addr) (c : Nat) (hs : a.eval s = .slice (some ⟨bk, 0, none⟩) l.length l.length) (hx : a.eval x = .slice A2 ys.length c) (hy : 0 < ys.length)
    (HC : Kd.C (Kd.int .u8) W (some ⟨bk, 0, none⟩) l.length l) (HR : Kd.C (Kd.int .u8) W A2 ys.length ys) (hl : l.length + ys.length ≤ 140737488355328)
    (h : ∀ (L : List Int) (A1 : Option Addr) (c1 : Nat) w1, Aside0 (L = l ++ ys) → Rb w1 (fun k => W.heap.size ≤ k ∧ k < w1.heap.size) (.slice A1 L.length c1) L → W.grownBy w1 none → wpList Try.prog ops Q rest (a.put o.dst (.slice A1 L.length c1)) w1) : wpList Try.prog ops Q (o :: rest) a W := by
  obtain ⟨i0, hi, hzz⟩ := Option.map_eq_some_iff.1 info5
  simp only [Prod.mk.injEq] at hzz
  obtain ⟨ad, rfl, _⟩ := HR.2.2 hy
  refine wpList_append_grows W hgd s x 27 ho 5 i0 (.int .u8 0) 1 1 Try.underlying27 hi hzz.1 hzz.2.1 hzz.2.2 rfl (by decide) (some ⟨bk, 0, none⟩) l.length l.length (encs (Value.int .u8) l) hs (fun h => by cases h) (by simp [encs]) (fun b hb => by cases hb; exact cells_of_C HC) ad ys.length c (encs (Value.int .u8) ys) hx (by simp [encs]) (cells_of_C HR) (fun u hu => by obtain ⟨y, _, rfl⟩ := List.mem_map.1 hu; rfl) (by omega) (by simp only [maxLen]; omega) (by omega) ?_
  intro v' w' hown hg
  have hown2 : w'.ownsRow W.heap.size 5 1 v' (l ++ ys).length (encs (Value.int .u8) (l ++ ys)) := by
    have : encs (Value.int .u8) (l ++ ys) = encs (Value.int .u8) l ++ encs (Value.int .u8) ys := by simp [encs]
    rw [this, List.length_append]; exact hown
  have hR := Kd.R_of_own (h1 := fun _ => rfl) hown2 (ok := fun k => W.heap.size ≤ k) (fun k hk => own_base hown2 k hk)
  obtain ⟨A1, c1, rfl⟩ := Kd.R_slice hR
  exact h _ A1 c1 w' ⟨rfl⟩ (R_bd (Kd.R_lower hR (Nat.zero_le _))) hg
end
set_option maxRecDepth 100000 in
set_option maxHeartbeats 4000000 in
theorem wordm_calls (x : Int) (gh bk : Nat) (l : List Int) (w : World) (hblk : w.heap[gh]? = some (.cells #[.slice (some ⟨bk, 0, none⟩) l.length l.length, .slice none 0 0] 50 (0, 0))) (hC : Kd.C (Kd.int .u8) w (some ⟨bk, 0, none⟩) l.length l) (hx : 0 ≤ x ∧ x < 4294967296) (hl : 0 < l.length ∧ l.length < 1000) :
    Calls Try.prog 26 #[.pointer (some ⟨gh, 0, none⟩), .slice (some ⟨w.heap.size, 0, none⟩) 1 1] (w.alloc (.cells #[.int .u32 x] 38)) fun e w' => e = .returned (.tuple #[]) ∧ ∃ S' v, Wrv w' S' gh v (.slice none 0 0) (l ++ le4 x) [] ∧ Fr (fun k => k = gh) (w.alloc (.cells #[.int .u32 x] 38)) w' ∧ ∀ k, S' k → k = gh ∨ w.heap.size ≤ k := by
  have hal := below_alloc (Below.refl w.heap.size w) (.cells #[.int .u32 x] 38)
  have hCl := C_lit .u32 w [x] 38 (by simp)
  have HBK := Aside0.mk (blk_below hblk hal)
  have HC := Aside0.mk (Kd.C_below hC hal)
  have HCL : Aside0 (Kd.C (Kd.int .u32) (w.alloc (.cells #[.int .u32 x] 38)) (some ⟨w.heap.size, 0, none⟩) 1 [x]) := ⟨hCl⟩
  have HX := Aside0.mk hx
  have HL := Aside0.mk hl
  have HG := Aside0.mk (blk_lt hblk)
  have hsz : (w.alloc (.cells #[.int .u32 x] 38)).heap.size = w.heap.size + 1 := by simp
  have HSZ := Aside0.mk hsz
  clear hblk hC hCl hal hx hl hsz
  generalize (w.alloc (.cells #[.int .u32 x] 38)) = w0 at *
  generalize w.heap.size = p at *
  go_enter Try.func26, Try.ntmps26
  go_wp2
  go_loopg [10] 2 (fun kq v10 w' => ∃ (i : Nat), v10 = .int .i64 (i : Int) ∧ Aside0 (i + kq = 2) ∧ Aside0 (i ≤ 1) ∧ Aside0 (i = 0 → w' = w0) ∧ Aside0 (i = 1 → ∃ S' v, Wrv w' S' gh v (.slice none 0 0) (l ++ le4 x) [] ∧ Fr (fun k => k = gh) w0 w' ∧ ∀ k, S' k → k = gh ∨ p ≤ k))
  case atStart => exact ⟨0, rfl, ⟨by omega⟩, ⟨by omega⟩, ⟨fun _ => rfl⟩, ⟨fun h => by omega⟩⟩
  case round =>
    obtain ⟨i, rfl, HK, HI, H0, H1⟩ := hrel
    by_cases c1 : i = 0
    · subst c1
      cases gk with
      | zero => exact absurd HK.out (by omega)
      | succ gk =>
        have e0 := H0.out rfl
        subst e0
        obtain ⟨ad, ea, hxx⟩ := Kd.at_int HCL.out 0 (by omega) (by omega)
        cases ea
        rw [show rd [x] 0 = x from rfl] at hxx
        have hxx2 : wr.cell? ⟨p, 0, none⟩ = some (.int .u32 x) := hxx
        have hw : IntKind.u64.wrap x = x := u64id x HX.out.1 (by have := HX.out.2; omega)
        go_wp2_with fail
        refine (put4_calls x HX.out.1 HX.out.2 _).mono ?_
        rintro e w2 ⟨v, rfl, hv, hb⟩
        obtain ⟨A2, c2, rfl, hl2, hC2⟩ := Kd.R_reads hv
        obtain ⟨g2, cap2, hv2, _, _⟩ := (Kd.own_of_R hv).form (by rw [le4_len]; decide)
        injection hv2 with hA2 _ _
        subst hA2
        have hbk := blk_below HBK.out hb
        have hc0 : w2.cell? ⟨gh, 0, none⟩ = some (.slice (some ⟨bk, 0, none⟩) l.length l.length) := (blk_cell hbk 0).trans rfl
        have HB2 := Aside0.mk hb
        have HBK2 := Aside0.mk hbk
        have HC2 := Aside0.mk hC2
        have HCC := Aside0.mk (Kd.C_below HC.out hb)
        clear hv hb hbk hC2 hl2 hxx hxx2
        have HLP : Aside0 (0 < (le4 x).length) := ⟨by rw [le4_len]; decide⟩
        go_wp2_with (first | ((with_reducible refine gate_builtin (b := .append) (xs := #[.tmp 24, .tmp 25]) rfl ?_); at_builtin; refine ev_grow rfl (.tmp 24) (.tmp 25) rfl bk l (le4 x) (some ⟨g2, 0, none⟩) cap2 rfl rfl HLP.out HCC.out HC2.out (by rw [le4_len]; have := HL.out; omega) ?_; intro L1 A3 c3 w3 hL1 hr1 hg1; have HL1 := hL1; have HR1 := Aside0.mk hr1; have HG1 := Aside0.mk hg1; have HK3 := Aside0.mk (blk_grown HBK2.out hg1 (by simp)); have hc1 : w3.cell? ⟨gh, 0, none⟩ = some (.slice (some ⟨bk, 0, none⟩) l.length l.length) := (blk_cell HK3.out 0).trans rfl; have hf1 := blk_frozen HK3.out 0; clear hr1 hg1))
        have hsz : ∀ p u, (w3.setCell p u).heap.size = w3.heap.size := by intro p u; simp [World.setCell]
        have HFIN : Aside0 (∃ S' v, Wrv (w3.setCell ⟨gh, 0, none⟩ (.slice A3 L1.length c3)) S' gh v (.slice none 0 0) (l ++ le4 x) [] ∧ Fr (fun k => k = gh) wr (w3.setCell ⟨gh, 0, none⟩ (.slice A3 L1.length c3)) ∧ ∀ k, S' k → k = gh ∨ p ≤ k) := ⟨by
          have hb2 := HB2.out.size
          have hb3 := HG1.out.size
          have hgl := blk_lt HK3.out
          have hpz := HSZ.out
          have hg0 := HG.out
          refine ⟨fun k => k = gh ∨ (w2.heap.size ≤ k ∧ k < w3.heap.size), .slice A3 L1.length c3, ⟨(blk_set HK3.out 0 _).trans rfl, ?_, Kd.R_nil _ _ _ _ _, .inl rfl, fun k hk => by rw [hsz]; omega⟩, ?_, fun k hk => by omega⟩
          · have h1 := Kd.R_set HR1.out HK3.out (by simp [Kd.int, Kd.scalar]) 0 (.slice A3 L1.length c3)
            rw [hL1.out] at h1 ⊢
            exact Kd.R_mono h1 (fun k hk => .inr hk)
          · exact Fr.setCell (S := fun k => k = gh) (p := ⟨gh, 0, none⟩) ((Fr.of_below HB2.out).trans (Fr.of_grown HG1.out (fun k h => by cases h))) rfl _⟩
        go_roundg gk
        case measure => omega
        case rel => exact ⟨1, rfl, ⟨by have := HK.out; omega⟩, ⟨by omega⟩, ⟨fun h => by omega⟩, ⟨fun _ => HFIN.out⟩⟩
    · have hi : i = 1 := by have := HI.out; omega
      subst hi
      have HFIN := Aside0.mk (H1.out rfl)
      clear H0 H1 c1
      go_wp2
      go_end0
      exact ⟨rfl, HFIN.out⟩
theorem C_litm (k : IntKind) (W : World) (l : List Int) (t : TypeId) (fr : Nat × Nat) (hl : l.length < 9223372036854775808) : Kd.C (Kd.int k) (W.alloc (.cells (encs (Value.int k) l).toArray t fr)) (some ⟨W.heap.size, 0, none⟩) l.length l := by
  refine ⟨rfl, by omega, fun _ => ⟨_, rfl, fun j p hj => ⟨[.int k p], rfl, rfl, fun i u hu => ?_⟩⟩⟩
  cases i with
  | succ i => simp at hu
  | zero =>
    have e : Value.int k p = u := by simpa using hu
    subst e
    have hb := heap_alloc_new W (.cells (encs (Value.int k) l).toArray t fr)
    have ha : (Addr.mk W.heap.size 0 none).add (j * (Kd.int k).sz + 0) = ⟨W.heap.size, j, none⟩ := by
      show (Addr.mk W.heap.size 0 none).add (j * 1 + 0) = _
      rw [Nat.mul_one, Nat.add_zero]; unfold Addr.add; split <;> simp_all
    rw [ha]
    simp only [World.cell?, hb]
    simp [encs, hj]
def magicC : Array Value := #[.int .u8 127, .int .u8 69, .int .u8 76, .int .u8 70, .int .u8 1, .int .u8 1, .int .u8 1, .int .u8 0, .int .u8 0, .int .u8 0, .int .u8 0, .int .u8 0, .int .u8 0, .int .u8 0, .int .u8 0, .int .u8 0, .int .u8 1, .int .u8 0, .int .u8 243, .int .u8 0, .int .u8 1, .int .u8 0, .int .u8 0, .int .u8 0, .int .u8 0, .int .u8 0, .int .u8 0, .int .u8 0, .int .u8 0, .int .u8 0, .int .u8 0, .int .u8 0]
theorem magicC_eq : (encs (Value.int .u8) magic).toArray = magicC := rfl
theorem hdr1_calls {wa wr : World} {S : Nat → Prop} {gw : Nat} {vr : Value} {b : List Int} {rows : List S47} (hv : Wv wa wr S gw vr b rows) (x : Int) (hx : 0 ≤ x ∧ x < 4294967296) :
    Calls Try.prog 26 #[.pointer (some ⟨wr.heap.size + 1, 0, none⟩), .slice (some ⟨wr.heap.size + 1 + 1, 0, none⟩) 1 1] (((wr.alloc (.cells #[.int .u8 127, .int .u8 69, .int .u8 76, .int .u8 70, .int .u8 1, .int .u8 1, .int .u8 1, .int .u8 0, .int .u8 0, .int .u8 0, .int .u8 0, .int .u8 0, .int .u8 0, .int .u8 0, .int .u8 0, .int .u8 0, .int .u8 1, .int .u8 0, .int .u8 243, .int .u8 0, .int .u8 1, .int .u8 0, .int .u8 0, .int .u8 0, .int .u8 0, .int .u8 0, .int .u8 0, .int .u8 0, .int .u8 0, .int .u8 0, .int .u8 0, .int .u8 0] 5 (32, 33))).alloc (.cells #[.slice (some ⟨wr.heap.size, 0, none⟩) 32 32, .slice none 0 0] 50)).alloc (.cells #[.int .u32 x] 38)) fun e w' => e = .returned (.tuple #[]) ∧ ∃ Sh, Wh wa w' S Sh gw (wr.heap.size + 1) vr (.slice none 0 0) b rows (magic ++ le4 x) := by
  have h1 := below_alloc (Below.refl wr.heap.size wr) (.cells magicC 5 (32, 33))
  have hc := C_litm .u8 wr magic 5 (32, 33) (by decide)
  rw [magicC_eq] at hc
  have e1 : (wr.alloc (.cells magicC 5 (32, 33))).heap.size = wr.heap.size + 1 := by simp
  change Calls Try.prog 26 _ (((wr.alloc (.cells magicC 5 (32, 33))).alloc _).alloc _) _
  generalize wr.alloc (.cells magicC 5 (32, 33)) = w1 at *
  have h2 := below_alloc (Below.refl w1.heap.size w1) (.cells #[.slice (some ⟨wr.heap.size, 0, none⟩) 32 32, .slice none 0 0] 50)
  have e2 : (w1.alloc (.cells #[.slice (some ⟨wr.heap.size, 0, none⟩) 32 32, .slice none 0 0] 50)).heap.size = wr.heap.size + 1 + 1 := by simp [e1]
  have hb2 := heap_alloc_new w1 (.cells #[.slice (some ⟨wr.heap.size, 0, none⟩) 32 32, .slice none 0 0] 50)
  rw [e1] at hb2
  have hc2 := Kd.C_below hc h2
  have hv2 := (hv.below h1).below h2
  have hlt := hv.lt
  clear h1 h2 hc
  generalize w1.alloc (.cells #[.slice (some ⟨wr.heap.size, 0, none⟩) 32 32, .slice none 0 0] 50) = w2 at *
  have h := wordm_calls x (wr.heap.size + 1) wr.heap.size magic w2 hb2 hc2 hx (by decide)
  rw [e2] at h
  have hal := below_alloc (Below.refl w2.heap.size w2) (.cells #[.int .u32 x] 38)
  have hv3 := hv2.below hal
  have hz := hv2.bl.size
  have hz0 := hv.bl.size
  refine h.mono fun e w' ⟨he, S', v, hw, hf, hs⟩ => ⟨he, S', ⟨hv3.far hf (fun k hk => ⟨by omega, fun hS => by have := hlt k hS; omega⟩), ⟨hf.below hv3.bl (fun k hk => by omega) hv3.bl.size, ⟨v, hw⟩, fun k hk => by have := hs k hk; omega⟩, fun k hk hS => by have := hs k hk; have := hlt k hS; omega⟩⟩
end Go.Proofs.Ytockojajbnnbpaa.E
namespace Go.Proofs.Ytockojajbnnbpaa.E
open Go.RowKit Go.Proofs.Ytockojajbnnbpaa.Q Go.Proofs.YtockojajbnnbpaaW.PrintWords Go.Proofs.YtockojajbnnbpaaW.PrintLast Go.Proofs.YtockojajbnnbpaaW.PrintMore
set_option linter.unusedVariables false
set_option linter.unusedSimpArgs false
structure Rw (w0 W : World) (S : Nat → Prop) (g : Nat) (A : Option Addr) (c : Nat) (b : List Int) (vr : Value) (rows : List S47) : Prop where
  bl : Below w0.heap.size w0 W
  blk : W.heap[g]? = some (.cells #[.slice A b.length c, vr] 69 (0, 0))
  rr : Kd.R k47 47 W 0 S vr rows
  own : S g
  q : ∀ k, S k → w0.heap.size ≤ k ∧ k < W.heap.size
section
variable {w0 W W1 : World} {S : Nat → Prop} {g : Nat} {A : Option Addr} {c : Nat} {b : List Int} {vr v1 : Value} {rows rows1 : List S47}
theorem Rw.below (h : Rw w0 W S g A c b vr rows) (k : Below W.heap.size W W1) : Rw w0 W1 S g A c b vr rows :=
  ⟨below_step h.bl k, blk_below h.blk k, Kd.R_below h.rr k, h.own, fun i hi => ⟨(h.q i hi).1, Nat.lt_of_lt_of_le (h.q i hi).2 k.size⟩⟩
theorem Rw.far {p : Addr} (h : Rw w0 W S g A c b vr rows) (hp : ¬ S p.block) (hz : w0.heap.size ≤ p.block) (u : Value) : Rw w0 (W.setCell p u) S g A c b vr rows := by
  have hsz : (W.setCell p u).heap.size = W.heap.size := by simp [World.setCell]
  exact ⟨h.bl.setCell hz u, (Below.heap_setCell _ _ _ _ (fun e => hp (by rw [← e]; exact h.own))).trans h.blk, Kd.R_far h.rr (fun k hk e => hp (by rw [← e]; exact hk)) u, h.own, fun i hi => by rw [hsz]; exact h.q i hi⟩
theorem Rw.setR (h : Rw w0 W S g A c b vr rows) (h1 : Kd.R k47 47 W1 0 (fun k => (S k ∨ W.heap.size ≤ k) ∧ k < W1.heap.size) v1 rows1) (hg : W.grownBy W1 vr.ownBlock) :
    ∃ S1, Rw w0 (W1.setCell ⟨g, 1, none⟩ v1) S1 g A c b v1 rows1 ∧ Ow S S1 W (W1.setCell ⟨g, 1, none⟩ v1) := by
  obtain ⟨ib, hob⟩ := Kd.R_own h.rr
  have hne := ne_own hob h.blk (by decide)
  have hb1 : W1.heap[g]? = some (.cells #[.slice A b.length c, vr] 69 (0, 0)) := blk_grown h.blk hg hne
  have hsz : ∀ p u, (W1.setCell p u).heap.size = W1.heap.size := by intro p u; simp [World.setCell]
  have hz := h.bl.size
  have hf : Fr S W (W1.setCell ⟨g, 1, none⟩ v1) := (Fr.of_grown hg (fun k e => h.rr.1 k e)).setCell h.own v1
  refine ⟨fun k => (S k ∨ W.heap.size ≤ k) ∧ k < W1.heap.size, ⟨hf.below h.bl (fun i hi => (h.q i hi).1) hz, (blk_set hb1 1 v1).trans rfl, Kd.R_set h1 hb1 (by simp [k47, Kd.iso, Kd.pair, Kd.int, Kd.scalar]) 1 v1, ⟨.inl h.own, blk_lt hb1⟩, fun k hk => ?_⟩, ⟨hf, fun k hk => by rw [hsz]; exact hk⟩⟩
  rw [hsz]
  rcases hk.1 with h2 | h2
  · exact ⟨(h.q k h2).1, hk.2⟩
  · exact ⟨by omega, hk.2⟩
theorem Rw.at0 (h : Rw w0 W S g A c b vr rows) : W.cell? ⟨g, 0, none⟩ = some (.slice A b.length c) := (blk_cell h.blk 0).trans rfl
theorem Rw.at1 (h : Rw w0 W S g A c b vr rows) : W.cell? ⟨g, 1, none⟩ = some vr ∧ W.frozen? ⟨g, 1, none⟩ = false := ⟨(blk_cell h.blk 1).trans rfl, blk_frozen h.blk 1⟩
theorem Rw.atR (h : Rw w0 W S g A c b vr rows) (hg : W.grownBy W1 vr.ownBlock) : W1.cell? ⟨g, 1, none⟩ = some vr ∧ W1.frozen? ⟨g, 1, none⟩ = false := by
  obtain ⟨ib, hob⟩ := Kd.R_own h.rr
  have hb1 := blk_grown h.blk hg (ne_own hob h.blk (by decide))
  exact ⟨(blk_cell hb1 1).trans rfl, blk_frozen hb1 1⟩
theorem Rw.rd (h : Rw w0 W S g A c b vr rows) (hC : Kd.C (Kd.int .u8) w0 A b.length b) (hc : b.length ≤ c) : Rd W g b rows := by
  obtain ⟨Ar, cr, rfl, hl, hr⟩ := Kd.R_reads h.rr
  exact ⟨A, c, Ar, cr, h.blk, Kd.C_below hC h.bl, hc, hr, hl⟩
end
theorem rowsOf_snoc (b : List Int) (t n i : Nat) (h : i < n) : (rowsOf b t n).take (i + 1) = (rowsOf b t n).take i ++ [rowAt b (t + 40 * i)] := by
  have hl : i < (rowsOf b t n).length := by unfold rowsOf; simpa using h
  rw [List.take_succ_eq_append_getElem hl]
  simp [rowsOf]
theorem rowsOf_len (b : List Int) (t n : Nat) : (rowsOf b t n).length = n := by simp [rowsOf]
theorem rowsOf_get (b : List Int) (t n i : Nat) (h : i < n) : (rowsOf b t n)[i]? = some (rowAt b (t + 40 * i)) := by simp [rowsOf, h]
theorem rowAt_rg (b : List Int) (hb : AllBytes b) (k : Nat) : RowRg (rowAt b k) := by
  intro x hx
  simp only [fieldsL, rowAt, List.mem_cons, List.not_mem_nil, or_false] at hx
  rcases hx with rfl | rfl | rfl | rfl | rfl | rfl | rfl | rfl | rfl | rfl <;> exact gw_rg b hb _ 4 (by decide)
theorem table_is (b : List Int) (hb : AllBytes b) : ((tabAt b : Nat) : Int) = gw b 32 4 ∧ ((tabN b : Nat) : Int) = gw b 48 2 ∧ tabN b < 65536 := by
  have h1 := gw_rg b hb 32 4 (by decide)
  have h2 := gw_rg b hb 48 2 (by decide)
  have h3 := numOf_range ((b.drop 48).take 2) (fun x hx => hb x (List.mem_of_mem_drop (List.mem_of_mem_take hx)))
  have h4 : gw b 48 2 < 65536 := by
    refine Int.lt_of_lt_of_le h3.2 ?_
    have hl : ((b.drop 48).take 2).length ≤ 2 := by rw [List.length_take]; omega
    generalize ((b.drop 48).take 2).length = m at hl
    have : m = 0 ∨ m = 1 ∨ m = 2 := by omega
    rcases this with rfl | rfl | rfl <;> decide
  unfold tabAt tabN
  omega
end Go.Proofs.Ytockojajbnnbpaa.E
