/- Joined texts (T1, T2, T3, T4, T5, T6, S34, S11, V1, L7, OpenE, P9, L8): what the law needs of them. Lean checks them. -/
import Derived.Test.YtockojajbnnbpaaKB0
import Derived.Test.YtockojajbnnbpaaKB1
import Derived.Test.YtockojajbnnbpaaKB2
import Derived.Test.YtockojajbnnbpaaKB3
import Derived.Test.YtockojajbnnbpaaKB4
import Derived.Shelf.SlLaysF0
import Derived.Deep.DeepCutAuto
import Derived.Deep.CutRange
import Derived.StillTailTactics
import Derived.Deep.RegionWith
import Derived.Deep.RegionHeld3
import Derived.Lib.SmallJoins
import Derived.Carry
import Derived.KernelRfl
import Derived.ChangeArms
import Derived.Deep.Slices
namespace Go.Proofs.Ytockojajbnnbpaa.E
open Go.Sort hiding Below
open Go.RowKit Go.Shelf Go.Lib Go.Proofs.Ytockojajbnnbpaa.Q Go.Proofs.YtockojajbnnbpaaW.PrintWords
set_option linter.unusedVariables false
set_option linter.unusedSimpArgs false
abbrev K59 := {x : S59 // 0 ≤ x.f0 ∧ x.f0 < 4611686018427387904}
instance : Inhabited K59 := ⟨⟨z59, by decide⟩⟩
def ky (x : K59) : Int := x.1.f0
def en (x : K59) : List Value := [.int .i64 x.1.f0, .int .u32 x.1.f1, .int .u8 x.1.f2, .int .i64 x.1.f3, .int .i32 x.1.f4]
def cf (x y : K59) : Int := ky x - ky y
theorem en_len (x : K59) : (en x).length = 5 := rfl
theorem en_one (x : K59) : ∀ v ∈ en x, v.oneCell' = true := by
  intro v hv
  simp [en] at hv
  rcases hv with rfl | rfl | rfl | rfl | rfl <;> rfl
theorem cmp_calls (x y : K59) (W : World) : Calls Try.prog 76 #[.agg #[.int .i64 x.1.f0, .int .u32 x.1.f1, .int .u8 x.1.f2, .int .i64 x.1.f3, .int .i32 x.1.f4], .agg #[.int .i64 y.1.f0, .int .u32 y.1.f1, .int .u8 y.1.f2, .int .i64 y.1.f3, .int .i32 y.1.f4]] W fun e w' => e = .returned (.int .i64 (cf x y)) ∧ ∃ q os', w' = grow (W.drewN q) os' := by
  have hw : IntKind.i64.wrap (x.1.f0 - y.1.f0) = x.1.f0 - y.1.f0 := by
    have := x.2; have := y.2
    rw [IntKind.wrap_i64]; omega
  have he : x.1.f0 - y.1.f0 = cf x y := rfl
  rw [he] at hw
  go_enter Try.func76, Try.ntmps76
  go_wp2_with fail
  go_ret
  exact ⟨rfl, 0, _, by rw [alloc_eq_grow, alloc_eq_grow, grow_grow]; rfl⟩
theorem cmp_lays (blk off size : Nat) (w : World) : CmpLays Try.prog 76 #[] en 5 cf blk off size w := fun _ _ _ _ x y => cmp_calls x y _
def ren97 : Ren := ⟨fun | 20 => 97 | n => n, fun | 22 => 24 | 24 => 59 | 25 => 124 | n => n, fun n => n⟩
theorem lay97 : SlLaysF0.n20 Try.prog ren97 :=
  { mixed := by kernel_rfl, f20 := ⟨"slices.insertionSortCmpFunc[bulwark/api.Reloc]", by decide, Try.func97.trans (by kernel_rfl)⟩, t0 := Try.underlying0, a0 := Try.isAgg0, z0 := Try.sizeOf0, v0 := Try.zeroValue0, t3 := Try.underlying3, a3 := Try.isAgg3, z3 := Try.sizeOf3, v3 := Try.zeroValue3, t4 := Try.underlying4, a4 := Try.isAgg4, z4 := Try.sizeOf4, v4 := Try.zeroValue4, t22 := Try.underlying24, a22 := Try.isAgg24, z22 := Try.sizeOf24, v22 := Try.zeroValue24, t25 := Try.underlying124, a25 := Try.isAgg124, z25 := Try.sizeOf124, v25 := Try.zeroValue124 }
structure Pk (P : Program) (k : Nat) : Prop where
  mixed : P.follows .mixedOrders = true
  f92 : P.funcs[92]? = some Try.f92
  f98 : P.funcs[98]? = some Try.f98
  f99 : P.funcs[99]? = some Try.f99
  f100 : P.funcs[100]? = some Try.f100
  t0 : P.underlying 0 = some (TypeDesc.tuple #[])
  a0 : ∀ w, (isAgg 0).run P w = .ok false w
  z0 : ∀ w, (Go.sizeOf 0).run P w = .ok 1 w
  v0 : ∀ w, (zeroValue 0).run P w = .ok (Value.tuple #[]) w
  t3 : P.underlying 3 = some (TypeDesc.int IntKind.i64)
  a3 : ∀ w, (isAgg 3).run P w = .ok false w
  z3 : ∀ w, (Go.sizeOf 3).run P w = .ok 1 w
  v3 : ∀ w, (zeroValue 3).run P w = .ok (Value.int IntKind.i64 0) w
  t4 : P.underlying 4 = some (TypeDesc.bool)
  a4 : ∀ w, (isAgg 4).run P w = .ok false w
  z4 : ∀ w, (Go.sizeOf 4).run P w = .ok 1 w
  v4 : ∀ w, (zeroValue 4).run P w = .ok (Value.bool false) w
  t24 : P.underlying 24 = some (TypeDesc.slice 59)
  a24 : ∀ w, (isAgg 24).run P w = .ok false w
  z24 : ∀ w, (Go.sizeOf 24).run P w = .ok 1 w
  v24 : ∀ w, (zeroValue 24).run P w = .ok (Value.slice none 0 0) w
  t32 : P.underlying 32 = some (TypeDesc.int IntKind.u64)
  a32 : ∀ w, (isAgg 32).run P w = .ok false w
  z32 : ∀ w, (Go.sizeOf 32).run P w = .ok 1 w
  v32 : ∀ w, (zeroValue 32).run P w = .ok (Value.int IntKind.u64 0) w
  t124 : P.underlying 124 = some (TypeDesc.func #[59, 59] #[3] false)
  a124 : ∀ w, (isAgg 124).run P w = .ok false w
  z124 : ∀ w, (Go.sizeOf 124).run P w = .ok 1 w
  v124 : ∀ w, (zeroValue 124).run P w = .ok (Value.nilFunc) w
  a59 : ∀ w, (isAgg 59).run P w = .ok true w
  z59 : ∀ w, (Go.sizeOf 59).run P w = .ok k w
theorem pk_try : Pk Try.prog 5 :=
  { mixed := by kernel_rfl, f92 := Try.func92, f98 := Try.func98, f99 := Try.func99, f100 := Try.func100, t0 := Try.underlying0, a0 := Try.isAgg0, z0 := Try.sizeOf0, v0 := Try.zeroValue0, t3 := Try.underlying3, a3 := Try.isAgg3, z3 := Try.sizeOf3, v3 := Try.zeroValue3, t4 := Try.underlying4, a4 := Try.isAgg4, z4 := Try.sizeOf4, v4 := Try.zeroValue4, t24 := Try.underlying24, a24 := Try.isAgg24, z24 := Try.sizeOf24, v24 := Try.zeroValue24, t32 := Try.underlying32, a32 := Try.isAgg32, z32 := Try.sizeOf32, v32 := Try.zeroValue32, t124 := Try.underlying124, a124 := Try.isAgg124, z124 := Try.sizeOf124, v124 := Try.zeroValue124, a59 := Try.isAgg59, z59 := Try.sizeOf59 }
structure SC (k : Nat) (w0 : World) (blk off : Nat) (d0 d : Array K59) (W : World) : Prop where
  R : RowK en k w0 blk off d0
  hs : d.size = d0.size
  S : SWK en k w0 blk off d W
theorem SC.to {k : Nat} {w0 W W' : World} {blk off : Nat} {d0 d d' : Array K59} (h : SC k w0 blk off d0 d W) (hs : d'.size = d.size) (S : SWK en k w0 blk off d' W') : SC k w0 blk off d0 d' W' := ⟨h.R, hs.trans h.hs, S⟩
theorem ins_calls {w0 w : World} {blk off : Nat} {d0 d : Array K59} (h : SC 5 w0 blk off d0 d w) (cap a b : Nat) (hab : a ≤ b) (hb : b ≤ d.size) (hsz : d.size < 4611686018427387904) :
    Calls Try.prog 97 #[.slice (some ⟨blk, off, none⟩) d.size cap, .int .i64 a, .int .i64 b, .func (.func 76) #[] #[]] w fun e w' => e = .returned (.tuple #[]) ∧ ∃ d', SC 5 w0 blk off d0 d' w' ∧ Rel ky a b d d' ∧ Srt ky a b d' := by
  have eg : ∀ args w, (callFunc 76 args).run Try.prog w = .ok (.enter 76 args) w := enters_of Try.func76 (by kernel_rfl) rfl
  have hH := h.S.holds h.R.hblk h.R.hH h.hs
  refine (AnyQ.insertionSortCmpFunc lay97 5 Try.isAgg59 Try.sizeOf59 en en_len en_one cf 76 #[] blk off cap a b d w eg (cmp_lays blk off d.size w) hH (h.S.lt h.R.hblk) hab hb hsz).mono ?_
  rintro e w' ⟨he, n, os, rfl⟩
  have hr : Rel ky a b d (insertionSort (ltOf cf) d a b) := insertion_rel (fun x y hc he => by unfold cf at hc; omega) hab hb
  exact ⟨he, _, h.to hr.size (h.S.on h.R.hblk n _ os hr.size), hr, insertion_srt (fun x y => rfl) hab hb⟩
def swIx (a b n t : Nat) : Nat := if a ≤ t ∧ t < a + n then t - a + b else if b ≤ t ∧ t < b + n then t - b + a else t
set_option maxRecDepth 100000 in
set_option maxHeartbeats 8000000 in
theorem swr_calls {P : Program} {k : Nat} (L : Pk P k) {w0 w : World} {blk off : Nat} {d0 d : Array K59} (h : SC k w0 blk off d0 d w) (cap a b n : Nat) (hab : a + n ≤ b) (hb : b + n ≤ d.size) (hsz : d.size < 4611686018427387904) :
    Calls P 100 #[.slice (some ⟨blk, off, none⟩) d.size cap, .int .i64 a, .int .i64 b, .int .i64 n, .func (.func 76) #[] #[]] w fun e w' => e = .returned (.tuple #[]) ∧ ∃ d', SC k w0 blk off d0 d' w' ∧ d'.size = d.size ∧ ∀ t, d'[t]! = d[swIx a b n t]! := by
  have H0 : Aside (SC k w0 blk off d0 d w) := h
  have mixed := L.mixed; have t0 := L.t0; have a0 := L.a0; have z0 := L.z0; have v0 := L.v0; have t3 := L.t3; have a3 := L.a3; have z3 := L.z3; have v3 := L.v3; have t4 := L.t4; have a4 := L.a4; have z4 := L.z4; have v4 := L.v4; have t24 := L.t24; have a24 := L.a24; have z24 := L.z24; have v24 := L.v24; have t32 := L.t32; have a32 := L.a32; have z32 := L.z32; have v32 := L.v32; have t124 := L.t124; have a124 := L.a124; have z124 := L.z124; have v124 := L.v124; have a59 := L.a59; have z59 := L.z59
  clear h
  go_enter L.f100, Try.ntmps100
  go_wp2_with fail
  go_loopg [10] n (fun g v wr => ∃ (i : Nat) (dk : Array K59), v = .int .i64 i ∧ i ≤ n ∧ n - i ≤ g ∧ Aside (SC k w0 blk off d0 dk wr ∧ dk.size = d.size ∧ ∀ t, dk[t]! = d[swIx a b i t]!))
  case atStart => exact ⟨0, d, rfl, Nat.zero_le _, Nat.le_refl _, H0.out, rfl, fun t => by unfold swIx; rw [if_neg (by omega), if_neg (by omega)]⟩
  case round =>
    obtain ⟨i, dk, rfl, hi, hg, H⟩ := hrel
    by_cases hlt : i < n
    · have hltz : (i : Int) < (n : Int) := by omega
      go_wp2_with fail
      have ea : ((a : Int) + (i : Int)).toNat = a + i := by omega
      have pa : (0 : Int) ≤ (a : Int) + (i : Int) := by omega
      have ba : (a : Int) + (i : Int) < (d.size : Int) := by omega
      have ra : IntKind.i64.wrap ((a : Int) + (i : Int)) = (a : Int) + (i : Int) := by rw [IntKind.wrap_i64]; omega
      have ec : ((b : Int) + (i : Int)).toNat = b + i := by omega
      have pc : (0 : Int) ≤ (b : Int) + (i : Int) := by omega
      have bc : (b : Int) + (i : Int) < (d.size : Int) := by omega
      have rc : IntKind.i64.wrap ((b : Int) + (i : Int)) = (b : Int) + (i : Int) := by rw [IntKind.wrap_i64]; omega
      have hds := H.out.2.1
      have hds0 := H.out.1.hs
      have S2 : Aside (SC k w0 blk off d0 (swp dk (a + i) (b + i)) ((wr.drew.setCells blk (off + (a + i) * k) (en dk[b + i]!)).setCells blk (off + (b + i) * k) (en dk[a + i]!))) := H.out.1.to (swp_size _ _ _) (H.out.1.S.swapped H.out.1.R (a + i) (b + i) (by omega) (by omega))
      have la := H.out.1.S.ld1 H.out.1.R hds0 P (a + i) (by omega)
      have lb := H.out.1.S.ld1 H.out.1.R hds0 P (b + i) (by omega)
      have sa := H.out.1.S.st1 H.out.1.R hds0 P (a + i) (by omega) dk[b + i]!
      have sb := H.out.1.S.st2 H.out.1.R hds0 P (a + i) (b + i) (by omega) (by omega) dk[b + i]! dk[a + i]!
      have na := H.out.1.R.hk dk[a + i]!
      have nb := H.out.1.R.hk dk[b + i]!
      have HV : Aside (∀ t, (swp dk (a + i) (b + i))[t]! = d[swIx a b (i + 1) t]!) := by
        intro t
        have hv := H.out.2.2
        rw [swp_get dk (by omega) (by omega)]
        by_cases c1 : t = b + i
        · rw [if_pos c1, hv]; congr 1; unfold swIx; repeat' split
          all_goals omega
        · rw [if_neg c1]
          by_cases c2 : t = a + i
          · rw [if_pos c2, hv]; congr 1; unfold swIx; repeat' split
            all_goals omega
          · rw [if_neg c2, hv]; congr 1; unfold swIx; repeat' split
            all_goals omega
      generalize en dk[a + i]! = cI at S2 la sb na
      generalize en dk[b + i]! = cJ at S2 lb sa sb nb
      clear H hds0
      go_wp2_with fail
      go_big_region_o
      clear la lb sa sb
      generalize (wr.drew.setCells blk (off + (a + i) * k) cJ).setCells blk (off + (b + i) * k) cI = w2 at S2 ⊢
      go_wp2
      go_roundg (n - (i + 1))
      case measure => omega
      case rel => exact ⟨i + 1, swp dk (a + i) (b + i), by go_num, by omega, by omega, S2.out, by rw [swp_size]; exact hds, HV.out⟩
    · have hltz : ¬ (i : Int) < (n : Int) := by omega
      have hin : i = n := by omega
      subst hin
      go_wp2
      go_end0
      exact ⟨rfl, dk, H.out.1, H.out.2.1, H.out.2.2⟩
end Go.Proofs.Ytockojajbnnbpaa.E
namespace Go.Proofs.Ytockojajbnnbpaa.E
open Go.Sort hiding Below
open Go.RowKit Go.Shelf Go.Lib Go.Proofs.Ytockojajbnnbpaa.Q Go.Proofs.YtockojajbnnbpaaW.PrintWords
set_option linter.unusedVariables false
set_option linter.unusedSimpArgs false
set_option maxRecDepth 100000 in
set_option maxHeartbeats 8000000 in
theorem rot_calls {P : Program} {k : Nat} (L : Pk P k) {w0 w : World} {blk off : Nat} {d0 d : Array K59} (h : SC k w0 blk off d0 d w) (cap a m b : Nat) (ham : a ≤ m) (hmb : m ≤ b) (hb : b ≤ d.size) (hsz : d.size < 4611686018427387904) (ha : a < m) (hm : m < b) :
    Calls P 99 #[.slice (some ⟨blk, off, none⟩) d.size cap, .int .i64 a, .int .i64 m, .int .i64 b, .func (.func 76) #[] #[]] w fun e w' => e = .returned (.tuple #[]) ∧ ∃ d', SC k w0 blk off d0 d' w' ∧ d'.size = d.size ∧ ∀ t, d'[t]! = d[rotIx a m b t]! := by
  have H0 : Aside (SC k w0 blk off d0 d w) := h
  have mixed := L.mixed; have t0 := L.t0; have a0 := L.a0; have z0 := L.z0; have v0 := L.v0; have t3 := L.t3; have a3 := L.a3; have z3 := L.z3; have v3 := L.v3; have t4 := L.t4; have a4 := L.a4; have z4 := L.z4; have v4 := L.v4; have t24 := L.t24; have a24 := L.a24; have z24 := L.z24; have v24 := L.v24; have t32 := L.t32; have a32 := L.a32; have z32 := L.z32; have v32 := L.v32; have t124 := L.t124; have a124 := L.a124; have z124 := L.z124; have v124 := L.v124; have a59 := L.a59; have z59 := L.z59
  have hsw : Aside (∀ (w : World) (dk : Array K59), SC k w0 blk off d0 dk w → dk.size = d.size → ∀ x y n : Nat, x + n ≤ y → y + n ≤ d.size → Calls P 100 #[.slice (some ⟨blk, off, none⟩) d.size cap, .int .i64 x, .int .i64 y, .int .i64 n, .func (.func 76) #[] #[]] w fun e w' => e = .returned (.tuple #[]) ∧ ∃ d', SC k w0 blk off d0 d' w' ∧ d'.size = d.size ∧ ∀ t, d'[t]! = dk[swIx x y n t]!) := fun w dk hd hs x y n h1 h2 => by
    have := swr_calls L hd cap x y n h1 (by omega) (by omega)
    rw [hs] at this; exact this
  have e0 : IntKind.i64.wrap ((m : Int) - (a : Int)) = ((m - a : Nat) : Int) := by rw [IntKind.wrap_i64]; omega
  have e1 : IntKind.i64.wrap ((b : Int) - (m : Int)) = ((b - m : Nat) : Int) := by rw [IntKind.wrap_i64]; omega
  have f99 := L.f99
  have e100 : ∀ args w, (callFunc 100 args).run P w = .ok (.enter 100 args) w := enters_of L.f100 (by kernel_rfl) rfl
  clear h L
  go_enter f99, Try.ntmps99
  go_wp2_with fail
  go_loopg [10, 11] (b - a) (fun g v v2 wr => ∃ (i j : Nat) (dk : Array K59), v = .int .i64 i ∧ v2 = .int .i64 j ∧ 0 < i ∧ 0 < j ∧ i ≤ m - a ∧ j ≤ b - m ∧ i + j ≤ g ∧ Aside (SC k w0 blk off d0 dk wr ∧ dk.size = d.size) ∧ Aside (∀ t, d[rotIx a m b t]! = dk[rotIx (m - i) m (m + j) t]!))
  case atStart => exact ⟨m - a, b - m, d, rfl, rfl, by omega, by omega, by omega, by omega, by omega, ⟨H0.out, rfl⟩, fun t => by rw [show m - (m - a) = a by omega, show m + (b - m) = b by omega]⟩
  case round =>
    obtain ⟨i, j, dk, rfl, rfl, hi0, hj0, hi, hj, hg, H, HV⟩ := hrel
    have e2 : IntKind.i64.wrap ((m : Int) - (i : Int)) = ((m - i : Nat) : Int) := by rw [IntKind.wrap_i64]; omega
    by_cases hne : i = j
    · subst hne
      have hc := hsw.out wr dk H.out.1 H.out.2 (m - i) m i (by omega) (by omega)
      go_wp2_with fail
      go_at_fn 100
      refine hc.mono ?_
      rintro e w' ⟨rfl, d', hd', hs', hv'⟩
      have hfin : SC k w0 blk off d0 d' w' ∧ d'.size = d.size ∧ ∀ t, d'[t]! = d[rotIx a m b t]! := ⟨hd', hs', fun t => by
        rw [hv', HV.out t]
        congr 1
        unfold swIx rotIx
        repeat' split
        all_goals omega⟩
      clear hc hd' hs' hv' H HV
      go_wp2_with fail
      go_end0
      exact ⟨rfl, d', hfin⟩
    · have hnez : ¬ (i : Int) = (j : Int) := by omega
      by_cases hlt : j < i
      · have hltz : (j : Int) < (i : Int) := by omega
        have hc := hsw.out wr dk H.out.1 H.out.2 (m - i) m j (by omega) (by omega)
        have e3 : IntKind.i64.wrap ((i : Int) - (j : Int)) = ((i - j : Nat) : Int) := by rw [IntKind.wrap_i64]; omega
        go_wp2_with fail
        go_at_fn 100
        refine hc.mono ?_
        rintro e w' ⟨rfl, d', hd', hs', hv'⟩
        have hfin : ∀ t, d[rotIx a m b t]! = d'[rotIx (m - (i - j)) m (m + j) t]! := fun t => by
          rw [hv', HV.out t]
          congr 1
          unfold swIx rotIx
          repeat' split
          all_goals omega
        have H2 : Aside (SC k w0 blk off d0 d' w' ∧ d'.size = d.size) := ⟨hd', hs'⟩
        have HV2 : Aside _ := hfin
        clear hc hd' hs' hv' H HV hfin
        go_wp2_with fail
        go_roundg (i - j + j)
        case measure => omega
        case rel => exact ⟨i - j, j, d', by go_num, rfl, by omega, by omega, by omega, by omega, by omega, H2, HV2⟩
      · have hltz : ¬ (j : Int) < (i : Int) := by omega
        have hc := hsw.out wr dk H.out.1 H.out.2 (m - i) (m + j - i) i (by omega) (by omega)
        have e3 : IntKind.i64.wrap ((j : Int) - (i : Int)) = ((j - i : Nat) : Int) := by rw [IntKind.wrap_i64]; omega
        have e4 : IntKind.i64.wrap ((m : Int) + (j : Int)) = (m : Int) + (j : Int) := by rw [IntKind.wrap_i64]; omega
        have e5 : IntKind.i64.wrap ((m : Int) + (j : Int) - (i : Int)) = ((m + j - i : Nat) : Int) := by rw [IntKind.wrap_i64]; omega
        go_wp2_with fail
        go_at_fn 100
        refine hc.mono ?_
        rintro e w' ⟨rfl, d', hd', hs', hv'⟩
        have hfin : ∀ t, d[rotIx a m b t]! = d'[rotIx (m - i) m (m + (j - i)) t]! := fun t => by
          rw [hv', HV.out t]
          congr 1
          unfold swIx rotIx
          repeat' split
          all_goals omega
        have H2 : Aside (SC k w0 blk off d0 d' w' ∧ d'.size = d.size) := ⟨hd', hs'⟩
        have HV2 : Aside _ := hfin
        clear hc hd' hs' hv' H HV hfin
        go_wp2_with fail
        go_roundg (i + (j - i))
        case measure => omega
        case rel => exact ⟨i, j - i, d', rfl, by go_num, by omega, by omega, by omega, by omega, by omega, H2, HV2⟩
end Go.Proofs.Ytockojajbnnbpaa.E
namespace Go.Proofs.Ytockojajbnnbpaa.E
open Go.Sort hiding Below
open Go.RowKit Go.Shelf Go.Lib Go.Proofs.Ytockojajbnnbpaa.Q Go.Proofs.YtockojajbnnbpaaW.PrintWords
set_option linter.unusedVariables false
set_option linter.unusedSimpArgs false
structure Pm (P : Program) (k : Nat) : Prop where
  L : Pk P k
  e76 : ∀ args w, (callFunc 76 args).run P w = .ok (.enter 76 args) w
  cmp : ∀ (blk off size : Nat) (w : World), CmpLays P 76 #[] en k cf blk off size w
theorem pm_try : Pm Try.prog 5 := ⟨pk_try, enters_of Try.func76 (by kernel_rfl) rfl, cmp_lays⟩
theorem SC.cmp {P : Program} {k : Nat} {w0 W : World} {blk off : Nat} {d0 d : Array K59} (h : SC k w0 blk off d0 d W) (M : Pm P k) (x y : K59) (n : Nat) (os : Array Obj) :
    Calls P 76 #[.agg (en x).toArray, .agg (en y).toArray] (grow (W.drewN n) os) fun e w' => e = .returned (.int .i64 (cf x y)) ∧ ∃ q os', w' = grow ((grow (W.drewN n) os).drewN q) os' :=
  h.S.cmp (M.cmp blk off d0.size w0) h.hs x y n os
set_option maxRecDepth 100000 in
set_option maxHeartbeats 16000000 in
theorem mg1_calls {P : Program} {k : Nat} (M : Pm P k) {w0 w : World} {blk off : Nat} {d0 d : Array K59} (h : SC k w0 blk off d0 d w) (cap a m b : Nat) (ham : a < m) (hma : m ≤ a + 1) (hmb : m < b) (hb : b ≤ d.size) (hsz : d.size < 4611686018427387904) (hs2 : Srt ky m b d) :
    Calls P 98 #[.slice (some ⟨blk, off, none⟩) d.size cap, .int .i64 a, .int .i64 m, .int .i64 b, .func (.func 76) #[] #[]] w fun e w' => e = .returned (.tuple #[]) ∧ ∃ d', SC k w0 blk off d0 d' w' ∧ Rel ky a b d d' ∧ Srt ky a b d' := by
  have H0 : Aside (SC k w0 blk off d0 d w) := h
  have HM : Aside (Pm P k) := M
  have L := M.L
  have mixed := L.mixed; have t0 := L.t0; have a0 := L.a0; have z0 := L.z0; have v0 := L.v0; have t3 := L.t3; have a3 := L.a3; have z3 := L.z3; have v3 := L.v3; have t4 := L.t4; have a4 := L.a4; have z4 := L.z4; have v4 := L.v4; have t24 := L.t24; have a24 := L.a24; have z24 := L.z24; have v24 := L.v24; have t32 := L.t32; have a32 := L.a32; have z32 := L.z32; have v32 := L.v32; have t124 := L.t124; have a124 := L.a124; have z124 := L.z124; have v124 := L.v124; have a59 := L.a59; have z59 := L.z59
  have f98 := L.f98
  have e76 := M.e76
  have HS : Aside (Srt ky m b d) := hs2
  have e0 : IntKind.i64.wrap ((m : Int) - (a : Int)) = 1 := by rw [IntKind.wrap_i64]; omega
  have HDS : Aside (d.size = d0.size) := h.hs
  clear h L M hs2
  go_enter f98, Try.ntmps98
  go_wp2_with fail
  go_loopg [10, 11] (b - m) (fun g v v2 wr => ∃ (i j : Nat), v = .int .i64 i ∧ v2 = .int .i64 j ∧ m ≤ i ∧ i ≤ j ∧ j ≤ b ∧ j - i ≤ g ∧ Aside (SC k w0 blk off d0 d wr) ∧ Aside (i = m ∨ ky d[i - 1]! < ky d[a]!) ∧ Aside (j = b ∨ ky d[a]! ≤ ky d[j]!))
  case atStart => exact ⟨m, b, rfl, rfl, Nat.le_refl _, by omega, Nat.le_refl _, Nat.le_refl _, H0.out, .inl rfl, .inl rfl⟩
  case round =>
    obtain ⟨i, j, rfl, rfl, h1, h2, h3, hg, S, B1, B2⟩ := hrel
    by_cases hlt : i < j
    · have hltz : (i : Int) < (j : Int) := by omega
      have r1 : IntKind.i64.wrap ((i : Int) + (j : Int)) = (i : Int) + (j : Int) := by rw [IntKind.wrap_i64]; omega
      have r2 : IntKind.u64.wrap ((i : Int) + (j : Int)) = (i : Int) + (j : Int) := by rw [IntKind.wrap_u64]; omega
      have hh : ∃ h : Nat, ((i : Int) + (j : Int)) / 2 = (h : Int) ∧ i ≤ h ∧ h < j := ⟨(i + j) / 2, by omega, by omega, by omega⟩
      obtain ⟨h, hq, hh1, hh2⟩ := hh
      have r3 : IntKind.u64.wrap (h : Int) = (h : Int) := by rw [IntKind.wrap_u64]; omega
      have r4 : IntKind.i64.wrap (h : Int) = (h : Int) := by rw [IntKind.wrap_i64]; omega
      have ea : ((h : Int)).toNat = h := by omega
      have pa : (0 : Int) ≤ (h : Int) := by omega
      have ba : (h : Int) < (d.size : Int) := by omega
      have ec : ((a : Int)).toNat = a := by omega
      have pc : (0 : Int) ≤ (a : Int) := by omega
      have bc : (a : Int) < (d.size : Int) := by omega
      obtain ⟨x, hx⟩ : ∃ x, x = d[h]! := ⟨_, rfl⟩
      obtain ⟨y, hy⟩ : ∃ y, y = d[a]! := ⟨_, rfl⟩
      have la := S.out.S.ld S.out.R HDS.out P h (by omega)
      have lb := S.out.S.ld S.out.R HDS.out P a (by omega)
      rw [← hx] at la
      rw [← hy] at lb
      have hc := S.out.cmp HM.out x y
      have HX : Aside (x = d[h]! ∧ y = d[a]!) := ⟨hx, hy⟩
      clear hx hy
      by_cases hv : cf x y < 0
      · have hd : decide (cf x y < 0) = true := decide_eq_true hv
        go_wp2_with fail
        go_quiet_grown (first | (go_at_fn 76; refine Calls.grown_of (hc _ _)))
        have S2 : Aside (SC k w0 blk off d0 d (grow (wr.drewN nq) osq)) := S.out.to rfl (S.out.S.grown nq osq)
        clear la lb hc S
        generalize grow (wr.drewN nq) osq = w2 at S2 ⊢
        clear nq osq
        go_wp2_with fail
        go_roundg (j - (h + 1))
        case measure => omega
        case rel => exact ⟨h + 1, j, by go_num, rfl, by omega, by omega, h3, Nat.le_refl _, S2.out, .inr (by rw [Nat.add_sub_cancel, ← HX.out.1, ← HX.out.2]; unfold cf at hv; omega), B2⟩
      · have hd : decide (cf x y < 0) = false := decide_eq_false hv
        go_wp2_with fail
        go_quiet_grown (first | (go_at_fn 76; refine Calls.grown_of (hc _ _)))
        have S2 : Aside (SC k w0 blk off d0 d (grow (wr.drewN nq) osq)) := S.out.to rfl (S.out.S.grown nq osq)
        clear la lb hc S
        generalize grow (wr.drewN nq) osq = w2 at S2 ⊢
        clear nq osq
        go_wp2_with fail
        go_roundg (h - i)
        case measure => omega
        case rel => exact ⟨i, h, rfl, by go_num, h1, hh1, by omega, Nat.le_refl _, S2.out, B1, .inr (by rw [← HX.out.1, ← HX.out.2]; unfold cf at hv; omega)⟩
    · have hltz : ¬ (i : Int) < (j : Int) := by omega
      have hij : j = i := by omega
      subst hij
      have e8 : IntKind.i64.wrap ((j : Int) - 1) = ((j - 1 : Nat) : Int) := by rw [IntKind.wrap_i64]; omega
      have HB : Aside ((j = m ∨ ky d[j - 1]! < ky d[a]!) ∧ (j = b ∨ ky d[a]! ≤ ky d[j]!)) := ⟨B1.out, B2.out⟩
      clear B1 B2 hg
      go_wp2_with fail
      go_loopg [13] (j - 1 - a) (fun g v wr => ∃ (q : Nat) (dk : Array K59), v = .int .i64 q ∧ a ≤ q ∧ q ≤ j - 1 ∧ j - 1 - q ≤ g ∧ Aside (SC k w0 blk off d0 dk wr) ∧ Aside (ShR ky a q d dk))
      case atStart => exact ⟨a, d, rfl, Nat.le_refl _, by omega, Nat.le_refl _, S.out, ShR.start a d⟩
      case round =>
        clear S
        obtain ⟨q, dk, rfl, q1, q2, qg, S, HQ⟩ := hrel
        by_cases hlt2 : q < j - 1
        · have hltz2 : (q : Int) < ((j - 1 : Nat) : Int) := by omega
          have r5 : IntKind.i64.wrap ((q : Int) + 1) = (q : Int) + 1 := by rw [IntKind.wrap_i64]; omega
          have ea : ((q : Int)).toNat = q := by omega
          have pa : (0 : Int) ≤ (q : Int) := by omega
          have ba : (q : Int) < (d.size : Int) := by omega
          have ec : ((q : Int) + 1).toNat = q + 1 := by omega
          have pc : (0 : Int) ≤ (q : Int) + 1 := by omega
          have bc : (q : Int) + 1 < (d.size : Int) := by omega
          have hds : dk.size = d.size := HQ.out.rel.size
          have HDK : Aside (dk.size = d.size) := hds
          have S2 : Aside (SC k w0 blk off d0 (swp dk q (q + 1)) ((wr.drew.setCells blk (off + q * k) (en dk[q + 1]!)).setCells blk (off + (q + 1) * k) (en dk[q]!))) := S.out.to (swp_size _ _ _) (S.out.S.swapped S.out.R q (q + 1) (by omega) (by omega))
          have la := S.out.S.ld1 S.out.R S.out.hs P q (by omega)
          have lb := S.out.S.ld1 S.out.R S.out.hs P (q + 1) (by omega)
          have sa := S.out.S.st1 S.out.R S.out.hs P q (by omega) dk[q + 1]!
          have sb := S.out.S.st2 S.out.R S.out.hs P q (q + 1) (by omega) (by omega) dk[q + 1]! dk[q]!
          have na := S.out.R.hk dk[q]!
          have nb := S.out.R.hk dk[q + 1]!
          have HQ2 : Aside (ShR ky a (q + 1) d (swp dk q (q + 1))) := HQ.out.step q1 (by omega) (by
            have g := HS.out (q + 1) (j - 1) (by omega) (by omega) (by omega)
            rcases HB.out.1 with h | h <;> omega)
          generalize en dk[q]! = cI at S2 la sb na
          generalize en dk[q + 1]! = cJ at S2 lb sa sb nb
          clear S HQ hds
          go_wp2_with fail
          go_big_region_o
          clear la lb sa sb
          generalize (wr.drew.setCells blk (off + q * k) cJ).setCells blk (off + (q + 1) * k) cI = w2 at S2 ⊢
          go_wp2
          go_roundg (j - 1 - (q + 1))
          case measure => omega
          case rel => exact ⟨q + 1, swp dk q (q + 1), by go_num, by omega, by omega, Nat.le_refl _, S2, HQ2⟩
        · have hltz2 : ¬ (q : Int) < ((j - 1 : Nat) : Int) := by omega
          have hqj : q = j - 1 := by omega
          subst hqj
          have hfin : Rel ky a b d dk ∧ Srt ky a b dk := HQ.out.fin (by omega) h3 (by rw [show a + 1 = m by omega]; exact HS.out) (by rw [show a + 1 = m by omega]; exact HB.out.1) HB.out.2
          go_wp2_with fail
          refine bodyPost_ret (results_none rfl _ _ _) rfl ?_
          exact ⟨rfl, dk, S.out, hfin⟩
end Go.Proofs.Ytockojajbnnbpaa.E
namespace Go.Proofs.Ytockojajbnnbpaa.E
open Go.Sort hiding Below
open Go.RowKit Go.Shelf Go.Lib Go.Proofs.Ytockojajbnnbpaa.Q Go.Proofs.YtockojajbnnbpaaW.PrintWords
set_option linter.unusedVariables false
set_option linter.unusedSimpArgs false
set_option maxRecDepth 100000 in
set_option maxHeartbeats 16000000 in
theorem mg2_calls {P : Program} {k : Nat} (M : Pm P k) {w0 w : World} {blk off : Nat} {d0 d : Array K59} (h : SC k w0 blk off d0 d w) (cap a m b : Nat) (ham : a + 1 < m) (hmb : m < b) (hbm : b ≤ m + 1) (hb : b ≤ d.size) (hsz : d.size < 4611686018427387904) (hs1 : Srt ky a m d) :
    Calls P 98 #[.slice (some ⟨blk, off, none⟩) d.size cap, .int .i64 a, .int .i64 m, .int .i64 b, .func (.func 76) #[] #[]] w fun e w' => e = .returned (.tuple #[]) ∧ ∃ d', SC k w0 blk off d0 d' w' ∧ Rel ky a b d d' ∧ Srt ky a b d' := by
  have H0 : Aside (SC k w0 blk off d0 d w) := h
  have HM : Aside (Pm P k) := M
  have L := M.L
  have mixed := L.mixed; have t0 := L.t0; have a0 := L.a0; have z0 := L.z0; have v0 := L.v0; have t3 := L.t3; have a3 := L.a3; have z3 := L.z3; have v3 := L.v3; have t4 := L.t4; have a4 := L.a4; have z4 := L.z4; have v4 := L.v4; have t24 := L.t24; have a24 := L.a24; have z24 := L.z24; have v24 := L.v24; have t32 := L.t32; have a32 := L.a32; have z32 := L.z32; have v32 := L.v32; have t124 := L.t124; have a124 := L.a124; have z124 := L.z124; have v124 := L.v124; have a59 := L.a59; have z59 := L.z59
  have f98 := L.f98
  have e76 := M.e76
  have HS : Aside (Srt ky a m d) := hs1
  have e0 : IntKind.i64.wrap ((m : Int) - (a : Int)) = ((m - a : Nat) : Int) := by rw [IntKind.wrap_i64]; omega
  have e00 : ¬ ((m - a : Nat) : Int) = 1 := by omega
  have e01 : (((m - a : Nat) : Int) == 1) = false := by rw [beq_eq_false_iff_ne]; exact e00
  have e1 : IntKind.i64.wrap ((b : Int) - (m : Int)) = 1 := by rw [IntKind.wrap_i64]; omega
  have HDS : Aside (d.size = d0.size) := h.hs
  clear h L M hs1
  go_enter f98, Try.ntmps98
  go_wp2_with fail
  go_loopg [14, 15] (m - a) (fun g v v2 wr => ∃ (i j : Nat), v = .int .i64 i ∧ v2 = .int .i64 j ∧ a ≤ i ∧ i ≤ j ∧ j ≤ m ∧ j - i ≤ g ∧ Aside (SC k w0 blk off d0 d wr) ∧ Aside (i = a ∨ ky d[i - 1]! ≤ ky d[m]!) ∧ Aside (j = m ∨ ky d[m]! < ky d[j]!))
  case atStart => exact ⟨a, m, rfl, rfl, Nat.le_refl _, by omega, Nat.le_refl _, Nat.le_refl _, H0.out, .inl rfl, .inl rfl⟩
  case round =>
    obtain ⟨i, j, rfl, rfl, h1, h2, h3, hg, S, B1, B2⟩ := hrel
    by_cases hlt : i < j
    · have hltz : (i : Int) < (j : Int) := by omega
      have r1 : IntKind.i64.wrap ((i : Int) + (j : Int)) = (i : Int) + (j : Int) := by rw [IntKind.wrap_i64]; omega
      have r2 : IntKind.u64.wrap ((i : Int) + (j : Int)) = (i : Int) + (j : Int) := by rw [IntKind.wrap_u64]; omega
      have hh : ∃ h : Nat, ((i : Int) + (j : Int)) / 2 = (h : Int) ∧ i ≤ h ∧ h < j := ⟨(i + j) / 2, by omega, by omega, by omega⟩
      obtain ⟨h, hq, hh1, hh2⟩ := hh
      have r3 : IntKind.u64.wrap (h : Int) = (h : Int) := by rw [IntKind.wrap_u64]; omega
      have r4 : IntKind.i64.wrap (h : Int) = (h : Int) := by rw [IntKind.wrap_i64]; omega
      have ea : ((h : Int)).toNat = h := by omega
      have pa : (0 : Int) ≤ (h : Int) := by omega
      have ba : (h : Int) < (d.size : Int) := by omega
      have ec : ((m : Int)).toNat = m := by omega
      have pc : (0 : Int) ≤ (m : Int) := by omega
      have bc : (m : Int) < (d.size : Int) := by omega
      obtain ⟨x, hx⟩ : ∃ x, x = d[m]! := ⟨_, rfl⟩
      obtain ⟨y, hy⟩ : ∃ y, y = d[h]! := ⟨_, rfl⟩
      have la := S.out.S.ld S.out.R HDS.out P m (by omega)
      have lb := S.out.S.ld S.out.R HDS.out P h (by omega)
      rw [← hx] at la
      rw [← hy] at lb
      have hc := S.out.cmp HM.out x y
      have HX : Aside (x = d[m]! ∧ y = d[h]!) := ⟨hx, hy⟩
      clear hx hy
      by_cases hv : cf x y < 0
      · have hd : decide (cf x y < 0) = true := decide_eq_true hv
        go_wp2_with fail
        go_quiet_grown (first | (go_at_fn 76; refine Calls.grown_of (hc _ _)))
        have S2 : Aside (SC k w0 blk off d0 d (grow (wr.drewN nq) osq)) := S.out.to rfl (S.out.S.grown nq osq)
        clear la lb hc S
        generalize grow (wr.drewN nq) osq = w2 at S2 ⊢
        clear nq osq
        go_wp2_with fail
        go_roundg (h - i)
        case measure => omega
        case rel => exact ⟨i, h, rfl, by go_num, h1, hh1, by omega, Nat.le_refl _, S2.out, B1, .inr (by rw [← HX.out.1, ← HX.out.2]; unfold cf at hv; omega)⟩
      · have hd : decide (cf x y < 0) = false := decide_eq_false hv
        go_wp2_with fail
        go_quiet_grown (first | (go_at_fn 76; refine Calls.grown_of (hc _ _)))
        have S2 : Aside (SC k w0 blk off d0 d (grow (wr.drewN nq) osq)) := S.out.to rfl (S.out.S.grown nq osq)
        clear la lb hc S
        generalize grow (wr.drewN nq) osq = w2 at S2 ⊢
        clear nq osq
        go_wp2_with fail
        go_roundg (j - (h + 1))
        case measure => omega
        case rel => exact ⟨h + 1, j, by go_num, rfl, by omega, by omega, h3, Nat.le_refl _, S2.out, .inr (by rw [Nat.add_sub_cancel, ← HX.out.1, ← HX.out.2]; unfold cf at hv; omega), B2⟩
    · have hltz : ¬ (i : Int) < (j : Int) := by omega
      have hij : j = i := by omega
      subst hij
      have HB : Aside ((j = a ∨ ky d[j - 1]! ≤ ky d[m]!) ∧ (j = m ∨ ky d[m]! < ky d[j]!)) := ⟨B1.out, B2.out⟩
      clear B1 B2 hg
      go_wp2_with fail
      go_loopg [17] (m - j) (fun g v wr => ∃ (q : Nat) (dk : Array K59), v = .int .i64 q ∧ j ≤ q ∧ q ≤ m ∧ q - j ≤ g ∧ Aside (SC k w0 blk off d0 dk wr) ∧ Aside (ShL ky m q d dk))
      case atStart => exact ⟨m, d, rfl, h3, Nat.le_refl _, Nat.le_refl _, S.out, ShL.start m d⟩
      case round =>
        clear S
        obtain ⟨q, dk, rfl, q1, q2, qg, S, HQ⟩ := hrel
        by_cases hlt2 : j < q
        · obtain ⟨q, rfl⟩ : ∃ p, q = p + 1 := ⟨q - 1, by omega⟩
          have hltz2 : (j : Int) < (q : Int) + 1 := by omega
          have r5 : IntKind.i64.wrap (q : Int) = (q : Int) := by rw [IntKind.wrap_i64]; omega
          have ea : ((q : Int)).toNat = q := by omega
          have pa : (0 : Int) ≤ (q : Int) := by omega
          have ba : (q : Int) < (d.size : Int) := by omega
          have ec : ((q : Int) + 1).toNat = q + 1 := by omega
          have pc : (0 : Int) ≤ (q : Int) + 1 := by omega
          have bc : (q : Int) + 1 < (d.size : Int) := by omega
          have hds : dk.size = d.size := HQ.out.rel.size
          have HDK : Aside (dk.size = d.size) := hds
          have S2 : Aside (SC k w0 blk off d0 (swp dk (q + 1) q) ((wr.drew.setCells blk (off + (q + 1) * k) (en dk[q]!)).setCells blk (off + q * k) (en dk[q + 1]!))) := S.out.to (swp_size _ _ _) (S.out.S.swapped S.out.R (q + 1) q (by omega) (by omega))
          have la := S.out.S.ld1 S.out.R S.out.hs P q (by omega)
          have lb := S.out.S.ld1 S.out.R S.out.hs P (q + 1) (by omega)
          have sa := S.out.S.st1 S.out.R S.out.hs P (q + 1) (by omega) dk[q]!
          have sb := S.out.S.st2 S.out.R S.out.hs P (q + 1) q (by omega) (by omega) dk[q]! dk[q + 1]!
          have na := S.out.R.hk dk[q]!
          have nb := S.out.R.hk dk[q + 1]!
          have HQ2 : Aside (ShL ky m q d (swp dk (q + 1) q)) := HQ.out.step q2 (by omega) (by
            have g := HS.out j q (by omega) (by omega) (by omega)
            rcases HB.out.2 with h | h <;> omega)
          generalize en dk[q]! = cI at S2 la sa sb na
          generalize en dk[q + 1]! = cJ at S2 lb sb nb
          clear S HQ hds
          go_wp2_with fail
          go_big_region_o
          clear la lb sa sb
          generalize (wr.drew.setCells blk (off + (q + 1) * k) cI).setCells blk (off + q * k) cJ = w2 at S2 ⊢
          go_wp2
          go_roundg (q - j)
          case measure => omega
          case rel => exact ⟨q, swp dk (q + 1) q, by first | rfl | go_num, by omega, by omega, Nat.le_refl _, S2, HQ2⟩
        · have hltz2 : ¬ (j : Int) < (q : Int) := by omega
          have hqj : q = j := by omega
          subst hqj
          have hfin : Rel ky a b d dk ∧ Srt ky a b dk := by
            have := HQ.out.fin h1 h3 HS.out HB.out.1 HB.out.2
            rw [show m + 1 = b by omega] at this
            exact this
          go_wp2_with fail
          refine bodyPost_ret (results_none rfl _ _ _) rfl ?_
          exact ⟨rfl, dk, S.out, hfin⟩
end Go.Proofs.Ytockojajbnnbpaa.E
namespace Go.Proofs.Ytockojajbnnbpaa.E
open Go.Sort hiding Below
open Go.RowKit Go.Shelf Go.Lib Go.Proofs.Ytockojajbnnbpaa.Q Go.Proofs.YtockojajbnnbpaaW.PrintWords
set_option linter.unusedVariables false
set_option linter.unusedSimpArgs false
def MgR (k : Nat) (w0 : World) (blk off : Nat) (d0 d : Array K59) (a b : Nat) (e : Ending) (w' : World) : Prop := e = .returned (.tuple #[]) ∧ ∃ d', SC k w0 blk off d0 d' w' ∧ Rel ky a b d d' ∧ Srt ky a b d'
def MgC (P : Program) (k : Nat) (w0 : World) (blk off cap sz n : Nat) (d0 : Array K59) : Prop := ∀ (a m b : Nat) (d : Array K59) (w : World), b - a < n → SC k w0 blk off d0 d w → d.size = sz → a < m → m < b → b ≤ d.size → Srt ky a m d → Srt ky m b d →
  Calls P 98 #[.slice (some ⟨blk, off, none⟩) sz cap, .int .i64 a, .int .i64 m, .int .i64 b, .func (.func 76) #[] #[]] w (MgR k w0 blk off d0 d a b)
set_option maxRecDepth 100000 in
set_option maxHeartbeats 32000000 in
theorem mg3_calls {P : Program} {k : Nat} (M : Pm P k) {w0 w : World} {blk off : Nat} {d0 d : Array K59} (h : SC k w0 blk off d0 d w) (cap a m b : Nat) (ham : a + 1 < m) (hmb : m + 1 < b) (hb : b ≤ d.size) (hsz : d.size < 1099511627777) (hs1 : Srt ky a m d) (hs2 : Srt ky m b d) (ih : MgC P k w0 blk off cap d.size (b - a) d0) :
    Calls P 98 #[.slice (some ⟨blk, off, none⟩) d.size cap, .int .i64 a, .int .i64 m, .int .i64 b, .func (.func 76) #[] #[]] w (MgR k w0 blk off d0 d a b) := by
  have H0 : Aside (SC k w0 blk off d0 d w) := h
  have HM : Aside (Pm P k) := M
  have L := M.L
  have mixed := L.mixed; have t0 := L.t0; have a0 := L.a0; have z0 := L.z0; have v0 := L.v0; have t3 := L.t3; have a3 := L.a3; have z3 := L.z3; have v3 := L.v3; have t4 := L.t4; have a4 := L.a4; have z4 := L.z4; have v4 := L.v4; have t24 := L.t24; have a24 := L.a24; have z24 := L.z24; have v24 := L.v24; have t32 := L.t32; have a32 := L.a32; have z32 := L.z32; have v32 := L.v32; have t124 := L.t124; have a124 := L.a124; have z124 := L.z124; have v124 := L.v124; have a59 := L.a59; have z59 := L.z59
  have f98 := L.f98
  have e76 := M.e76
  have e98 : ∀ args w, (callFunc 98 args).run P w = .ok (.enter 98 args) w := enters_of L.f98 (by kernel_rfl) rfl
  have e99 : ∀ args w, (callFunc 99 args).run P w = .ok (.enter 99 args) w := enters_of L.f99 (by kernel_rfl) rfl
  have HS1 : Aside (Srt ky a m d) := hs1
  have HS2 : Aside (Srt ky m b d) := hs2
  have HI : Aside (MgC P k w0 blk off cap d.size (b - a) d0) := ih
  have e0 : IntKind.i64.wrap ((m : Int) - (a : Int)) = ((m - a : Nat) : Int) := by rw [IntKind.wrap_i64]; omega
  have e00 : ¬ ((m - a : Nat) : Int) = 1 := by omega
  have e01 : (((m - a : Nat) : Int) == 1) = false := by rw [beq_eq_false_iff_ne]; exact e00
  have e1 : IntKind.i64.wrap ((b : Int) - (m : Int)) = ((b - m : Nat) : Int) := by rw [IntKind.wrap_i64]; omega
  have e10 : ¬ ((b - m : Nat) : Int) = 1 := by omega
  have e11 : (((b - m : Nat) : Int) == 1) = false := by rw [beq_eq_false_iff_ne]; exact e10
  have g1 : IntKind.i64.wrap ((a : Int) + (b : Int)) = (a : Int) + (b : Int) := by rw [IntKind.wrap_i64]; omega
  have g2 : IntKind.u64.wrap ((a : Int) + (b : Int)) = (a : Int) + (b : Int) := by rw [IntKind.wrap_u64]; omega
  obtain ⟨mid, hq, hm1, hm2⟩ : ∃ mid : Nat, ((a : Int) + (b : Int)) / 2 = (mid : Int) ∧ 2 * mid ≤ a + b ∧ a + b ≤ 2 * mid + 1 := ⟨(a + b) / 2, by omega, by omega, by omega⟩
  have g3 : IntKind.u64.wrap (mid : Int) = (mid : Int) := by rw [IntKind.wrap_u64]; omega
  have g4 : IntKind.i64.wrap (mid : Int) = (mid : Int) := by rw [IntKind.wrap_i64]; omega
  obtain ⟨nn, hn1, hn2⟩ : ∃ nn : Nat, mid + m ≤ nn ∧ nn ≤ mid + m := ⟨mid + m, Nat.le_refl _, Nat.le_refl _⟩
  obtain ⟨pp, hp1, hp2⟩ : ∃ pp : Nat, pp + 1 ≤ nn ∧ nn ≤ pp + 1 := ⟨nn - 1, by omega, by omega⟩
  have g5 : IntKind.i64.wrap ((mid : Int) + (m : Int)) = (nn : Int) := by rw [IntKind.wrap_i64]; omega
  have HDS : Aside (d.size = d0.size) := h.hs
  clear h L M hs1 hs2 ih
  go_enter f98, Try.ntmps98
  go_upto_if 140 with fail
  go_cut [20, 21] from 138 to 146 (fun v20 v21 wx => wx = w ∧ ∃ s0 r0 : Nat, v20 = .int .i64 s0 ∧ v21 = .int .i64 r0 ∧ s0 ≤ r0 ∧ Aside (m ≤ mid ∧ s0 = a ∧ r0 = m ∨ mid < m ∧ s0 + b = nn ∧ r0 = mid))
  case first =>
    by_cases hmm : mid < m
    · have hmmz : (mid : Int) < (m : Int) := by omega
      obtain ⟨q, hq1, hq2⟩ : ∃ q : Nat, q + b ≤ nn ∧ nn ≤ q + b := ⟨nn - b, by omega, by omega⟩
      have g6 : IntKind.i64.wrap ((nn : Int) - (b : Int)) = (q : Int) := by rw [IntKind.wrap_i64]; omega
      go_wp2_with fail
      go_meet
      case rel => exact ⟨rfl, q, mid, rfl, rfl, by omega, .inr ⟨hmm, by omega, rfl⟩⟩
    · have hmmz : ¬ (mid : Int) < (m : Int) := by omega
      go_wp2_with fail
      go_meet
      case rel => exact ⟨rfl, a, m, rfl, rfl, by omega, .inl ⟨by omega, rfl, rfl⟩⟩
  case rest =>
    obtain ⟨rfl, s0, r0, rfl, rfl, hsr, HSR⟩ := hcut
    have g7 : IntKind.i64.wrap ((nn : Int) - 1) = (pp : Int) := by rw [IntKind.wrap_i64]; omega
    have hb1 : r0 ≤ m ∧ r0 ≤ mid ∧ a ≤ s0 ∧ nn ≤ s0 + b := by have := HSR.out; omega
    obtain ⟨hb1, hb2, hb3, hb4⟩ := hb1
    go_wp2_with fail
    go_loopg [20, 21] (r0 - s0) (fun g v v2 wr => ∃ (i j : Nat), v = .int .i64 i ∧ v2 = .int .i64 j ∧ s0 ≤ i ∧ i ≤ j ∧ j ≤ r0 ∧ j - i ≤ g ∧ Aside (SC k w0 blk off d0 d wr) ∧ Aside (i = s0 ∨ ky d[i - 1]! ≤ ky d[nn - i]!) ∧ Aside (j = r0 ∨ ky d[pp - j]! < ky d[j]!))
    case atStart => exact ⟨s0, r0, rfl, rfl, Nat.le_refl _, hsr, Nat.le_refl _, Nat.le_refl _, H0.out, .inl rfl, .inl rfl⟩
    case round =>
      obtain ⟨i, j, rfl, rfl, h1, h2, h3, hg, S, B1, B2⟩ := hrel
      by_cases hlt : i < j
      · have hltz : (i : Int) < (j : Int) := by omega
        have r1 : IntKind.i64.wrap ((i : Int) + (j : Int)) = (i : Int) + (j : Int) := by rw [IntKind.wrap_i64]; omega
        have r2 : IntKind.u64.wrap ((i : Int) + (j : Int)) = (i : Int) + (j : Int) := by rw [IntKind.wrap_u64]; omega
        obtain ⟨h, hhq, hh1, hh2⟩ : ∃ h : Nat, ((i : Int) + (j : Int)) / 2 = (h : Int) ∧ i ≤ h ∧ h < j := ⟨(i + j) / 2, by omega, by omega, by omega⟩
        have r3 : IntKind.u64.wrap (h : Int) = (h : Int) := by rw [IntKind.wrap_u64]; omega
        have r4 : IntKind.i64.wrap (h : Int) = (h : Int) := by rw [IntKind.wrap_i64]; omega
        obtain ⟨u, hu1, hu2⟩ : ∃ u : Nat, u + h ≤ pp ∧ pp ≤ u + h := ⟨pp - h, by omega, by omega⟩
        have r5 : IntKind.i64.wrap ((pp : Int) - (h : Int)) = (u : Int) := by rw [IntKind.wrap_i64]; omega
        have ea : ((h : Int)).toNat = h := by omega
        have pa : (0 : Int) ≤ (h : Int) := by omega
        have ba : (h : Int) < (d.size : Int) := by omega
        have ec : ((u : Int)).toNat = u := by omega
        have pc : (0 : Int) ≤ (u : Int) := by omega
        have bc : (u : Int) < (d.size : Int) := by omega
        obtain ⟨x, hx⟩ : ∃ x, x = d[u]! := ⟨_, rfl⟩
        obtain ⟨y, hy⟩ : ∃ y, y = d[h]! := ⟨_, rfl⟩
        have la := S.out.S.ld S.out.R HDS.out P u (by omega)
        have lb := S.out.S.ld S.out.R HDS.out P h (by omega)
        rw [← hx] at la
        rw [← hy] at lb
        have hc := S.out.cmp HM.out x y
        have HX : Aside (x = d[u]! ∧ y = d[h]! ∧ u = nn - (h + 1) ∧ u = pp - h) := ⟨hx, hy, by omega, by omega⟩
        clear hx hy
        by_cases hv : cf x y < 0
        · have hd : decide (cf x y < 0) = true := decide_eq_true hv
          go_wp2_with fail
          go_quiet_grown (first | (go_at_fn 76; refine Calls.grown_of (hc _ _)))
          have S2 : Aside (SC k w0 blk off d0 d (grow (wr.drewN nq) osq)) := S.out.to rfl (S.out.S.grown nq osq)
          clear la lb hc S
          generalize grow (wr.drewN nq) osq = w2 at S2 ⊢
          clear nq osq
          go_wp2_with fail
          go_roundg (h - i)
          case measure => omega
          case rel => exact ⟨i, h, rfl, by go_num, h1, hh1, by omega, Nat.le_refl _, S2.out, B1, .inr (by rw [← HX.out.2.2.2, ← HX.out.1, ← HX.out.2.1]; unfold cf at hv; omega)⟩
        · have hd : decide (cf x y < 0) = false := decide_eq_false hv
          go_wp2_with fail
          go_quiet_grown (first | (go_at_fn 76; refine Calls.grown_of (hc _ _)))
          have S2 : Aside (SC k w0 blk off d0 d (grow (wr.drewN nq) osq)) := S.out.to rfl (S.out.S.grown nq osq)
          clear la lb hc S
          generalize grow (wr.drewN nq) osq = w2 at S2 ⊢
          clear nq osq
          go_wp2_with fail
          go_roundg (j - (h + 1))
          case measure => omega
          case rel => exact ⟨h + 1, j, by go_num, rfl, by omega, by omega, h3, Nat.le_refl _, S2.out, .inr (by rw [Nat.add_sub_cancel, ← HX.out.2.2.1, ← HX.out.1, ← HX.out.2.1]; unfold cf at hv; omega), B2⟩
      · have hltz : ¬ (i : Int) < (j : Int) := by omega
        have hij : j = i := by omega
        subst hij
        obtain ⟨e, he1, he2⟩ : ∃ e : Nat, e + j ≤ nn ∧ nn ≤ e + j := ⟨nn - j, by omega, by omega⟩
        have r6 : IntKind.i64.wrap ((nn : Int) - (j : Int)) = (e : Int) := by rw [IntKind.wrap_i64]; omega
        have HC : Aside (Cut ky a m b mid j e d) := ⟨⟨by omega, by omega, by omega, by omega, by omega, by omega, by omega⟩, fun q1 q2 => by
          rcases B2.out with hh | hh
          · have := HSR.out; omega
          · rw [show e - 1 = pp - j by omega]; exact hh, fun q1 q2 => by
          rcases B1.out with hh | hh
          · have := HSR.out; omega
          · rw [show e = nn - j by omega]; exact hh⟩
        have H1 := S
        clear B1 B2 hg S HSR H0
        generalize wr = wx at *
        go_upto_region 39 with fail
        go_cut [185] from 178 to 185 (fun v wy => wy = wx ∧ ∃ c : Bool, v = .bool c ∧ Aside (c = true ↔ j < m ∧ m < e))
        case first =>
          by_cases c1 : j < m
          · have c1z : (j : Int) < (m : Int) := by omega
            by_cases c2 : m < e
            · have c2z : (m : Int) < (e : Int) := by omega
              go_wp2_with fail
              go_meet
              case rel => exact ⟨rfl, true, rfl, ⟨fun _ => ⟨c1, c2⟩, fun _ => rfl⟩⟩
            · have c2z : ¬ (m : Int) < (e : Int) := by omega
              go_wp2_with fail
              go_meet
              case rel => exact ⟨rfl, false, rfl, ⟨(fun h => nomatch h), fun h => absurd h.2 c2⟩⟩
          · have c1z : ¬ (j : Int) < (m : Int) := by omega
            go_wp2_with fail
            go_meet
            case rel => exact ⟨rfl, false, rfl, ⟨(fun h => nomatch h), fun h => absurd h.1 c1⟩⟩
        case rest =>
          obtain ⟨rfl, c, rfl, hc⟩ := hcut
          go_upto_if 185 with fail
          go_cut [] from 186 to 191 (fun wy => ∃ d1, Aside (SC k w0 blk off d0 d1 wy ∧ d1.size = d.size ∧ ∀ t, d1[t]! = d[rotIx j m e t]!))
          case first =>
            cases c with
            | false =>
              go_wp2_with fail
              go_meet
              case rel =>
                refine ⟨d, H1.out, rfl, fun t => ?_⟩
                have := hc.out
                have hn : ¬ (j < m ∧ m < e) := fun h => nomatch this.2 h
                have hh := HC.out.hs
                congr 1
                unfold rotIx
                repeat' split
                all_goals omega
            | true =>
              have hn := hc.out.1 rfl
              have hh := HC.out.hs
              have hr := rot_calls HM.out.L H1.out cap j m e (by omega) (by omega) (by omega) (by omega) hn.1 hn.2
              clear hn hh
              go_wp2_with fail
              go_at_fn 99
              refine hr.mono ?_
              rintro _ w' ⟨rfl, d1, hd1⟩
              have HD1 : Aside _ := hd1
              clear hd1 hr
              go_wp2_with fail
              go_meet
              case rel => exact ⟨d1, HD1⟩
          case rest =>
            obtain ⟨d1, HD1⟩ := hcut
            clear hc H1
            have HX : Aside (Rel ky a b d d1 ∧ (Srt ky a j d1 ∧ Srt ky j mid d1 ∧ Srt ky mid e d1 ∧ Srt ky e b d1 ∧ ∀ p q, a ≤ p → p < mid → mid ≤ q → q < b → ky d1[p]! ≤ ky d1[q]!)) :=
              ⟨(HC.out.rel hb HS1.out HS2.out HD1.out.2.1 HD1.out.2.2).mono (by omega) (by have := HC.out.hs; omega), HC.out.srt HS1.out HS2.out HD1.out.2.2⟩
            have hh := HC.out.hs
            obtain ⟨k1, k2, k3, k4, k5, k6, k7⟩ := hh
            clear k7 HC
            have HD2 : Aside (SC k w0 blk off d0 d1 wc ∧ d1.size = d.size) := ⟨HD1.out.1, HD1.out.2.1⟩
            clear HD1
            generalize wc = wz at *
            go_upto_region 41 with fail
            go_cut [199] from 192 to 199 (fun v wy => wy = wz ∧ ∃ c : Bool, v = .bool c ∧ Aside (c = true ↔ a < j ∧ j < mid))
            case first =>
              by_cases c1 : a < j
              · have c1z : (a : Int) < (j : Int) := by omega
                by_cases c2 : j < mid
                · have c2z : (j : Int) < (mid : Int) := by omega
                  go_wp2_with fail
                  go_meet
                  case rel => exact ⟨rfl, true, rfl, ⟨fun _ => ⟨c1, c2⟩, fun _ => rfl⟩⟩
                · have c2z : ¬ (j : Int) < (mid : Int) := by omega
                  go_wp2_with fail
                  go_meet
                  case rel => exact ⟨rfl, false, rfl, ⟨(fun h => nomatch h), fun h => absurd h.2 c2⟩⟩
              · have c1z : ¬ (a : Int) < (j : Int) := by omega
                go_wp2_with fail
                go_meet
                case rel => exact ⟨rfl, false, rfl, ⟨(fun h => nomatch h), fun h => absurd h.1 c1⟩⟩
            case rest =>
              obtain ⟨rfl, c, rfl, hc⟩ := hcut
              go_upto_if 199 with fail
              go_cut [] from 200 to 205 (fun wy => ∃ d2, Aside (SC k w0 blk off d0 d2 wy ∧ d2.size = d.size ∧ Rel ky a mid d1 d2 ∧ Srt ky a mid d2))
              case first =>
                cases c with
                | false =>
                  go_wp2_with fail
                  go_meet
                  case rel =>
                    refine ⟨d1, HD2.out.1, HD2.out.2, Rel.refl _ _ _, ?_⟩
                    have := hc.out
                    have hn : ¬ (a < j ∧ j < mid) := fun h => nomatch this.2 h
                    by_cases cc : a < j
                    · rw [show mid = j by omega]; exact HX.out.2.1
                    · rw [show a = j by omega]; exact HX.out.2.2.1
                | true =>
                  have hn := hc.out.1 rfl
                  have hr := HI.out a j mid d1 _ (by omega) HD2.out.1 HD2.out.2 hn.1 hn.2 (by have := HD2.out.2; omega) HX.out.2.1 HX.out.2.2.1
                  clear hn
                  go_wp2_with fail
                  go_at_fn 98
                  refine hr.mono ?_
                  rintro _ w' ⟨rfl, d2, hd2⟩
                  have HD3 : Aside _ := hd2
                  clear hd2 hr
                  go_wp2_with fail
                  go_meet
                  case rel => exact ⟨d2, HD3.out.1, HD3.out.2.1.size.trans HD2.out.2, HD3.out.2⟩
              case rest =>
                obtain ⟨d2, HD3⟩ := hcut
                clear hc HD2
                generalize wc = wz at *
                go_upto_region 43 with fail
                go_cut [213] from 206 to 213 (fun v wy => wy = wz ∧ ∃ c : Bool, v = .bool c ∧ Aside (c = true ↔ mid < e ∧ e < b))
                case first =>
                  by_cases c1 : mid < e
                  · have c1z : (mid : Int) < (e : Int) := by omega
                    by_cases c2 : e < b
                    · have c2z : (e : Int) < (b : Int) := by omega
                      go_wp2_with fail
                      go_meet
                      case rel => exact ⟨rfl, true, rfl, ⟨fun _ => ⟨c1, c2⟩, fun _ => rfl⟩⟩
                    · have c2z : ¬ (e : Int) < (b : Int) := by omega
                      go_wp2_with fail
                      go_meet
                      case rel => exact ⟨rfl, false, rfl, ⟨(fun h => nomatch h), fun h => absurd h.2 c2⟩⟩
                  · have c1z : ¬ (mid : Int) < (e : Int) := by omega
                    go_wp2_with fail
                    go_meet
                    case rel => exact ⟨rfl, false, rfl, ⟨(fun h => nomatch h), fun h => absurd h.1 c1⟩⟩
                case rest =>
                  obtain ⟨rfl, c, rfl, hc⟩ := hcut
                  have S3 : Aside (Srt ky mid e d2 ∧ Srt ky e b d2) := ⟨HD3.out.2.2.1.srt (.inr (Nat.le_refl _)) HX.out.2.2.2.1, HD3.out.2.2.1.srt (.inr k5) HX.out.2.2.2.2.1⟩
                  have hmm : a ≤ mid ∧ mid ≤ b := ⟨by omega, by omega⟩
                  have HMM : Aside _ := hmm
                  clear hmm
                  cases c with
                  | false =>
                    have hfin : Rel ky a b d d2 ∧ Srt ky a b d2 := by
                      refine merged HX.out.1 HMM.out HX.out.2.2.2.2.2 HD3.out.2.2.1 HD3.out.2.2.2 (Rel.refl _ _ _) ?_
                      have := hc.out
                      have hn : ¬ (mid < e ∧ e < b) := fun h => nomatch this.2 h
                      by_cases cc : mid < e
                      · rw [show b = e by omega]; exact S3.out.1
                      · rw [show mid = e by omega]; exact S3.out.2
                    go_wp2_with fail
                    go_end0
                    exact ⟨rfl, d2, HD3.out.1, hfin⟩
                  | true =>
                    have hn := hc.out.1 rfl
                    have hr := HI.out mid e b d2 _ (by omega) HD3.out.1 HD3.out.2.1 hn.1 hn.2 (by have := HD3.out.2.1; omega) S3.out.1 S3.out.2
                    clear hn
                    go_wp2_with fail
                    go_at_fn 98
                    refine hr.mono ?_
                    rintro _ w' ⟨rfl, d3, hd3⟩
                    have hfin : Rel ky a b d d3 ∧ Srt ky a b d3 := merged HX.out.1 HMM.out HX.out.2.2.2.2.2 HD3.out.2.2.1 HD3.out.2.2.2 hd3.2.1 hd3.2.2
                    have HF : Aside (SC k w0 blk off d0 d3 w' ∧ Rel ky a b d d3 ∧ Srt ky a b d3) := ⟨hd3.1, hfin⟩
                    clear hfin hd3 hr
                    go_wp2_with fail
                    go_end0
                    exact ⟨rfl, d3, HF.out⟩
end Go.Proofs.Ytockojajbnnbpaa.E
namespace Go.Proofs.Ytockojajbnnbpaa.E
open Go.Sort hiding Below
open Go.RowKit Go.Shelf Go.Lib Go.Proofs.Ytockojajbnnbpaa.Q Go.Proofs.YtockojajbnnbpaaW.PrintWords
set_option linter.unusedVariables false
set_option linter.unusedSimpArgs false
theorem mg_all {P : Program} {k : Nat} (M : Pm P k) (w0 : World) (blk off cap sz : Nat) (d0 : Array K59) (hsz : sz < 1099511627777) : ∀ n, MgC P k w0 blk off cap sz n d0
  | 0 => fun a m b d w h => absurd h (Nat.not_lt_zero _)
  | n + 1 => by
    intro a m b d w h hS hds ham hmb hb h1 h2
    subst hds
    by_cases c1 : m ≤ a + 1
    · exact mg1_calls M hS cap a m b ham c1 hmb hb (by omega) h2
    · by_cases c2 : b ≤ m + 1
      · exact mg2_calls M hS cap a m b (by omega) hmb c2 hb (by omega) h1
      · exact mg3_calls M hS cap a m b (by omega) (by omega) hb hsz h1 h2 (fun a' m' b' d' w' h' => mg_all M w0 blk off cap d.size d0 hsz n a' m' b' d' w' (by omega))
set_option maxRecDepth 100000 in
set_option maxHeartbeats 16000000 in
theorem stable_calls {w0 w : World} {blk off : Nat} {d0 d : Array K59} (h : SC 5 w0 blk off d0 d w) (cap n : Nat) (hn1 : n ≤ d.size) (hn2 : d.size ≤ n) (hsz : d.size < 1099511627777) :
    Calls Try.prog 92 #[.slice (some ⟨blk, off, none⟩) n cap, .int .i64 n, .func (.func 76) #[] #[]] w fun e w' => e = .returned (.tuple #[]) ∧ ∃ d', SC 5 w0 blk off d0 d' w' ∧ Rel ky 0 n d d' ∧ Srt ky 0 n d' := by
  have H0 : Aside (SC 5 w0 blk off d0 d w) := h
  have HI : Aside (∀ (a b : Nat) (dk : Array K59) (w : World), SC 5 w0 blk off d0 dk w → dk.size = d.size → a ≤ b → b ≤ n → Calls Try.prog 97 #[.slice (some ⟨blk, off, none⟩) n cap, .int .i64 a, .int .i64 b, .func (.func 76) #[] #[]] w fun e w' => e = .returned (.tuple #[]) ∧ ∃ d', SC 5 w0 blk off d0 d' w' ∧ Rel ky a b dk d' ∧ Srt ky a b d') := fun a b dk w hd hs h1 h2 => by
    have := ins_calls hd cap a b h1 (by omega) (by omega)
    rw [show dk.size = n by omega] at this
    exact this
  have HM : Aside (MgC Try.prog 5 w0 blk off cap n (n + 1) d0) := mg_all pm_try w0 blk off cap n d0 (by omega) (n + 1)
  clear h
  go_enter Try.func92, Try.ntmps92
  go_wp2_with fail
  go_loopg [7, 8] n (fun g v v2 wr => ∃ (a : Nat) (dk : Array K59), v = .int .i64 a ∧ v2 = .int .i64 ((a : Int) + 20) ∧ a ≤ n ∧ n - a ≤ g ∧ Aside (SC 5 w0 blk off d0 dk wr ∧ dk.size = d.size ∧ Rel ky 0 n d dk ∧ Done ky 20 dk a))
  case atStart => exact ⟨0, d, rfl, by go_num, Nat.zero_le _, Nat.le_refl _, H0.out, rfl, Rel.refl _ _ _, .zero⟩
  case round =>
    clear H0
    obtain ⟨a, dk, rfl, rfl, ha, hg, H⟩ := hrel
    by_cases hle : a + 20 ≤ n
    · have hlez : (a : Int) + 20 ≤ (n : Int) := by omega
      have r1 : IntKind.i64.wrap ((a : Int) + 20 + 20) = (a : Int) + 20 + 20 := by rw [IntKind.wrap_i64]; omega
      have hc := HI.out a (a + 20) dk wr H.out.1 H.out.2.1 (by omega) hle
      rw [Int.natCast_add] at hc
      go_wp2_with fail
      refine hc.mono ?_
      rintro _ w' ⟨rfl, d', hd, hr, hs⟩
      have H2 : Aside (SC 5 w0 blk off d0 d' w' ∧ d'.size = d.size ∧ Rel ky 0 n d d' ∧ Done ky 20 d' (a + 20)) := ⟨hd, hr.size.trans H.out.2.1, H.out.2.2.1.trans (hr.mono (Nat.zero_le _) hle), .snoc (H.out.2.2.2.rel hr (Nat.le_refl _)) hs⟩
      clear hc hd hr hs H
      go_wp2_with fail
      go_roundg (n - (a + 20))
      case measure => omega
      case rel => exact ⟨a + 20, d', by go_num, by go_num, hle, Nat.le_refl _, H2⟩
    · have hlez : ¬ (a : Int) + 20 ≤ (n : Int) := by omega
      have hc := HI.out a n dk wr H.out.1 H.out.2.1 ha (Nat.le_refl _)
      go_wp2_with fail
      refine hc.mono ?_
      rintro _ w' ⟨rfl, d', hd, hr, hs⟩
      have H2 : Aside (SC 5 w0 blk off d0 d' w' ∧ d'.size = d.size ∧ Rel ky 0 n d d' ∧ Ch ky 20 n d' 0) := ⟨hd, hr.size.trans H.out.2.1, H.out.2.2.1.trans (hr.mono (Nat.zero_le _) (Nat.le_refl _)), (H.out.2.2.2.rel hr (Nat.le_refl _)).ch ha (.last (by omega) hs)⟩
      clear hc hd hr hs H hlez hle
      go_wp2_with fail
      go_loopg [6] n (fun g v wr => ∃ (s : Nat) (dk : Array K59), v = .int .i64 s ∧ 0 < s ∧ s < 2199023255555 ∧ n - s ≤ g ∧ Aside (SC 5 w0 blk off d0 dk wr ∧ dk.size = d.size ∧ Rel ky 0 n d dk ∧ Ch ky s n dk 0))
      case atStart => exact ⟨20, d', by go_num, by decide, by decide, by omega, H2⟩
      case round =>
        clear H2
        obtain ⟨s, ds, rfl, hs0, hs1, hsg, HS⟩ := hrel
        by_cases hlt : s < n
        · have hltz : (s : Int) < (n : Int) := by omega
          obtain ⟨t, ht1, ht2⟩ : ∃ t : Nat, t ≤ s + s ∧ s + s ≤ t := ⟨s + s, Nat.le_refl _, Nat.le_refl _⟩
          have m1 : IntKind.i64.wrap (2 * (s : Int)) = (t : Int) := by rw [IntKind.wrap_i64]; omega
          have m2 : IntKind.i64.wrap ((s : Int) * 2) = (t : Int) := by rw [IntKind.wrap_i64]; omega
          go_wp2_with fail
          go_loopg [7, 8] n (fun g v v2 wr => ∃ (a : Nat) (dk : Array K59), v = .int .i64 a ∧ v2 = .int .i64 ((a : Int) + (t : Int)) ∧ a ≤ n ∧ n - a ≤ g ∧ Aside (SC 5 w0 blk off d0 dk wr ∧ dk.size = d.size ∧ Rel ky 0 n d dk ∧ Done ky t dk a ∧ Ch ky s n dk a))
          case atStart => exact ⟨0, ds, rfl, by simp, Nat.zero_le _, Nat.le_refl _, HS.out.1, HS.out.2.1, HS.out.2.2.1, .zero, HS.out.2.2.2⟩
          case round =>
            clear HS
            obtain ⟨a, dk, rfl, rfl, ha, hga, H⟩ := hrel
            have r2 : IntKind.i64.wrap ((a : Int) + (s : Int)) = (a : Int) + (s : Int) := by rw [IntKind.wrap_i64]; omega
            by_cases hle : a + t ≤ n
            · have hlez : (a : Int) + (t : Int) ≤ (n : Int) := by omega
              have r1 : IntKind.i64.wrap ((a : Int) + (t : Int) + (t : Int)) = (a : Int) + (t : Int) + (t : Int) := by rw [IntKind.wrap_i64]; omega
              have h2 := H.out.2.2.2.2.two hs0 (by omega)
              have h3 := h2.2.two hs0 (by omega)
              rw [show a + s + s = a + t by omega] at h3
              have hc := HM.out a (a + s) (a + t) dk wr (by omega) H.out.1 (by have := H.out.2.1; omega) (by omega) (by omega) (by have := H.out.2.1; omega) h2.1 h3.1
              have H3 : Aside (Ch ky s n dk (a + t)) := h3.2
              clear h2 h3
              rw [Int.natCast_add, Int.natCast_add] at hc
              go_wp2_with fail
              refine hc.mono ?_
              rintro _ w' ⟨rfl, d'', hd, hr, hs⟩
              have H2 : Aside (SC 5 w0 blk off d0 d'' w' ∧ d''.size = d.size ∧ Rel ky 0 n d d'' ∧ Done ky t d'' (a + t) ∧ Ch ky s n d'' (a + t)) := ⟨hd, hr.size.trans H.out.2.1, H.out.2.2.1.trans (hr.mono (Nat.zero_le _) hle), .snoc (H.out.2.2.2.1.rel hr (Nat.le_refl _)) hs, H3.out.rel hr (Nat.le_refl _)⟩
              clear hc hd hr hs H H3
              go_wp2_with fail
              go_roundg (n - (a + t))
              case measure => omega
              case rel => exact ⟨a + t, d'', by go_num, by go_num, hle, Nat.le_refl _, H2⟩
            · have hlez : ¬ (a : Int) + (t : Int) ≤ (n : Int) := by omega
              by_cases hm : a + s < n
              · have hmz : (a : Int) + (s : Int) < (n : Int) := by omega
                have h2 := H.out.2.2.2.2.two hs0 (by omega)
                have hc := HM.out a (a + s) n dk wr (by omega) H.out.1 (by have := H.out.2.1; omega) (by omega) (by omega) (by have := H.out.2.1; omega) h2.1 (h2.2.one (by omega))
                clear h2
                rw [Int.natCast_add] at hc
                go_wp2_with fail
                refine hc.mono ?_
                rintro _ w' ⟨rfl, d'', hd, hr, hs⟩
                have H2 : Aside (SC 5 w0 blk off d0 d'' w' ∧ d''.size = d.size ∧ Rel ky 0 n d d'' ∧ Ch ky t n d'' 0) := ⟨hd, hr.size.trans H.out.2.1, H.out.2.2.1.trans (hr.mono (Nat.zero_le _) (Nat.le_refl _)), (H.out.2.2.2.1.rel hr (Nat.le_refl _)).ch ha (.last (by omega) hs)⟩
                clear hc hd hr hs H hlez hle
                go_wp2_with fail
                go_roundg (n - t)
                case measure => omega
                case rel => exact ⟨t, d'', rfl, by omega, by omega, Nat.le_refl _, H2⟩
              · have hmz : ¬ (a : Int) + (s : Int) < (n : Int) := by omega
                have H2 : Aside (SC 5 w0 blk off d0 dk wr ∧ dk.size = d.size ∧ Rel ky 0 n d dk ∧ Ch ky t n dk 0) := ⟨H.out.1, H.out.2.1, H.out.2.2.1, H.out.2.2.2.1.ch ha (.last (by omega) (H.out.2.2.2.2.one (by omega)))⟩
                clear H
                go_wp2_with fail
                go_roundg (n - t)
                case measure => omega
                case rel => exact ⟨t, dk, rfl, by omega, by omega, Nat.le_refl _, H2⟩
        · have hltz : ¬ (s : Int) < (n : Int) := by omega
          go_wp2_with fail
          go_end0
          exact ⟨rfl, ds, HS.out.1, HS.out.2.2.1, HS.out.2.2.2.one (by omega)⟩
theorem tiny97 (v : Value) (w : World) : Calls Try.prog 97 #[v, .int .i64 0, .int .i64 0, .func (.func 76) #[] #[]] w fun e w' => e = .returned (.tuple #[]) ∧ w' = w := by
  go_enter Try.func97, Try.ntmps97
  go_wp2
  refine wp_loop_rounds 1 ?_
  rw [rounds_succ]
  go_wp2
  go_end0
  exact ⟨rfl, rfl⟩
theorem tiny92 (v : Value) (w : World) : Calls Try.prog 92 #[v, .int .i64 0, .func (.func 76) #[] #[]] w fun e w' => e = .returned (.tuple #[]) ∧ w' = w := by
  have hc := tiny97 v w
  go_enter Try.func92, Try.ntmps92
  go_wp2
  refine wp_loop_rounds 1 ?_
  rw [rounds_succ]
  go_wp2_with fail
  refine hc.mono ?_
  rintro _ w' ⟨rfl, rfl⟩
  go_wp2
  refine wp_loop_rounds 1 ?_
  rw [rounds_succ]
  go_wp2
  go_end0
  exact ⟨rfl, rfl⟩
theorem sort_of {n c : Nat} {A : Option Addr} {w : World} {Q : Ending → World → Prop} (h : Calls Try.prog 92 #[.slice A n c, .int .i64 n, .func (.func 76) #[] #[]] w fun e w' => e = .returned (.tuple #[]) ∧ Q e w') : Calls Try.prog 75 #[.slice A n c, .func (.func 76) #[] #[]] w fun e w' => e = .returned (.tuple #[]) ∧ Q e w' := by
  have HQ := Aside0.mk h
  clear h
  go_enter Try.func75, Try.ntmps75
  go_wp2_with fail
  refine HQ.out.mono ?_
  rintro _ w' ⟨rfl, hq⟩
  have H2 := Aside0.mk hq
  clear hq HQ
  go_wp2_with fail
  go_end0
  exact ⟨rfl, H2.out⟩
theorem flat_get (d : Array K59) (j i : Nat) (x : K59) (hj : d.toList[j]? = some x) (hi : i < 5) : (flatK en 5 d).toList[j * 5 + i]? = (en x)[i]? := by
  have hs : j < d.size := by
    have := List.getElem?_eq_some_iff.1 hj
    obtain ⟨h, _⟩ := this
    simpa using h
  have hx : d[j]! = x := by
    rw [get_toList, if_pos hs] at hj
    exact Option.some.inj hj
  have hz : j * 5 + i < d.size * 5 := by omega
  rw [get_toList, size_flatK, if_pos hz, get_flatK _ _ _ _ hz, show (j * 5 + i) / 5 = j by omega, show (j * 5 + i) % 5 = i by omega, hx]
  have hl : i < (en x).length := by rw [en_len]; exact hi
  rw [List.getElem?_eq_getElem hl, getElem!_pos _ i hl]
theorem flat_reps (w : World) (base : Nat) (ok : Nat → Prop) (d : Array K59) : Reps (k59.M w base ok) 5 (d.toList.map (·.1)) (flatK en 5 d).toList := by
  refine ⟨by simp, fun j p hp => ?_⟩
  rw [List.getElem?_map] at hp
  cases hx : d.toList[j]? with
  | none => rw [hx] at hp; cases hp
  | some x =>
    rw [hx] at hp
    obtain rfl := Option.some.inj hp
    have : (((flatK en 5 d).toList.drop (j * 5)).take 5) = en x := by
      apply List.ext_getElem?
      intro i
      rw [List.getElem?_take, List.getElem?_drop]
      by_cases hi : i < 5
      · rw [if_pos hi]; exact flat_get d j i x hx hi
      · rw [if_neg hi, List.getElem?_eq_none (by rw [en_len]; omega)]
    rw [this]
    exact k59_mkM w base ok x.1
theorem holds_of {w : World} {g : Nat} {cur : Array Value} {d : Array K59} {inner : List Value} (hb : w.heap[g]? = some (.cells cur 59 (0, 0))) (hr : Reps (k59.M w 0 (fun _ => True)) 5 (d.toList.map (·.1)) inner) (ht : cur.toList.take (d.size * 5) = inner) : HoldsK en 5 w g 0 d := by
  intro t ht2
  rw [size_flatK] at ht2
  refine ⟨?_, ?_⟩
  · rw [Nat.zero_add]
    refine (blk_cell hb t).trans ?_
    rw [← Array.getElem?_toList]
    have hq : d.toList[t / 5]? = some d[t / 5]! := by rw [get_toList, if_pos (by omega)]
    have hM := hr.2 (t / 5) d[t / 5]!.1 (by rw [List.getElem?_map, hq]; rfl)
    have hM := k59_openM hM
    have e1 := flat_get d (t / 5) (t % 5) _ hq (by omega)
    rw [show t / 5 * 5 + t % 5 = t by omega, get_toList, size_flatK, if_pos ht2] at e1
    show cur.toList[t]? = some ((flatK en 5 d)[t]!)
    rw [e1, show en d[t / 5]! = (inner.drop (t / 5 * 5)).take 5 from hM.symm, List.getElem?_take, if_pos (by omega), List.getElem?_drop, show t / 5 * 5 + t % 5 = t by omega, ← ht, List.getElem?_take, if_pos ht2]
  · rw [Nat.zero_add]; exact blk_frozen hb t
theorem putCells_take (d : Array K59) (cur : Array Value) (h : d.size * 5 ≤ cur.size) : (putCells id 0 (flatK en 5 d) cur).toList.take (d.size * 5) = (flatK en 5 d).toList := by
  apply List.ext_getElem?
  intro t
  rw [List.getElem?_take]
  by_cases c : t < d.size * 5
  · rw [if_pos c, Array.getElem?_toList, putCells, Array.getElem?_mapIdx, Array.getElem?_eq_getElem (by omega), Option.map_some, if_pos ⟨Nat.zero_le _, by rw [size_flatK]; omega⟩, get_toList, size_flatK, if_pos c]
    rfl
  · rw [if_neg c, get_toList, size_flatK, if_neg c]
theorem world_back {w : World} {g n cap : Nat} {cur : Array Value} {d' : Array K59} {os : Array Obj} {S : Nat → Prop} (hb : w.heap[g]? = some (.cells cur 59 (0, 0))) (hS : S g) (hc1 : d'.size ≤ cap) (hc2 : cap ≤ maxLen) (hc3 : cur.size = cap * 5) :
    Kd.R k59 59 (sortWorldK en 5 w g 0 n d' os) 0 S (.slice (some ⟨g, 0, none⟩) d'.size cap) (d'.toList.map (·.1)) ∧ Fr S w (sortWorldK en 5 w g 0 n d' os) := by
  have hg := blk_lt hb
  have hblk : (sortWorldK en 5 w g 0 n d' os).heap[g]? = some (.cells (putCells id 0 (flatK en 5 d') cur) 59 (0, 0)) := by
    show ((w.heap.modify g (onCells (putCells id 0 (flatK en 5 d')))) ++ os)[g]? = _
    rw [Array.getElem?_append_left (by rw [Array.size_modify]; exact hg), Array.getElem?_modify, if_pos rfl, hb]
    rfl
  refine ⟨⟨fun k hk => ?_, (flatK en 5 d').toList, ⟨?_, .inr ⟨g, cap, putCells id 0 (flatK en 5 d') cur, ?_, Nat.zero_le _, hblk, ?_, hc2, ?_, ?_⟩⟩, flat_reps _ _ _ _⟩, ?_⟩
  · simp [Value.ownBlock] at hk; exact hk ▸ hS
  · simp [k59, Kd.iso, Kd.pair, Kd.int, Kd.scalar]
  · rw [List.length_map, Array.length_toList]
  · rw [List.length_map, Array.length_toList]; exact hc1
  · rw [putCells, Array.size_mapIdx]; exact hc3
  · have := putCells_take d' cur (by omega)
    simpa [k59, Kd.iso, Kd.pair, Kd.int, Kd.scalar] using this
  · refine ⟨rfl, rfl, rfl, ?_, fun i hi hn => ?_⟩
    · show w.heap.size ≤ ((w.heap.modify g (onCells (putCells id 0 (flatK en 5 d')))) ++ os).size
      rw [Array.size_append, Array.size_modify]; exact Nat.le_add_right _ _
    · show ((w.heap.modify g (onCells (putCells id 0 (flatK en 5 d')))) ++ os)[i]? = _
      rw [Array.getElem?_append_left (by rw [Array.size_modify]; exact hi), Array.getElem?_modify, if_neg (fun e => hn (by rw [← e]; exact hS))]
theorem lift59 : ∀ (l : List S59), (∀ x ∈ l, 0 ≤ x.f0 ∧ x.f0 < 4611686018427387904) → ∃ d : List K59, d.map (·.1) = l
  | [], _ => ⟨[], rfl⟩
  | x :: t, h => by
    obtain ⟨d, hd⟩ := lift59 t (fun y hy => h y (List.mem_cons_of_mem _ hy))
    exact ⟨⟨x, h x List.mem_cons_self⟩ :: d, by rw [List.map_cons, hd]⟩
theorem byS_map (n : Nat) (d : List K59) : ((List.range n).flatMap fun (i : Nat) => d.filter fun x => ky x == (i : Int)).map (·.1) = byS n (d.map (·.1)) := by
  unfold byS
  rw [List.map_flatMap]
  congr 1
  funext i
  rw [List.filter_map]
  rfl
theorem sort_holds : SortC := by
  intro n l v S w hn hR hk hl
  obtain ⟨h0, inner, ho, hr⟩ := hR
  obtain ⟨d, hd⟩ := lift59 l (fun x hx => ⟨(hk x hx).1, by have := (hk x hx).2; omega⟩)
  rcases ho.2 with ⟨rfl, hz⟩ | ⟨g, cap, cur, rfl, _, hb, hc1, hc2, hc3, ht⟩
  · have hl0 : l = [] := List.length_eq_zero_iff.1 hz
    subst hl0
    refine (sort_of (Q := fun _ w' => w' = w) (tiny92 _ w)).mono ?_
    rintro e w' ⟨he, rfl⟩
    refine ⟨he, ?_, Fr.refl _ _⟩
    have : byS n [] = [] := by unfold byS; simp
    rw [this]
    exact Kd.R_nil _ _ _ _ _
  · have hlen : d.toArray.size = l.length := by rw [← hd]; simp
    have hS : S g := h0 g rfl
    have hH : HoldsK en 5 w g 0 d.toArray := holds_of hb (inner := inner) (by rw [List.toList_toArray, hd]; exact hr.imp_ (fun p c hp => k59.M_mono (fun _ _ => trivial) hp)) (by rw [hlen]; exact ht)
    have h1 : SC 5 w g 0 d.toArray d.toArray w := ⟨⟨en_len, en_one, hH, blk_lt hb⟩, rfl, SWK.start hH⟩
    have h2 := stable_calls h1 cap l.length (by omega) (by omega) (by omega)
    refine (sort_of h2).mono ?_
    rintro e w' ⟨he, d', hd', hr', hs'⟩
    obtain ⟨m, os, rfl⟩ := hd'.S
    have hbk := world_back (n := m) (os := os) (S := S) (d' := d') hb hS (by rw [hr'.size, hlen]; exact hc1) hc2 hc3
    have hsz : d'.size = l.length := by rw [hr'.size, hlen]
    have heq : d'.toList.map (·.1) = byS n l := by
      rw [sorted_is n hr' hs' hlen.symm (fun x hx => by
        have : x.1 ∈ l := by rw [← hd]; exact List.mem_map_of_mem (by simpa using hx)
        exact hk _ this), List.toList_toArray, byS_map, hd]
    rw [hsz, heq] at hbk
    exact ⟨he, hbk⟩
end Go.Proofs.Ytockojajbnnbpaa.E
namespace Go.Proofs.Ytockojajbnnbpaa.E
open Go.RowKit Go.Proofs.Ytockojajbnnbpaa.Q Go.Proofs.YtockojajbnnbpaaW.PrintWords Go.Proofs.YtockojajbnnbpaaW.PrintLast Go.Proofs.YtockojajbnnbpaaW.PrintMore
set_option linter.unusedVariables false
set_option linter.unusedSimpArgs false
theorem readS_none {b : List Int} {rows : List S47} (h : tabS b = .ok rows) (h2 : bodyS b rows = none) : readS b = .error 5 := by unfold readS; rw [h]; show (match bodyS b rows with | none => _ | some o => _) = _; rw [h2]
theorem headerS_mem {b : List Int} {rows : List S47} {x : S47} (h : headerS b rows = some x) : x ∈ rows ∧ x.f1 = 3 := by
  unfold headerS at h
  by_cases c : b.take 32 = magic ∧ (b.drop 36).take 12 = sizes ∧ (rows[0]?).map (·.f1) = some 0
  · rw [if_pos c] at h; exact rowS_mem h
  · rw [if_neg c] at h; cases h
set_option maxRecDepth 100000 in
set_option maxHeartbeats 32000000 in
theorem Read_rows (A : Option Addr) (c : Nat) (b : List Int) (hb : AllBytes b) (rows : List S47) (hr : tabS b = .ok rows) (w : World) (h : Kd.C (Kd.int .u8) w A b.length b) (hc : b.length ≤ c) :
    Calls Try.prog 11 #[.slice A b.length c] w fun e w' => ReadRes b w e w' := by
  have hmf : ∀ (fn : Fn) (first cap : Array Value) (w : World), (Instr.makeFunc fn first cap).run Try.prog w = .ok (.func fn first cap) w := fun _ _ _ _ => rfl
  have hu26 := Try.underlying26
  have hu47 := Try.underlying47
  obtain ⟨hl, h52, hrl, hin⟩ := tabS_ok hb hr
  have hz1 := alloc_size w (.cells #[.slice none 0 0, .slice none 0 0, .slice none 0 0] 26)
  have hz2 := alloc_size (w.alloc (.cells #[.slice none 0 0, .slice none 0 0, .slice none 0 0] 26)) (.cells #[.int .i64 0] 28)
  have hb0 : Below w.heap.size w ((w.alloc (.cells #[.slice none 0 0, .slice none 0 0, .slice none 0 0] 26)).alloc (.cells #[.int .i64 0] 28)) := below_alloc (below_alloc (Below.refl _ _) _) _
  have X1 : ((w.alloc (.cells #[.slice none 0 0, .slice none 0 0, .slice none 0 0] 26)).alloc (.cells #[.int .i64 0] 28)).heap[w.heap.size]? = some (.cells #[.slice none 0 0, .slice none 0 0, .slice none 0 0] 26 (0, 0)) := blk_below (heap_alloc_new w _) (below_alloc (Below.refl _ _) _)
  have X2 : ((w.alloc (.cells #[.slice none 0 0, .slice none 0 0, .slice none 0 0] 26)).alloc (.cells #[.int .i64 0] 28)).heap[w.heap.size + 1]? = some (.cells #[.int .i64 0] 28 (0, 0)) := by rw [← hz1]; exact heap_alloc_new _ _
  have hT := table_calls hb (by omega) _ _ (Rw_new ((w.alloc (.cells #[.slice none 0 0, .slice none 0 0, .slice none 0 0] 26)).alloc (.cells #[.int .i64 0] 28)) A c b) (Kd.C_below h hb0) hc
  rw [hz2, hz1] at hT
  have HT : Aside0 (Calls Try.prog 30 #[.pointer (some ⟨w.heap.size + 1 + 1, 0, none⟩)] (((w.alloc (.cells #[.slice none 0 0, .slice none 0 0, .slice none 0 0] 26)).alloc (.cells #[.int .i64 0] 28)).alloc (.cells #[.slice A b.length c, .slice none 0 0] 69)) fun e w' => e = .returned (.tuple #[]) ∧ Stg w w' b rows (.slice none 0 0) (.slice none 0 0) (.slice none 0 0)) := ⟨hT.mono (fun e w' hh => by
    unfold TabR at hh; rw [hr] at hh
    obtain ⟨he, hrd, hbl, S, vr, hw, _⟩ := hh
    have hz : w.heap.size + 1 + 1 = ((w.alloc (.cells #[.slice none 0 0, .slice none 0 0, .slice none 0 0] 26)).alloc (.cells #[.int .i64 0] 28)).heap.size := by rw [hz2, hz1]
    refine ⟨he, ⟨⟨S, A, c, vr, ⟨below_step hb0 hbl, hw.blk, hw.rr, hw.own, fun k hk => ⟨?_, (hw.q k hk).2⟩⟩, fun k hk => ?_, h, hc⟩, blk_below X1 hbl, blk_below X2 hbl⟩⟩
    · have := (hw.q k hk).1; rw [hz2, hz1] at this; omega
    · have := (hw.q k hk).1; rw [hz2, hz1] at this; exact this)⟩
  have HBB := Aside0.mk hb
  have HL := Aside0.mk hl
  have H52 := Aside0.mk h52
  have HRL := Aside0.mk hrl
  have HIN := Aside0.mk hin
  have HTB := Aside0.mk hr
  clear X1 X2 hb0 hT hz1 hz2 hr h hc hb hl h52 hrl hin
  go_enter_defers Try.func11, Try.ntmps11
  go_wp2_with fail
  refine HT.out.mono ?_
  rintro e w4 ⟨rfl, hs4⟩
  have HS4 := Aside0.mk hs4
  clear hs4 HT
  cases hh : headerS b rows with
  | none =>
    have HRS : Aside0 (readS b = .error 5) := ⟨readS_none HTB.out (by unfold bodyS; rw [hh]; rfl)⟩
    have HD := Aside0.mk (header_no HBB.out (by have := HL.out; omega) H52.out (by have := HRL.out; omega) hh w4 HS4.out.rd)
    clear hh
    go_wp2_with fail
    refine HD.out.mono ?_
    rintro e w5 ⟨rfl, hb5⟩
    refine leaves_cons (f := 29) (args := #[.pointer (some ⟨w.heap.size, 0, none⟩), .pointer (some ⟨w.heap.size + 1, 0, none⟩)]) (by simp) (by simp [go_sem]) ?_
    refine (Stg.dies (HS4.out.below hb5) 5).mono ?_
    rintro e u' wz ⟨rfl, rfl, hbz, z0, z1, z2, z3⟩
    have hfin := ReadRes.no HRS.out hbz
    clear hbz HRS
    simp [Leaves, settle, results, Try.results11, go_sem, z0, z1, z2, z3]
    exact hfin
  | some nm =>
    have HD := Aside0.mk (header_ok HBB.out (by have := HL.out; omega) H52.out (by have := HRL.out; omega) nm hh w4 HS4.out.rd)
    have hmm := headerS_mem hh
    have HNB : Aside0 (0 ≤ nm.f4 ∧ 0 ≤ nm.f5 ∧ nm.f4 + nm.f5 ≤ (b.length : Int)) := ⟨by
      have hi := HIN.out _ hmm.1
      have h4 := hi.1 nm.f4 (by simp [fieldsL])
      have h5 := hi.1 nm.f5 (by simp [fieldsL])
      rcases hi.2 with h | h | h
      · rw [hmm.2] at h; cases h
      · rw [hmm.2] at h; cases h
      · exact ⟨h4.1, h5.1, h⟩⟩
    have HHD := Aside0.mk hh
    clear hh hmm
    go_wp2_with fail
    refine HD.out.mono ?_
    rintro e w5 ⟨rfl, hb5⟩
    have hal := below_alloc (Below.refl w5.heap.size w5) (.cells #[.int .u32 nm.f0, .int .u32 nm.f1, .int .u32 nm.f2, .int .u32 nm.f3, .int .u32 nm.f4, .int .u32 nm.f5, .int .u32 nm.f6, .int .u32 nm.f7, .int .u32 nm.f8, .int .u32 nm.f9] 47)
    have HS6 := Aside0.mk ((HS4.out.below hb5).below hal)
    clear hb5 hal HD HS4
    have HSC := Aside0.mk (sections_calls HBB.out HL.out (by have := HRL.out; omega) HIN.out nm HNB.out.1 HNB.out.2.1 HNB.out.2.2 _ HS6.out.rd)
    cases hs : secsR b rows nm with
    | none =>
      have HRS : Aside0 (readS b = .error 5) := ⟨readS_none HTB.out (by unfold bodyS; rw [HHD.out]; show (secsR b rows nm).bind _ = none; rw [hs]; rfl)⟩
      have HD := Aside0.mk (HSC.out.mono (fun e w' hh => show e = wrongE 5 ∧ Below _ _ w' by unfold SecsRes at hh; rw [hs] at hh; exact hh))
      clear hs HSC
      go_wp2_with fail
      refine HD.out.mono ?_
      rintro e w7 ⟨rfl, hb7⟩
      refine leaves_cons (f := 29) (args := #[.pointer (some ⟨w.heap.size, 0, none⟩), .pointer (some ⟨w.heap.size + 1, 0, none⟩)]) (by simp) (by simp [go_sem]) ?_
      refine (Stg.dies (HS6.out.below hb7) 5).mono ?_
      rintro e u' wz ⟨rfl, rfl, hbz, z0, z1, z2, z3⟩
      have hfin := ReadRes.no HRS.out hbz
      clear hbz HRS
      simp [Leaves, settle, results, Try.results11, go_sem, z0, z1, z2, z3]
      exact hfin
    | some ps =>
      have HD := Aside0.mk (HSC.out.mono (fun e w' hh => show ∃ S S2 v v2, e = .returned (.tuple #[v, v2]) ∧ Gr k40 40 (Kd.int .i64) 3 _ w' S S2 v v2 ps.1 ps.2 by unfold SecsRes at hh; rw [hs] at hh; exact hh))
      have HSI := Aside0.mk (secsR_inv HBB.out HL.out (fun x hx => (HIN.out x hx).1) hs)
      have HSQ := Aside0.mk hs
      clear hs HSC
      go_wp2_with fail
      refine HD.out.mono ?_
      rintro e w7 ⟨S, S2, v, v2, rfl, hg⟩
      obtain ⟨A7, c7, rfl⟩ := Kd.R_slice hg.r
      obtain ⟨B7, d7, rfl⟩ := Kd.R_slice hg.r2
      have hlt6 := HS6.out.lt
      have hs7 := HS6.out.below hg.bl
      obtain ⟨p0, p1, p2, p3, f0, f1, f2, f3⟩ := hs7.at_
      have HR0 : Aside0 (Ro k40 40 w7 (w.heap.size + 1 + 1 + 1) w7.heap.size (.slice A7 ps.1.length c7) ps.1) := ⟨⟨S, hg.r, fun k hk => ⟨Nat.le_trans hlt6 (hg.q k hk).1, (hg.q k hk).2⟩⟩⟩
      have HN0 : Aside0 (Ro (Kd.int .i64) 3 w7 (w.heap.size + 1 + 1 + 1) w7.heap.size (.slice B7 ps.2.length d7) ps.2) := ⟨⟨S2, hg.r2, fun k hk => ⟨Nat.le_trans hlt6 (hg.q2 k hk).1, (hg.q2 k hk).2⟩⟩⟩
      have HS8 : Aside0 (Stg w (w7.setCell ⟨w.heap.size, 0, none⟩ (.slice A7 ps.1.length c7)) b rows (.slice A7 ps.1.length c7) (.slice none 0 0) (.slice none 0 0)) := ⟨hs7.set 0 _ _ _ _ rfl⟩
      have HR1 := Aside0.mk (HR0.out.far (p := ⟨w.heap.size, 0, none⟩) (show w.heap.size < w.heap.size + 1 + 1 + 1 by omega) (.slice A7 ps.1.length c7))
      have HN1 := Aside0.mk (HN0.out.far (p := ⟨w.heap.size, 0, none⟩) (show w.heap.size < w.heap.size + 1 + 1 + 1 by omega) (.slice A7 ps.1.length c7))
      have HZ1 : Aside0 (w7.heap.size = (w7.setCell ⟨w.heap.size, 0, none⟩ (.slice A7 ps.1.length c7)).heap.size) := ⟨by simp [World.setCell]⟩
      have HLT := Aside0.mk (hs7.lt)
      clear hg hs7 hlt6 HR0 HN0 HS6 HD p1 p2 p3 f1 f2 f3
      have HYC := Aside0.mk (rsymbols_calls HBB.out HL.out (by have := HRL.out; omega) HIN.out ps.2 (by have := HSI.out.2.2.2; have := HRL.out; omega) B7 d7 _ HS8.out.rd (HN1.out.reads).2.2)
      cases hy : symsR b rows ps.2 with
      | none =>
        have HRS : Aside0 (readS b = .error 5) := ⟨readS_none HTB.out (by unfold bodyS; rw [HHD.out]; show (secsR b rows nm).bind _ = none; rw [HSQ.out]; show (symsR b rows ps.2).bind _ = none; rw [hy]; rfl)⟩
        have HD := Aside0.mk (HYC.out.mono (fun e w' hh => show e = wrongE 5 ∧ Below _ _ w' by unfold SymsRes at hh; rw [hy] at hh; exact hh))
        clear hy HYC
        go_wp2_with fail
        refine HD.out.mono ?_
        rintro e w9 ⟨rfl, hb9⟩
        refine leaves_cons (f := 29) (args := #[.pointer (some ⟨w.heap.size, 0, none⟩), .pointer (some ⟨w.heap.size + 1, 0, none⟩)]) (by simp) (by simp [go_sem]) ?_
        refine (Stg.dies (HS8.out.below hb9) 5).mono ?_
        rintro e u' wz ⟨rfl, rfl, hbz, z0, z1, z2, z3⟩
        have hfin := ReadRes.no HRS.out hbz
        clear hbz HRS
        simp [Leaves, settle, results, Try.results11, go_sem, z0, z1, z2, z3]
        exact hfin
      | some qs =>
        have HD := Aside0.mk (HYC.out.mono (fun e w' hh => show ∃ S S2 v v2, e = .returned (.tuple #[v, v2, .int .i64 qs.2.2]) ∧ Gr k94 94 (Kd.int .i64) 3 _ w' S S2 v v2 qs.1 qs.2.1 by unfold SymsRes at hh; rw [hy] at hh; exact hh))
        have HYI := Aside0.mk (symsR_inv HBB.out HL.out HSI.out.1 hy)
        have HYQ := Aside0.mk hy
        clear hy HYC
        go_wp2_with fail
        refine HD.out.mono ?_
        rintro e w9 ⟨T, T2, u, u2, rfl, hg⟩
        obtain ⟨A9, c9, rfl⟩ := Kd.R_slice hg.r
        obtain ⟨B9, d9, rfl⟩ := Kd.R_slice hg.r2
        have hlt8 : w7.heap.size ≤ w9.heap.size := by have := hg.bl.size; rw [← HZ1.out] at this; exact this
        have hs9 := HS8.out.below hg.bl
        obtain ⟨p0', p1, p2, p3, f0', f1, f2, f3⟩ := hs9.at_
        have HR2 := Aside0.mk ((HR1.out.below hg.bl).far (p := ⟨w.heap.size, 1, none⟩) (show w.heap.size < w.heap.size + 1 + 1 + 1 by omega) (.slice A9 qs.1.length c9))
        have HN2 := Aside0.mk ((HN1.out.below hg.bl).far (p := ⟨w.heap.size, 1, none⟩) (show w.heap.size < w.heap.size + 1 + 1 + 1 by omega) (.slice A9 qs.1.length c9))
        have hlt7 := HLT.out
        have HY2 : Aside0 (Ro k94 94 (w9.setCell ⟨w.heap.size, 1, none⟩ (.slice A9 qs.1.length c9)) w7.heap.size w9.heap.size (.slice A9 qs.1.length c9) qs.1) := ⟨(Ro.mk ⟨T, hg.r, fun k hk => ⟨by rw [HZ1.out]; exact (hg.q k hk).1, (hg.q k hk).2⟩⟩ : Ro k94 94 w9 w7.heap.size w9.heap.size _ _).far (show w.heap.size < w7.heap.size by omega) _⟩
        have HM2 : Aside0 (Ro (Kd.int .i64) 3 (w9.setCell ⟨w.heap.size, 1, none⟩ (.slice A9 qs.1.length c9)) w7.heap.size w9.heap.size (.slice B9 qs.2.1.length d9) qs.2.1) := ⟨(Ro.mk ⟨T2, hg.r2, fun k hk => ⟨by rw [HZ1.out]; exact (hg.q2 k hk).1, (hg.q2 k hk).2⟩⟩ : Ro (Kd.int .i64) 3 w9 w7.heap.size w9.heap.size _ _).far (show w.heap.size < w7.heap.size by omega) _⟩
        have HS10 : Aside0 (Stg w (w9.setCell ⟨w.heap.size, 1, none⟩ (.slice A9 qs.1.length c9)) b rows (.slice A7 ps.1.length c7) (.slice A9 qs.1.length c9) (.slice none 0 0)) := ⟨hs9.set 1 _ _ _ _ rfl⟩
        have HZ2 : Aside0 (w9.heap.size = (w9.setCell ⟨w.heap.size, 1, none⟩ (.slice A9 qs.1.length c9)).heap.size) := ⟨by simp [World.setCell]⟩
        have HLT2 := Aside0.mk hlt8
        clear hg hs9 hlt8 hlt7 HR1 HN1 HS8 HD HZ1 p0' p2 p3 f0' f2 f3
        have HEC := Aside0.mk (rrelocs_calls sort_holds HBB.out HL.out (by have := HRL.out; omega) HIN.out ps.1 (by have := HSI.out.2.2.1; have := HRL.out; omega) (fun x hx => (HSI.out.2.1 x hx).2.2.2.2.1) ps.2 (by have := HSI.out.2.2.2; have := HRL.out; omega) HSI.out.1 qs.2.1 (by have := HYI.out.2.2.2.2; omega) qs.2.2 A7 c7 A9 qs.1.length c9 none 0 0 B7 d7 B9 d9 _ HS10.out.rd HR2.out.reads.2.2 HN2.out.reads.2.2 HM2.out.reads.2.2)
        obtain ⟨q0, q1, q2, q3, g0, g1, g2, g3⟩ := HS10.out.at_
        have HQC := Aside0.mk (And.intro q0 (And.intro q1 q2))
        clear q3 g0 g1 g2 g3 HQC
        cases hq : relsR b rows ps.1 ps.2 qs.2.1 qs.2.2 with
        | none =>
          have HRS : Aside0 (readS b = .error 5) := ⟨readS_none HTB.out (by unfold bodyS; rw [HHD.out]; show (secsR b rows nm).bind _ = none; rw [HSQ.out]; show (symsR b rows ps.2).bind _ = none; rw [HYQ.out]; show (relsR b rows ps.1 ps.2 qs.2.1 qs.2.2).bind _ = none; rw [hq]; rfl)⟩
          have HD := Aside0.mk (HEC.out.mono (fun e w' hh => show e = wrongE 5 ∧ Below _ _ w' by unfold RelsRes at hh; rw [hq] at hh; exact hh))
          clear hq HEC
          go_wp2_with fail
          refine HD.out.mono ?_
          rintro e w11 ⟨rfl, hb11⟩
          refine leaves_cons (f := 29) (args := #[.pointer (some ⟨w.heap.size, 0, none⟩), .pointer (some ⟨w.heap.size + 1, 0, none⟩)]) (by simp) (by simp [go_sem]) ?_
          refine (Stg.dies (HS10.out.below hb11) 5).mono ?_
          rintro e u' wz ⟨rfl, rfl, hbz, z0, z1, z2, z3⟩
          have hfin := ReadRes.no HRS.out hbz
          clear hbz HRS
          simp [Leaves, settle, results, Try.results11, go_sem, z0, z1, z2, z3]
          exact hfin
        | some rs =>
          have HD := Aside0.mk (HEC.out.mono (fun e w' hh => show ∃ (v : Value) (S : Nat → Prop), e = .returned v ∧ Kd.R k59 59 w' 0 S v (byS ps.1.length rs) ∧ Below _ _ w' ∧ ∀ k, S k → _ ≤ k ∧ k < w'.heap.size by unfold RelsRes at hh; rw [hq] at hh; exact hh))
          have HEI := Aside0.mk (relsR_inv (n := qs.1.length) HBB.out HL.out HSI.out.1 HYI.out.1 hq)
          have HEQ := Aside0.mk hq
          clear hq HEC
          go_wp2_with fail
          refine HD.out.mono ?_
          rintro e w11 ⟨u, T, rfl, hg, hgb, hgq⟩
          obtain ⟨A11, c11, rfl⟩ := Kd.R_slice hg
          have hs11 := HS10.out.below hgb
          obtain ⟨q0', q1', p2, p3, f0', f1', f2, f3⟩ := hs11.at_
          have HR3 := Aside0.mk ((HR2.out.below hgb).far (p := ⟨w.heap.size, 2, none⟩) (show w.heap.size < w.heap.size + 1 + 1 + 1 by omega) (.slice A11 (byS ps.1.length rs).length c11))
          have hlt7 := HLT.out
          have hlt8 := HLT2.out
          have HY3 := Aside0.mk ((HY2.out.below hgb).far (p := ⟨w.heap.size, 2, none⟩) (show w.heap.size < w7.heap.size by omega) (.slice A11 (byS ps.1.length rs).length c11))
          have HE3 : Aside0 (Ro k59 59 (w11.setCell ⟨w.heap.size, 2, none⟩ (.slice A11 (byS ps.1.length rs).length c11)) w9.heap.size w11.heap.size (.slice A11 (byS ps.1.length rs).length c11) (byS ps.1.length rs)) := ⟨(Ro.mk ⟨T, hg, fun k hk => ⟨by rw [HZ2.out]; exact (hgq k hk).1, (hgq k hk).2⟩⟩ : Ro k59 59 w11 w9.heap.size w11.heap.size _ _).far (show w.heap.size < w9.heap.size by omega) _⟩
          have HS12 : Aside0 (Stg w (w11.setCell ⟨w.heap.size, 2, none⟩ (.slice A11 (byS ps.1.length rs).length c11)) b rows (.slice A7 ps.1.length c7) (.slice A9 qs.1.length c9) (.slice A11 (byS ps.1.length rs).length c11)) := ⟨hs11.set 2 _ _ _ _ rfl⟩
          have HLT3 : Aside0 (w9.heap.size ≤ (w11.setCell ⟨w.heap.size, 2, none⟩ (.slice A11 (byS ps.1.length rs).length c11)).heap.size) := ⟨by have := hgb.size; rw [← HZ2.out] at this; simpa [World.setCell] using this⟩
          have HRG := Aside0.mk (ObRg_read HSI.out.2.1 HYI.out.2.1 HEI.out.1 (by have := HSI.out.2.2.1; have := HRL.out; omega) (by have := HYI.out.2.2.2.1; omega) (by have := HEI.out.2; have := HRL.out; omega))
          have HLC := Aside0.mk (limits_calls HRG.out (w11.setCell ⟨w.heap.size, 2, none⟩ (.slice A11 (byS ps.1.length rs).length c11)) (A0 := A7) (A1 := A9) (A2 := A11) (c0 := c7) (c1 := c9) (c2 := c11) ⟨HR3.out.reads.2.2, HY3.out.reads.2.2, HE3.out.reads.2.2, HR3.out.reads.2.1, HY3.out.reads.2.1, HE3.out.reads.2.1⟩)
          clear hg hs11 hlt7 hlt8 HR2 HN2 HY2 HM2 HS10 HD HZ2 q0' q1' f0' f1' p3 f3 hgb hgq q0 q1 q2
          obtain ⟨q0, q1, q2, _⟩ := HS12.out.at_
          go_wp2_with fail
          refine HLC.out.mono ?_
          rintro e w13 ⟨r, rfl, hri, hb13⟩
          have HBD : Aside0 (bodyS b rows = some ⟨ps.1, qs.1, byS ps.1.length rs⟩) := ⟨by unfold bodyS; rw [HHD.out]; show (secsR b rows nm).bind _ = _; rw [HSQ.out]; show (symsR b rows ps.2).bind _ = _; rw [HYQ.out]; show (relsR b rows ps.1 ps.2 qs.2.1 qs.2.2).bind _ = _; rw [HEQ.out]; rfl⟩
          cases r with
          | false =>
            have HRS : Aside0 (readS b = .error 3) := ⟨by unfold readS; rw [HTB.out]; show (match bodyS b rows with | none => _ | some o => _) = _; rw [HBD.out]; exact if_neg (fun h => by have := hri.2 h; cases this)⟩
            have hs13 := HS12.out.below hb13
            have HS13 := Aside0.mk hs13
            clear hri hs13 HBD q0 q1 q2 p0 p1 p2 f0 f1 f2
            go_wp2_with fail
            refine (want_no 3 _).mono ?_
            rintro e w14 ⟨rfl, rfl⟩
            refine leaves_cons (f := 29) (args := #[.pointer (some ⟨w.heap.size, 0, none⟩), .pointer (some ⟨w.heap.size + 1, 0, none⟩)]) (by simp) (by simp [go_sem]) ?_
            refine (Stg.dies (HS13.out) 3).mono ?_
            rintro e u' wz ⟨rfl, rfl, hbz, z0, z1, z2, z3⟩
            have hfin := ReadRes.no HRS.out hbz
            clear hbz HRS
            simp [Leaves, settle, results, Try.results11, go_sem, z0, z1, z2, z3]
            exact hfin
          | true =>
            have HRS : Aside0 (readS b = .ok ⟨ps.1, qs.1, byS ps.1.length rs⟩) := ⟨by unfold readS; rw [HTB.out]; show (match bodyS b rows with | none => _ | some o => _) = _; rw [HBD.out]; exact if_pos (hri.1 rfl)⟩
            have HS13 := Aside0.mk (HS12.out.below hb13)
            have HR4 := Aside0.mk (HR3.out.below hb13)
            have HY4 := Aside0.mk (HY3.out.below hb13)
            have HE4 := Aside0.mk (HE3.out.below hb13)
            have HZ4 := hb13.size
            have HLT4 : Aside0 (w11.heap.size ≤ w13.heap.size) := ⟨by simpa [World.setCell] using HZ4⟩
            clear hri HBD q0 q1 q2 p0 p1 p2 f0 f1 f2 hb13 HS12 HR3 HY3 HE3 HLC HZ4
            go_wp2_with fail
            refine (want_yes 3 _).mono ?_
            rintro e w14 ⟨rfl, rfl⟩
            obtain ⟨q0, q1, q2, q3, f0, f1, f2, f3⟩ := HS13.out.at_
            go_wp2_with fail
            have HSF : Aside0 (Stg w ((((w13.setCell ⟨w.heap.size, 0, none⟩ (.slice A7 ps.1.length c7)).setCell ⟨w.heap.size, 1, none⟩ (.slice A9 qs.1.length c9)).setCell ⟨w.heap.size, 2, none⟩ (.slice A11 (byS ps.1.length rs).length c11)).setCell ⟨w.heap.size + 1, 0, none⟩ (.int .i64 0)) b rows (.slice A7 ps.1.length c7) (.slice A9 qs.1.length c9) (.slice A11 (byS ps.1.length rs).length c11)) := ⟨(((HS13.out.set 0 _ _ _ _ rfl).set 1 _ _ _ _ rfl).set 2 _ _ _ _ rfl).setq⟩
            have hlt7 := HLT.out
            have hlt8 := HLT2.out
            have HRF : Aside0 (Ro k40 40 ((((w13.setCell ⟨w.heap.size, 0, none⟩ (.slice A7 ps.1.length c7)).setCell ⟨w.heap.size, 1, none⟩ (.slice A9 qs.1.length c9)).setCell ⟨w.heap.size, 2, none⟩ (.slice A11 (byS ps.1.length rs).length c11)).setCell ⟨w.heap.size + 1, 0, none⟩ (.int .i64 0)) _ _ _ _) := ⟨(((HR4.out.far (p := ⟨w.heap.size, 0, none⟩) (show w.heap.size < w.heap.size + 1 + 1 + 1 by omega) _).far (p := ⟨w.heap.size, 1, none⟩) (show w.heap.size < w.heap.size + 1 + 1 + 1 by omega) _).far (p := ⟨w.heap.size, 2, none⟩) (show w.heap.size < w.heap.size + 1 + 1 + 1 by omega) _).far (p := ⟨w.heap.size + 1, 0, none⟩) (show w.heap.size + 1 < w.heap.size + 1 + 1 + 1 by omega) _⟩
            have HYF : Aside0 (Ro k94 94 ((((w13.setCell ⟨w.heap.size, 0, none⟩ (.slice A7 ps.1.length c7)).setCell ⟨w.heap.size, 1, none⟩ (.slice A9 qs.1.length c9)).setCell ⟨w.heap.size, 2, none⟩ (.slice A11 (byS ps.1.length rs).length c11)).setCell ⟨w.heap.size + 1, 0, none⟩ (.int .i64 0)) _ _ _ _) := ⟨(((HY4.out.far (p := ⟨w.heap.size, 0, none⟩) (show w.heap.size < w7.heap.size by omega) _).far (p := ⟨w.heap.size, 1, none⟩) (show w.heap.size < w7.heap.size by omega) _).far (p := ⟨w.heap.size, 2, none⟩) (show w.heap.size < w7.heap.size by omega) _).far (p := ⟨w.heap.size + 1, 0, none⟩) (show w.heap.size + 1 < w7.heap.size by omega) _⟩
            have HEF : Aside0 (Ro k59 59 ((((w13.setCell ⟨w.heap.size, 0, none⟩ (.slice A7 ps.1.length c7)).setCell ⟨w.heap.size, 1, none⟩ (.slice A9 qs.1.length c9)).setCell ⟨w.heap.size, 2, none⟩ (.slice A11 (byS ps.1.length rs).length c11)).setCell ⟨w.heap.size + 1, 0, none⟩ (.int .i64 0)) _ _ _ _) := ⟨(((HE4.out.far (p := ⟨w.heap.size, 0, none⟩) (show w.heap.size < w9.heap.size by omega) _).far (p := ⟨w.heap.size, 1, none⟩) (show w.heap.size < w9.heap.size by omega) _).far (p := ⟨w.heap.size, 2, none⟩) (show w.heap.size < w9.heap.size by omega) _).far (p := ⟨w.heap.size + 1, 0, none⟩) (show w.heap.size + 1 < w9.heap.size by omega) _⟩
            have HZF : Aside0 (w11.heap.size ≤ ((((w13.setCell ⟨w.heap.size, 0, none⟩ (.slice A7 ps.1.length c7)).setCell ⟨w.heap.size, 1, none⟩ (.slice A9 qs.1.length c9)).setCell ⟨w.heap.size, 2, none⟩ (.slice A11 (byS ps.1.length rs).length c11)).setCell ⟨w.heap.size + 1, 0, none⟩ (.int .i64 0)).heap.size) := ⟨by simpa [World.setCell] using HLT4.out⟩
            have HLT5 : Aside0 (w9.heap.size ≤ w11.heap.size) := ⟨by have := HLT3.out; simpa [World.setCell] using this⟩
            generalize ((((w13.setCell ⟨w.heap.size, 0, none⟩ (.slice A7 ps.1.length c7)).setCell ⟨w.heap.size, 1, none⟩ (.slice A9 qs.1.length c9)).setCell ⟨w.heap.size, 2, none⟩ (.slice A11 (byS ps.1.length rs).length c11)).setCell ⟨w.heap.size + 1, 0, none⟩ (.int .i64 0)) = wf at *
            obtain ⟨z0, z1, z2, z3, _⟩ := HSF.out.at_
            refine leaves_cons (f := 29) (args := #[.pointer (some ⟨w.heap.size, 0, none⟩), .pointer (some ⟨w.heap.size + 1, 0, none⟩)]) (by simp) (by simp [go_sem]) ?_
            refine (rec_idle _ _ _).mono ?_
            rintro e u' wz ⟨rfl, rfl, rfl⟩
            have hfin : ReadRes b w (.returned (.tuple #[.agg #[.slice A7 ps.1.length c7, .slice A9 qs.1.length c9, .slice A11 (byS ps.1.length rs).length c11], .int .i64 0])) wz := by
              obtain ⟨T0, t0, t1⟩ := HRF.out.r
              obtain ⟨T1, u0, u1⟩ := HYF.out.r
              obtain ⟨T2, v0, v1⟩ := HEF.out.r
              have k1 := HZF.out
              have k2 := HLT5.out
              unfold ReadRes
              rw [HRS.out]
              refine ⟨T0, T1, T2, _, _, _, rfl, HSF.out.bl, t0, u0, v0, fun k hk => ?_, fun k hk => ⟨fun hk2 => ?_, fun hk2 => ?_⟩, fun k hk hk2 => ?_⟩
              · rcases hk with hk | hk | hk
                · have := t1 k hk; omega
                · have := u1 k hk; omega
                · have := v1 k hk; omega
              · have := t1 k hk; have := u1 k hk2; omega
              · have := t1 k hk; have := v1 k hk2; omega
              · have := u1 k hk; have := v1 k hk2; omega
            clear HRF HYF HEF HSF HRS HZF HS13 HR4 HY4 HE4 q0 q1 q2 q3 f0 f1 f2 f3
            simp [Leaves, settle, results, Try.results11, go_sem, z0, z1, z2, z3]
            exact hfin
theorem Read_calls (A : Option Addr) (c : Nat) (b : List Int) (hb : AllBytes b) (hl : b.length < 140737488355328) (w : World) (h : Kd.C (Kd.int .u8) w A b.length b) (hc : b.length ≤ c) :
    Calls Try.prog 11 #[.slice A b.length c] w fun e w' => ReadRes b w e w' := by
  cases hr : tabS b with
  | error er => exact Read_tab A c b hb hl er hr w h hc
  | ok rows => exact Read_rows A c b hb rows hr w h hc
end Go.Proofs.Ytockojajbnnbpaa.E
namespace Go.Proofs.Ytockojajbnnbpaa.E
open Go.RowKit Go.Proofs.Ytockojajbnnbpaa.Q Go.Proofs.YtockojajbnnbpaaW.PrintWords Go.Proofs.YtockojajbnnbpaaW.PrintLast Go.Proofs.YtockojajbnnbpaaW.PrintMore
set_option linter.unusedVariables false
set_option linter.unusedSimpArgs false
theorem cntE2_is (n : Nat) (h0 : 1 ≤ n) (h1 : n < 65536) : bits .or .u32 ((n : Int) % 4294967296) (((n : Int) - 1) % 4294967296 * 65536 % 4294967296) = (n : Int) + 65536 * ((n : Int) - 1) := by
  rw [show ((n : Int) - 1) % 4294967296 * 65536 % 4294967296 = 65536 * ((n : Int) - 1) by omega, show (n : Int) % 4294967296 = n by omega]
  exact or_lo 16 _ _ (by omega) (by omega) (by omega) (by omega) (by omega) (by omega)
theorem info5s : (Try.prog.info? 5).map (·.size) = some 1 := by kernel_rfl
theorem relE2_is (y2 y3 : Int) (a0 : 0 ≤ y2) (a1 : y2 ≤ 255) (b0 : -1 ≤ y3) (b1 : y3 < 512) : bits .or .u32 (wrap64 (y3 + 1) % 4294967296 * 256 % 4294967296) (y2 % 4294967296) = 256 * (y3 + 1) + y2 := by
  have h := relE_is y2 y3 a0 a1 b0 b1
  rw [u32w, u32w] at h
  exact h
theorem keepA6 {W W2 : World} {p : Nat} {v0 v1 v2 v3 v4 v5 : Value} (hb : p < W.heap.size → W2.heap[p]? = W.heap[p]?) (h : W.cell? ⟨p, 0, none⟩ = some v0 ∧ W.cell? ⟨p, 1, none⟩ = some v1 ∧ W.cell? ⟨p, 2, none⟩ = some v2 ∧ W.cell? ⟨p, 3, none⟩ = some v3 ∧ W.cell? ⟨p, 4, none⟩ = some v4 ∧ W.cell? ⟨p, 5, none⟩ = some v5) :
    W2.cell? ⟨p, 0, none⟩ = some v0 ∧ W2.cell? ⟨p, 1, none⟩ = some v1 ∧ W2.cell? ⟨p, 2, none⟩ = some v2 ∧ W2.cell? ⟨p, 3, none⟩ = some v3 ∧ W2.cell? ⟨p, 4, none⟩ = some v4 ∧ W2.cell? ⟨p, 5, none⟩ = some v5 := by
  obtain ⟨h0, h1, h2, h3, h4, h5⟩ := h
  have hc : ∀ i u, W.cell? ⟨p, i, none⟩ = some u → W2.cell? ⟨p, i, none⟩ = some u := fun i u hu => (World.cell?_of_block (a := ⟨p, i, none⟩) (hb (World.block_lt_of_cell? _ _ h0))).trans hu
  exact ⟨hc _ _ h0, hc _ _ h1, hc _ _ h2, hc _ _ h3, hc _ _ h4, hc _ _ h5⟩
theorem Mst.of_pst {w0 wa W : World} {p0 : Nat} {A0 A1 A2 : Option Addr} {c0 c1 c2 : Nat} {o : Ob} {S1 S2 S3 : Nat → Prop} {gw gn go : Nat} {s : Wst} {names own : List Int} (h : Mst w0 p0 A0 A1 A2 c0 c1 c2 o wa) (p : Pst wa W S1 S2 S3 gw gn go s names own) : Mst w0 p0 A0 A1 A2 c0 c1 c2 o W := h.below p.t.b
set_option maxRecDepth 100000 in
set_option maxHeartbeats 32000000 in
theorem Put_calls {A0 A1 A2 : Option Addr} {c0 c1 c2 : Nat} {o : Ob} (hg : ObRg o) (w : World) (h : ObC w A0 A1 A2 c0 c1 c2 o) :
    Calls Try.prog 9 #[obV A0 A1 A2 c0 c1 c2 o] w fun e w' => ∃ v L er, e = .returned (.tuple #[v, .int .i64 er]) ∧ (MayP o → L = putS o ∧ er = 0) ∧ (¬ MayP o → L = [] ∧ er = 2) ∧ Kd.R (Kd.int .u8) 5 w' w.heap.size (fun _ => True) v L ∧ Below w.heap.size w w' := by
  have hu26 := Try.underlying26
  have hu40 := Try.underlying40
  have hu59 := Try.underlying59
  have hu47 := Try.underlying47
  have hu50 := Try.underlying50
  have hu53 := Try.underlying53
  have HG := Aside0.mk hg
  have HM := Aside0.mk (Mst.init w h)
  clear h hg
  unfold obV
  go_enter Try.func9, Try.ntmps9
  go_wp2_with fail
  generalize (w.alloc (.cells #[.slice A0 o.secs.length c0, .slice A1 o.syms.length c1, .slice A2 o.rels.length c2] 26)) = wb at *
  obtain ⟨p0, hp0⟩ : ∃ p, p = w.heap.size := ⟨_, rfl⟩
  rw [← hp0] at HM ⊢
  clear hp0
  refine (may_calls HG.out _ HM.out.c).mono ?_
  rintro e wa ⟨r, rfl, hr, hb⟩
  replace HM := Aside0.mk (HM.out.below hb)
  have HR := Aside0.mk hr
  clear hb hr
  cases r with
  | false =>
    have HNO : Aside0 (¬ MayP o) := ⟨fun h => absurd (HR.out.2 h) (by decide)⟩
    clear HR
    go_wp2
    go_ret2
    exact ⟨_, [], 2, rfl, fun h => absurd h HNO.out, fun _ => ⟨rfl, rfl⟩, Kd.R_nil _ _ _ _ _, HM.out.b⟩
  | true =>
    have HMAY := Aside0.mk (HR.out.1 rfl)
    clear HR
    have k0 := HM.out.k0
    have HA := Aside0.mk HM
    go_wp2_with (first | ((with_reducible refine gate_dst (N := 26) rfl ?_); refine ev_make rfl (N := 26) rfl _ _ rfl 52 rfl rfl (by decide) ?_; intro L0 A7 c7 w1 hL0 hr0 hb0; have HL0 := hL0; have HI0 := Aside0.mk (Pst.init hb0 hr0); clear hL0 hr0 hb0) | ((with_reducible refine gate_dst (N := 36) rfl ?_); refine ev_box rfl (N := 36) rfl (cs := #[.slice (some ⟨w1.heap.size + 4, 0, none⟩) 1 1]) (t := 53) ?hr ?_; (case hr => first | (go_simp; done) | (go_simp; rfl)); intro gy w2 hgy hw2; obtain ⟨S1, S2, S3, hI⟩ := HI0.out; have hgy2 : gy = w1.heap.size + 5 := (by rw [hgy]; simp); have hI2 : Pst wa w2 S1 S2 S3 (w1.heap.size + 1) (w1.heap.size + 1 + 1 + 1) gy ⟨L0, [z47]⟩ [0] [0] := (by rw [hw2, hgy2]; exact hI); have k0' := (HM.out.of_pst hI2).k0; have HI := Aside0.mk hI2; clear HI0 hI hI2 hgy hw2 hgy2))
    clear k0 k0' HA
    generalize w1.heap.size + 1 + 1 + 1 = gn at *
    generalize w1.heap.size + 1 = gw at *
    have HF0 : Aside0 (∃ S1 S2 S3, Pst wa w2 S1 S2 S3 gw gn gy ((o.secs.take 0).foldl secStep (⟨L0, [z47]⟩, [0])).1 ((o.secs.take 0).foldl secStep (⟨L0, [z47]⟩, [0])).2 [0]) := ⟨⟨S1, S2, S3, HI.out⟩⟩
    have hl0 : L0.length = 52 := by rw [HL0.out]; simp
    have HL52 := Aside0.mk hl0
    clear HI hl0
    go_loopg [40] (o.secs.length + 1) (fun kq v40 w' => ∃ (i : Nat), v40 = .int .i64 (i : Int) ∧ Aside0 (i + kq = o.secs.length + 1) ∧ Aside0 (i ≤ o.secs.length) ∧ Aside0 (∃ S1 S2 S3, Pst wa w' S1 S2 S3 gw gn gy ((o.secs.take i).foldl secStep (⟨L0, [z47]⟩, [0])).1 ((o.secs.take i).foldl secStep (⟨L0, [z47]⟩, [0])).2 [0]))
    case atStart => exact ⟨0, rfl, ⟨by omega⟩, ⟨by omega⟩, HF0⟩
    case round =>
      clear HF0
      obtain ⟨i, rfl, HK, HI, HP⟩ := hrel
      by_cases ci : i < o.secs.length
      · cases gk with
        | zero => exact absurd HK.out (by have := HI.out; omega)
        | succ gk =>
          obtain ⟨S1, S2, S3, hp⟩ := HP.out
          have hm := HM.out.of_pst hp
          obtain ⟨ad, A5, c5, ea, x0, x1, x2, x3, x4, x5, l5, g5⟩ := at_T40 HM.out.c.r0 (i : Int) (by omega) (by omega)
          cases ea
          rw [Int.toNat_natCast] at x0 x1 x2 x3 x4 x5
          replace x0 := (hp.t.b.cell (World.block_lt_of_cell? wa _ x0)).trans x0
          replace x1 := (hp.t.b.cell (World.block_lt_of_cell? wa _ x1)).trans x1
          replace x2 := (hp.t.b.cell (World.block_lt_of_cell? wa _ x2)).trans x2
          replace x3 := (hp.t.b.cell (World.block_lt_of_cell? wa _ x3)).trans x3
          replace x4 := (hp.t.b.cell (World.block_lt_of_cell? wa _ x4)).trans x4
          replace x5 := (hp.t.b.cell (World.block_lt_of_cell? wa _ x5)).trans x5
          have hmem := rd40_mem o.secs i ci
          have hst := secStep_at o.secs i ci (⟨L0, [z47]⟩, [0])
          have hsl := st1_len (o.secs.take i) (⟨L0, [z47]⟩, [0]) (fun x hx => by
            have hx2 := HMAY.out.2.1 x (List.mem_of_mem_take hx)
            have hx3 := HG.out.secs x (List.mem_of_mem_take hx)
            refine ⟨?_, hx2.1.2⟩
            rcases hx2.2.2.2 with h1 | h1
            · have := hx3.2.2.2.2.1.2; omega
            · rw [h1.2]; simp)
          have hsx := HMAY.out.2.1 _ hmem
          have hrx := HG.out.secs _ hmem
          have hi64 := HMAY.out.1.1
          rw [List.length_take, Nat.min_eq_left (by omega)] at hsl
          generalize rd_T40 o.secs (i : Int) = x at x0 x1 x2 x3 x4 x5 l5 g5 hst hsx hrx hmem
          generalize (o.secs.take i).foldl secStep (⟨L0, [z47]⟩, [0]) = F at *
          have hl0 := HL52.out
          have hbd : Aside0 (F.1.b.length ≤ 300000000000 ∧ F.1.rows.length ≤ 65 ∧ 0 < F.2.length ∧ F.2.length ≤ 5000 ∧ x.f0.size ≤ 64 ∧ x.f5.length < 4294967296) := ⟨by
            simp only [List.length_singleton] at hsl
            have h6 := hsx.1.2
            have h7 : x.f5.length < 4294967296 := by
              rcases hsx.2.2.2 with h1 | h1
              · have := hrx.2.2.2.2.1.2; omega
              · rw [h1.2]; simp
            omega⟩
          have HST := Aside0.mk hst
          have HI2 := Aside0.mk ci
          have HPP := Aside0.mk hp
          have G5 := Aside0.mk g5
          have p1 : ((i : Int) < (o.secs.length : Int)) = True := eq_true (by omega)
          have p2 : (i < o.secs.length) = True := eq_true ci
          have p3 : 0 ≤ (i : Int) := by omega
          have hw := w64s i (by omega)
          have hsz := hp.t.b.size
          have NP1 : ¬ S1 wr.heap.size := fun h => Nat.lt_irrefl _ (hp.t.q1 _ h).2
          have NP2 : ¬ S2 wr.heap.size := fun h => Nat.lt_irrefl _ (hp.t.q2 _ h).2
          clear hst ci hp hm g5 l5 hmem hsl hsx hrx hi64 hl0 HP HI
          obtain ⟨y0, y1, y2, y3, y4, y5⟩ := x
          simp only at x0 x1 x2 x3 x4 x5
          go_wp2
          have HB := Aside0.mk (heap_alloc_new wr (.cells #[.string y0, .int .u32 y1, .int .u32 y2, .int .u32 y3, .int .u32 y4, .slice A5 y5.length c5] 40))
          have hal := below_alloc (Below.refl wr.heap.size wr) (.cells #[.string y0, .int .u32 y1, .int .u32 y2, .int .u32 y3, .int .u32 y4, .slice A5 y5.length c5] 40)
          have hpd := HPP.out.below (below_drew hal)
          clear x0 x1 x2 x3 x4 x5 hal HPP hsz
          generalize (wr.alloc (.cells #[.string y0, .int .u32 y1, .int .u32 y2, .int .u32 y3, .int .u32 y4, .slice A5 y5.length c5] 40)) = w3 at *
          generalize wr.heap.size = p at *
          have hs : w3.cell? ⟨p, 0, none⟩ = some (.string y0) ∧ w3.cell? ⟨p, 1, none⟩ = some (.int .u32 y1) ∧ w3.cell? ⟨p, 2, none⟩ = some (.int .u32 y2) ∧ w3.cell? ⟨p, 3, none⟩ = some (.int .u32 y3) ∧ w3.cell? ⟨p, 4, none⟩ = some (.int .u32 y4) ∧ w3.cell? ⟨p, 5, none⟩ = some (.slice A5 y5.length c5) :=
            ⟨(blk_cell HB.out 0).trans rfl, (blk_cell HB.out 1).trans rfl, (blk_cell HB.out 2).trans rfl, (blk_cell HB.out 3).trans rfl, (blk_cell HB.out 4).trans rfl, (blk_cell HB.out 5).trans rfl⟩
          clear HB
          go_region_held3 (fun w' => w'.cell? ⟨p, 0, none⟩ = some (.string y0) ∧ w'.cell? ⟨p, 1, none⟩ = some (.int .u32 y1) ∧ w'.cell? ⟨p, 2, none⟩ = some (.int .u32 y2) ∧ w'.cell? ⟨p, 3, none⟩ = some (.int .u32 y3) ∧ w'.cell? ⟨p, 4, none⟩ = some (.int .u32 y4) ∧ w'.cell? ⟨p, 5, none⟩ = some (.slice A5 y5.length c5)) (first | with_reducible assumption | (with_reducible refine keepA6 keepD ?_; with_reducible assumption) | (with_reducible refine keepA6 (keepA _) ?_; with_reducible assumption) | (with_reducible exact keepA6 (keepF (by with_reducible assumption) (by with_reducible assumption)) (by with_reducible assumption))) (first | (go_at_call 24; ((with_reducible refine (addN_ps y0 (by with_reducible assumption) hbd.out.2.2.1 (by have := hbd.out; omega)).mono ?_)); rintro e w' ⟨rfl, S2', hy', hf'⟩; have hC := Kd.C_below G5.out hy'.t.b) | (go_at_call 23; ((with_reducible refine (part_pr (addS F.2 y0).1 y1 y2 0 0 y4 0 0 y3 0 y5 (by with_reducible assumption) (by with_reducible assumption) (by have := hbd.out; omega) (by have := hbd.out; omega)).mono ?_)); rintro e w' ⟨rfl, S1', hyw, hf'⟩))
          have HE := Aside0.mk hyw
          go_wp2
          go_roundg gk
          case measure => omega
          case rel => exact ⟨i + 1, (by first | exact congrArg (Value.int .i64) hw | (simp; done)), ⟨by have := HK.out; omega⟩, ⟨HI2.out⟩, ⟨_, _, _, by rw [HST.out]; exact HE.out⟩⟩
      · have hi : i = o.secs.length := by have := HI.out; omega
        subst hi
        rw [List.take_length] at HP
        have HP1 : Aside0 (∃ S1 S2 S3, Pst wa wr S1 S2 S3 gw gn gy (st1 o).1 (st1 o).2 [0]) := ⟨by rw [HL0.out] at HP; exact HP.out⟩
        have HS1 : Aside0 ((st1 o).1.b.length ≤ 300000000000 ∧ (st1 o).1.rows.length = 1 + o.secs.length ∧ 0 < (st1 o).2.length ∧ (st1 o).2.length ≤ 5000) := ⟨by
          have hsl := st1_len o.secs (⟨List.replicate 52 0, [z47]⟩, [0]) (fun x hx => by
            have hx2 := HMAY.out.2.1 x hx
            have hx3 := HG.out.secs x hx
            refine ⟨?_, hx2.1.2⟩
            rcases hx2.2.2.2 with h1 | h1
            · have := hx3.2.2.2.2.1.2; omega
            · rw [h1.2]; simp)
          have hi64 := HMAY.out.1.1
          simp only [List.length_singleton, List.length_replicate] at hsl
          unfold st1
          omega⟩
        obtain ⟨S1, S2, S3, hp⟩ := HP1.out
        have hm := HM.out.of_pst hp
        have k1 := hm.k1
        have HPP := Aside0.mk hp
        clear HP HP1 hp hm HI HK ci HL52
        go_wp2_with fail
        clear k1
        refine (symbols_calls (A := A1) (c := c1) (S := S3) o.syms _ HPP.out.y (HM.out.of_pst HPP.out).c.r1 (fun hl ad e hS => by
          have h1 := C_old (by decide) HM.out.c.r1 hl ad e
          have h2 := (HPP.out.t.q3 _ hS).1
          omega) (fun x hx => by
          obtain ⟨j, hjx⟩ := List.mem_iff_getElem?.1 hx
          have hj := (List.getElem?_eq_some_iff.1 hjx).1
          have h1 := (HMAY.out.2.2.1 j hj x hjx).1
          exact ⟨(HG.out.syms x hx).1, h1.1.2, h1.2.1, h1.2.2.1, h1.2.2.2.1, by have h2 := h1.2.2.2.2; have h3 := HMAY.out.1.1; omega⟩) HMAY.out.1.2.1).mono ?_
        rintro e w4 ⟨v, Sb, S3', rfl, hRb, hTy, hTwo⟩
        have HPP2 := Aside0.mk (HPP.out.setY hTy hTwo.ow)
        have HSB : Aside0 (∀ k, Sb k → ¬ S1 k) := ⟨fun k hk h1 => by have := (hTwo.n1 k hk).1; have := (HPP.out.t.q1 k h1).2; omega⟩
        obtain ⟨Ab, cb, rfl⟩ := Kd.R_slice hRb
        obtain ⟨_, _, eb, _, hCb⟩ := Kd.R_reads hRb
        injection eb with eb1 eb2 eb3
        subst eb1
        have HCB := Aside0.mk hCb
        have HYL : Aside0 ((yst o).b.length ≤ 10000 ∧ (yst o).own.length ≤ 40000) := ⟨by
          have h1 := symB_len o.syms ⟨List.replicate 16 0, [0], 1⟩
          have h2 := symO_len o.syms (fun x hx => by
            obtain ⟨j, hjx⟩ := List.mem_iff_getElem?.1 hx
            have hj := (List.getElem?_eq_some_iff.1 hjx).1
            exact (HMAY.out.2.2.1 j hj x hjx).1.1.2) ⟨List.replicate 16 0, [0], 1⟩
          have h3 := HMAY.out.1.2.1
          unfold yst
          simp only [List.length_replicate, List.length_singleton] at h1 h2
          omega⟩
        rw [show o.syms.foldl symStep ⟨List.replicate 16 0, [0], 1⟩ = yst o from rfl] at HPP2 HCB ⊢
        clear HPP hTy hTwo hRb hCb eb2 eb3
        obtain ⟨vb, vr, hV⟩ := HPP2.out.w
        obtain ⟨Ar, cr, rfl⟩ := Kd.R_slice hV.rr
        have hc1 := hV.at1.1
        clear hV
        go_wp2_with fail
        have HAT1 : ((st1 o).1.rows.length : Int) % 4294967296 = atS o := by have := HS1.out; have := HMAY.out.1.1; unfold atS; omega
        have HAT2 : (((st1 o).1.rows.length : Int) + 1) % 4294967296 = atS o + 1 := by have := HS1.out; have := HMAY.out.1.1; unfold atS; omega
        rw [HAT1, HAT2]
        clear hc1 HAT1 HAT2
        refine (part_pr 0 2 0 0 0 0 (atS o + 1) (yst o).loc 4 16 (yst o).b HPP2.out HCB.out (by have := HS1.out; have := HYL.out; omega) (by have := HS1.out; have := HMAY.out.1.1; omega)).mono ?_
        rintro e w5 ⟨rfl, S1', hp5, hf5⟩
        have HS2 : Aside0 ((st2 o).b.length ≤ 300000020000 ∧ (st2 o).rows.length = 2 + o.secs.length) := ⟨by
          have h1 := partS_len (st1 o).1 ⟨0, 2, 0, 0, 0, 0, atS o + 1, (yst o).loc, 4, 16⟩ (yst o).b
          have := HS1.out; have := HYL.out; unfold st2; omega⟩
        change Pst wa w5 S1' S2 S3' gw gn gy (st2 o) (st1 o).2 (yst o).own at hp5
        have HP5 := Aside0.mk hp5
        obtain ⟨vy, hY⟩ := hp5.y
        obtain ⟨Ay, cy, rfl⟩ := Kd.R_slice hY.rb
        obtain ⟨_, _, eb, _, hCy⟩ := Kd.R_reads hY.rb
        injection eb with eb1 eb2 eb3
        subst eb1
        have hc0 := hY.at0.1
        have HCY := Aside0.mk hCy
        clear hp5 hf5 hY hCy eb2 eb3 HPP2 HCB HSB
        go_wp2_with fail
        clear hc0
        refine (part_pr 0 3 0 0 0 0 0 0 1 0 (yst o).own HP5.out HCY.out (by have := HS2.out; have := HYL.out; omega) (by have := HS2.out; have := HMAY.out.1.1; omega)).mono ?_
        rintro e w6 ⟨rfl, S1, hp6, hf6⟩
        have HS3 : Aside0 ((st3 o).b.length ≤ 300000070000 ∧ (st3 o).rows.length = 3 + o.secs.length) := ⟨by
          have h1 := partS_len (st2 o) ⟨0, 3, 0, 0, 0, 0, 0, 0, 1, 0⟩ (yst o).own
          have := HS2.out; have := HYL.out; unfold st3; omega⟩
        change Pst wa w6 S1 S2 S3' gw gn gy (st3 o) (st1 o).2 (yst o).own at hp6
        have HP6 : Aside0 (∃ S1 S2 S3, Pst wa w6 S1 S2 S3 gw gn gy ((List.range 0).foldl (relStep o.rels (atS o)) (st3 o)) (st1 o).2 (yst o).own) := ⟨⟨_, _, _, hp6⟩⟩
        have k0 := (HM.out.of_pst hp6).k0
        clear hp6 hf6 HP5 HCY
        go_wp2_with fail
        clear k0
        go_loopg [92] (o.secs.length + 1) (fun kq v92 w' => ∃ (i : Nat), v92 = .int .i64 (i : Int) ∧ Aside0 (i + kq = o.secs.length + 1) ∧ Aside0 (i ≤ o.secs.length) ∧ Aside0 (∃ S1 S2 S3, Pst wa w' S1 S2 S3 gw gn gy ((List.range i).foldl (relStep o.rels (atS o)) (st3 o)) (st1 o).2 (yst o).own))
        case atStart => exact ⟨0, rfl, ⟨by omega⟩, ⟨by omega⟩, HP6⟩
        case round =>
          clear HP6
          obtain ⟨i, rfl, HK, HI, HP⟩ := hrel
          by_cases ci : i < o.secs.length
          · cases gk with
            | zero => exact absurd HK.out (by have := HI.out; omega)
            | succ gq =>
              obtain ⟨S1, S2, S3, hp⟩ := HP.out
              have hfl := relF_len o.rels (atS o) (st3 o) HMAY.out.1.2.2.1 i
              have hfs := relF_snoc o.rels (atS o) (st3 o) i
              generalize (List.range i).foldl (relStep o.rels (atS o)) (st3 o) = F at *
              have HFL : Aside0 (F.b.length ≤ 400000000000 ∧ F.rows.length ≤ 1000) := ⟨by have := HS3.out; have := HMAY.out.1.1; omega⟩
              have HFS := Aside0.mk hfs
              have HI2 := Aside0.mk ci
              have p1 : ((i : Int) < (o.secs.length : Int)) = True := eq_true (by omega)
              have p2 : (i < o.secs.length) = True := eq_true ci
              have p3 : 0 ≤ (i : Int) := by omega
              have hw := w64s i (by have := HMAY.out.1.1; omega)
              have HX0 : Aside0 (∃ Sx, Xst wa (wr.alloc (.cells #[.slice none 0 0, .slice none 0 0] 50)) wr.heap.size S1 S2 S3 Sx gw gn gy wr.heap.size F (st1 o).2 (yst o).own (relB (o.rels.take 0) (i : Int))) := ⟨_, Xst.init hp⟩
              have ka2 : (wr.alloc (.cells #[.slice none 0 0, .slice none 0 0] 50)).cell? ⟨p0, 2, none⟩ = some (.slice A2 o.rels.length c2) := by
                obtain ⟨Sx, hx⟩ := HX0.out
                exact (HM.out.of_pst hx.p).k2
              clear hp hfl hfs ci HP HI
              go_wp2_with fail
              clear ka2
              generalize (wr.alloc (.cells #[.slice none 0 0, .slice none 0 0] 50)) = w7 at *
              generalize wr.heap.size = gx at *
              go_loopg [100] (o.rels.length + 1) (fun kq v100 w' => ∃ (j : Nat), v100 = .int .i64 (j : Int) ∧ Aside0 (j + kq = o.rels.length + 1) ∧ Aside0 (j ≤ o.rels.length) ∧ Aside0 (∃ Sx, Xst wa w' gx S1 S2 S3 Sx gw gn gy gx F (st1 o).2 (yst o).own (relB (o.rels.take j) (i : Int))))
              case atStart => exact ⟨0, rfl, ⟨by omega⟩, ⟨by omega⟩, HX0⟩
              case round =>
                clear HX0
                obtain ⟨j, rfl, HKJ, HJ, HX⟩ := hrel
                by_cases cj : j < o.rels.length
                · cases gk with
                  | zero => exact absurd HKJ.out (by have := HJ.out; omega)
                  | succ gk =>
                    obtain ⟨Sx, hx⟩ := HX.out
                    obtain ⟨ad, ea, x0, x1, x2, x3, x4⟩ := at_T59 HM.out.c.r2 (j : Int) (by omega) (by omega)
                    cases ea
                    rw [Int.toNat_natCast] at x0 x1 x2 x3 x4
                    replace x0 := (hx.p.t.b.cell (World.block_lt_of_cell? wa _ x0)).trans x0
                    replace x1 := (hx.p.t.b.cell (World.block_lt_of_cell? wa _ x1)).trans x1
                    replace x2 := (hx.p.t.b.cell (World.block_lt_of_cell? wa _ x2)).trans x2
                    replace x3 := (hx.p.t.b.cell (World.block_lt_of_cell? wa _ x3)).trans x3
                    replace x4 := (hx.p.t.b.cell (World.block_lt_of_cell? wa _ x4)).trans x4
                    have hq := rd59_get o.rels j cj
                    have hsn := relB_snoc o.rels j cj (i : Int) _ hq
                    have hmy := HMAY.out.2.2.2 j cj _ hq
                    have hrg := HG.out.rels _ (List.mem_of_getElem? hq)
                    have hbl := relB_len (o.rels.take j) (i : Int)
                    rw [List.length_take] at hbl
                    generalize rd_T59 o.rels (j : Int) = y at x0 x1 x2 x3 x4 hq hsn hmy hrg
                    generalize relB (o.rels.take j) (i : Int) = R at *
                    have HMY := Aside0.mk (And.intro hmy.2.2.1 (And.intro hmy.2.2.2.1 (And.intro hrg.1 hrg.2.1)))
                    have HSN := Aside0.mk hsn
                    have HJ2 := Aside0.mk cj
                    have HRL : Aside0 (R.length < 100000) := ⟨by have := HMAY.out.1.2.2.1; omega⟩
                    have q1 : ((j : Int) < (o.rels.length : Int)) = True := eq_true (by omega)
                    have q2 : (j < o.rels.length) = True := eq_true cj
                    have q3 : 0 ≤ (j : Int) := by omega
                    have hwj := w64s j (by have := HMAY.out.1.2.2.1; omega)
                    clear hq hsn hmy hrg hbl cj HJ HX
                    obtain ⟨y0, y1, y2, y3, y4⟩ := y
                    simp only at x0 x1 x2 x3 x4
                    have HXA := Aside0.mk (hx.below (below_alloc (Below.refl wr.heap.size wr) (.cells #[.int .i64 y0, .int .u32 y1, .int .u8 y2, .int .i64 y3, .int .i32 y4] 59)))
                    clear hx
                    by_cases e0 : y0 = (i : Int)
                    · subst e0
                      have HE := Aside0.mk (relE2_is y2 y3 HMY.out.2.2.2.1 HMY.out.2.2.2.2 HMY.out.1 (by have h1 : y3 < (o.syms.length : Int) := HMY.out.2.1; have h2 := HMAY.out.1.2.1; omega))
                      go_wp2_with fail
                      obtain ⟨Sx2, hxa⟩ : ∃ Sx, Xst wa (wr.alloc (.cells #[.int .i64 (i : Int), .int .u32 y1, .int .u8 y2, .int .i64 y3, .int .i32 y4] 59)) gx S1 S2 S3 Sx gw gn gy gx F (st1 o).2 (yst o).own R := ⟨_, HXA.out⟩
                      have hcall := word_xs y1 (256 * (y3 + 1) + y2) (y4 % 4294967296) y1 _ _ rfl HE.out rfl hxa HMY.out.2.2.1 (by have h1 : y3 < (o.syms.length : Int) := HMY.out.2.1; have h2 := HMAY.out.1.2.1; have h3 : -1 ≤ y3 := HMY.out.1; have h4 : 0 ≤ y2 ∧ y2 ≤ 255 := HMY.out.2.2.2; omega) (by omega) (by have := HRL.out; omega)
                      rw [show (wr.alloc (.cells #[.int .i64 (i : Int), .int .u32 y1, .int .u8 y2, .int .i64 y3, .int .i32 y4] 59)).heap.size = wr.heap.size + 1 by simp] at hcall
                      clear x0 x1 x2 x3 x4 hxa HXA
                      refine hcall.mono ?_
                      clear hcall
                      rintro e w9 ⟨rfl, Sx3, hx3⟩
                      have HX3 := Aside0.mk hx3
                      clear hx3
                      go_wp2
                      go_roundg gk
                      case measure => omega
                      case rel => exact ⟨j + 1, (by first | exact congrArg (Value.int .i64) hwj | (simp; done)), ⟨by have := HKJ.out; omega⟩, ⟨HJ2.out⟩, ⟨_, by rw [HSN.out]; first | (rw [if_pos rfl]; exact HX3.out) | (rw [if_pos trivial]; exact HX3.out)⟩⟩
                    · have f0 : (y0 == (i : Int)) = false := by simpa using e0
                      go_wp2
                      go_roundg gk
                      case measure => omega
                      case rel => exact ⟨j + 1, (by first | exact congrArg (Value.int .i64) hwj | (simp; done)), ⟨by have := HKJ.out; omega⟩, ⟨HJ2.out⟩, ⟨_, by rw [HSN.out, if_neg e0, List.append_nil]; exact HXA.out⟩⟩
                · have hj : j = o.rels.length := by have := HJ.out; omega
                  subst hj
                  rw [List.take_length] at HX
                  obtain ⟨Sx, hx⟩ := HX.out
                  have hbl := relB_len o.rels (i : Int)
                  obtain ⟨vx, vy, hV⟩ := hx.x
                  obtain ⟨Ax, cx, rfl⟩ := Kd.R_slice hV.rb
                  obtain ⟨_, _, eb, _, hCx⟩ := Kd.R_reads hV.rb
                  injection eb with eb1 eb2 eb3
                  subst eb1
                  have hc0 := hV.at0.1
                  have HXX := Aside0.mk hx.p
                  have HCX := Aside0.mk hCx
                  have HBL := Aside0.mk hbl
                  clear hx hbl hV hCx eb2 eb3 HX HJ HKJ cj
                  by_cases e1 : relB o.rels (i : Int) = []
                  · have f1 : decide ((0 : Int) < ((relB o.rels (i : Int)).length : Int)) = false := by rw [e1]; rfl
                    have f2 : (0 < (relB o.rels (i : Int)).length) = False := by rw [e1]; exact eq_false (by simp)
                    have HST : Aside0 (relStep o.rels (atS o) F i = F) := ⟨by unfold relStep; rw [if_pos e1]⟩
                    clear e1
                    go_wp2
                    go_roundg gq
                    case measure => omega
                    case rel => exact ⟨i + 1, (by first | exact congrArg (Value.int .i64) hw | (simp; done)), ⟨by have := HK.out; omega⟩, ⟨HI2.out⟩, ⟨_, _, _, by rw [HFS.out, HST.out]; exact HXX.out⟩⟩
                  · have hlen : 0 < (relB o.rels (i : Int)).length := List.length_pos_iff.2 e1
                    have f1 : decide ((0 : Int) < ((relB o.rels (i : Int)).length : Int)) = true := decide_eq_true (by omega)
                    have f2 : (0 < (relB o.rels (i : Int)).length) = True := eq_true hlen
                    have HST : Aside0 (relStep o.rels (atS o) F i = partS F ⟨0, 4, 0, 0, 0, 0, atS o, (i : Int) + 1, 4, 12⟩ (relB o.rels (i : Int))) := ⟨by unfold relStep; rw [if_neg e1]⟩
                    have hii : ((i : Int) + 1) % 4294967296 = (i : Int) + 1 := by have := HMAY.out.1.1; have := HI2.out; omega
                    clear e1 hlen
                    go_wp2_with fail
                    clear hc0
                    refine (part_pr 0 4 0 0 0 0 (atS o) ((i : Int) + 1) 4 12 (relB o.rels (i : Int)) HXX.out HCX.out (by have := HFL.out; have := HBL.out; have := HMAY.out.1.2.2.1; omega) (by have := HFL.out; omega)).mono ?_
                    rintro e w9 ⟨rfl, S1', hp9, hf9⟩
                    have HP9 := Aside0.mk hp9
                    clear hp9 hf9 HXX HCX
                    go_wp2
                    go_roundg gq
                    case measure => omega
                    case rel => exact ⟨i + 1, (by first | exact congrArg (Value.int .i64) hw | (simp; done)), ⟨by have := HK.out; omega⟩, ⟨HI2.out⟩, ⟨_, _, _, by rw [HFS.out, HST.out]; exact HP9.out⟩⟩
          · have hi : i = o.secs.length := by have := HI.out; omega
            subst hi
            have HP4 : Aside0 (∃ S1 S2 S3, Pst wa wr S1 S2 S3 gw gn gy (st4 o) (st1 o).2 (yst o).own) := HP
            have HS4 : Aside0 ((st4 o).b.length ≤ 300002000000 ∧ (st4 o).rows.length ≤ 200 ∧ 3 ≤ (st4 o).rows.length ∧ 52 ≤ (st4 o).b.length) := ⟨by
              have h1 := relF_len o.rels (atS o) (st3 o) HMAY.out.1.2.2.1 o.secs.length
              have h2 := HS3.out
              have h3 := HMAY.out.1.1
              have h4 := partS_len (st2 o) ⟨0, 3, 0, 0, 0, 0, 0, 0, 1, 0⟩ (yst o).own
              have h5 := partS_len (st1 o).1 ⟨0, 2, 0, 0, 0, 0, atS o + 1, (yst o).loc, 4, 16⟩ (yst o).b
              have h6 := (st1_len o.secs (⟨List.replicate 52 0, [z47]⟩, [0]) (fun x hx => by
                have hx2 := HMAY.out.2.1 x hx
                have hx3 := HG.out.secs x hx
                refine ⟨?_, hx2.1.2⟩
                rcases hx2.2.2.2 with h1 | h1
                · have := hx3.2.2.2.2.1.2; omega
                · rw [h1.2]; simp)).2.2.2.2
              have e2 : st2 o = partS (st1 o).1 ⟨0, 2, 0, 0, 0, 0, atS o + 1, (yst o).loc, 4, 16⟩ (yst o).b := rfl
              have e3 : st3 o = partS (st2 o) ⟨0, 3, 0, 0, 0, 0, 0, 0, 1, 0⟩ (yst o).own := rfl
              have e1 : (o.secs.foldl secStep (⟨List.replicate 52 0, [z47]⟩, [0])) = st1 o := rfl
              rw [e1] at h6
              rw [← e3] at h4
              rw [← e2] at h5
              simp only [List.length_replicate] at h6
              have e4 : (List.range o.secs.length).foldl (relStep o.rels (atS o)) (st3 o) = st4 o := rfl
              rw [e4] at h1
              omega⟩
            clear HP HK HI ci
            obtain ⟨S1, S2, S3, hp⟩ := HP4.out
            obtain ⟨vn, hN⟩ := hp.n
            obtain ⟨An, cn, rfl⟩ := Kd.R_slice hN.rb
            obtain ⟨_, _, eb, _, hCn⟩ := Kd.R_reads hN.rb
            injection eb with eb1 eb2 eb3
            subst eb1
            have hc0 := hN.at0.1
            have HPP := Aside0.mk hp
            have HCN := Aside0.mk hCn
            clear hp hN hCn eb2 eb3 HP4
            go_wp2_with fail
            clear hc0
            refine (part_pr 0 3 0 0 0 0 0 0 1 0 (st1 o).2 HPP.out HCN.out (by have := HS4.out; have := HS1.out; omega) (by have := HS4.out; omega)).mono ?_
            rintro e w10 ⟨rfl, S1', hp10, hf10⟩
            have HS5 : Aside0 ((st5 o).b.length ≤ 300002010000 ∧ (st5 o).rows.length = (st4 o).rows.length + 1 ∧ 52 ≤ (st5 o).b.length) := ⟨by
              have h1 := partS_len (st4 o) ⟨0, 3, 0, 0, 0, 0, 0, 0, 1, 0⟩ (st1 o).2
              have e : st5 o = partS (st4 o) ⟨0, 3, 0, 0, 0, 0, 0, 0, 1, 0⟩ (st1 o).2 := rfl
              rw [← e] at h1
              have := HS4.out; have := HS1.out; omega⟩
            change Pst wa w10 S1' S2 S3 gw gn gy (st5 o) (st1 o).2 (yst o).own at hp10
            obtain ⟨vb5, vr5, hV5⟩ := hp10.w
            obtain ⟨A8, c8, rfl⟩ := Kd.R_slice hV5.rb
            obtain ⟨A9, c9, rfl⟩ := Kd.R_slice hV5.rr
            have hcb := hV5.at0.1
            have hcr := hV5.at1.1
            have HWV : Aside0 (∃ S, Wv wa w10 S gw (.slice A9 (st5 o).rows.length c9) ((st5 o).b ++ ((st5 o).rows.take 0).flatMap rowWords) (st5 o).rows) := ⟨⟨S1', hp10.t.b, ⟨_, by simpa using hV5⟩, fun k hk => (hp10.t.q1 k hk).1⟩⟩
            clear hp10 hf10 hV5 HPP HCN
            go_wp2_with fail
            clear hcb hcr
            go_loopg [162] ((st5 o).rows.length + 1) (fun kq v162 w' => ∃ (i : Nat), v162 = .int .i64 (i : Int) ∧ Aside0 (i + kq = (st5 o).rows.length + 1) ∧ Aside0 (i ≤ (st5 o).rows.length) ∧ Aside0 (∃ S, Wv wa w' S gw (.slice A9 (st5 o).rows.length c9) ((st5 o).b ++ ((st5 o).rows.take i).flatMap rowWords) (st5 o).rows))
            case atStart => exact ⟨0, rfl, ⟨by omega⟩, ⟨by omega⟩, HWV⟩
            case round =>
              clear HWV
              obtain ⟨i, rfl, HK, HI, HV⟩ := hrel
              by_cases ci : i < (st5 o).rows.length
              · cases gk with
                | zero => exact absurd HK.out (by have := HI.out; omega)
                | succ gq =>
                  obtain ⟨S, hv⟩ := HV.out
                  obtain ⟨vb, hwv⟩ := hv.w
                  obtain ⟨A10, c10, eb, _, hC⟩ := Kd.R_reads hwv.rr
                  injection eb with eb1 eb2 eb3
                  subst eb1
                  subst eb3
                  obtain ⟨ad, ea, x0, x1, x2, x3, x4, x5, x6, x7, x8, x9⟩ := at_T47 hC (i : Int) (by omega) (by omega)
                  cases ea
                  rw [Int.toNat_natCast] at x0 x1 x2 x3 x4 x5 x6 x7 x8 x9
                  have hxr : (st5 o).rows[i]? = some (rd_T47 (st5 o).rows (i : Int)) := by unfold rd_T47; rw [Int.toNat_natCast, List.getD_eq_getElem?_getD, List.getElem?_eq_getElem ci]; rfl
                  have hsn : ((st5 o).rows.take (i + 1)).flatMap rowWords = ((st5 o).rows.take i).flatMap rowWords ++ rowWords (rd_T47 (st5 o).rows (i : Int)) := by
                    obtain ⟨_, e⟩ := List.getElem?_eq_some_iff.1 hxr
                    rw [List.take_succ_eq_append_getElem ci, List.flatMap_append, ← e]; simp
                  have hrr := st5_rg o HG.out HMAY.out _ (List.mem_of_getElem? hxr)
                  have hbl : ((st5 o).b ++ ((st5 o).rows.take i).flatMap rowWords).length ≤ 300003000000 := by
                    have h1 : ∀ l : List S47, (l.flatMap rowWords).length = 40 * l.length := by
                      intro l
                      induction l with
                      | nil => rfl
                      | cons a t ih => rw [List.flatMap_cons, List.length_append, ih, rowWords_eq, words_len, List.length_cons]; simp [fieldsL]; omega
                    rw [List.length_append, h1, List.length_take]
                    have := HS5.out; have := HS4.out; omega
                  generalize rd_T47 (st5 o).rows (i : Int) = r at x0 x1 x2 x3 x4 x5 x6 x7 x8 x9 hxr hsn hrr
                  generalize hBi : (st5 o).b ++ ((st5 o).rows.take i).flatMap rowWords = Bi at *
                  have HSN : Aside0 ((st5 o).b ++ ((st5 o).rows.take (i + 1)).flatMap rowWords = Bi ++ rowWords r) := ⟨by rw [hsn, ← List.append_assoc, hBi]⟩
                  have HRR := Aside0.mk hrr
                  have HBL := Aside0.mk hbl
                  have HI2 := Aside0.mk ci
                  have p1 : ((i : Int) < ((st5 o).rows.length : Int)) = True := eq_true (by omega)
                  have p2 : (i < (st5 o).rows.length) = True := eq_true ci
                  have p3 : 0 ≤ (i : Int) := by omega
                  have hw := w64s i (by have := HS5.out; have := HS4.out; omega)
                  have HVV := Aside0.mk hv
                  have HNP : Aside0 (¬ S wr.heap.size) := ⟨fun h => Nat.lt_irrefl _ (hv.lt _ h)⟩
                  clear hv hwv hC hxr hsn hrr hbl hBi ci HV HI eb2
                  obtain ⟨r0, r1, r2, r3, r4, r5, r6, r7, r8, r9⟩ := r
                  simp only at x0 x1 x2 x3 x4 x5 x6 x7 x8 x9
                  go_wp2_with fail
                  have HBK := Aside0.mk (heap_alloc_new wr (.cells #[.int .u32 r0, .int .u32 r1, .int .u32 r2, .int .u32 r3, .int .u32 r4, .int .u32 r5, .int .u32 r6, .int .u32 r7, .int .u32 r8, .int .u32 r9] 47))
                  have HVA := Aside0.mk (HVV.out.below (below_alloc (Below.refl wr.heap.size wr) (.cells #[.int .u32 r0, .int .u32 r1, .int .u32 r2, .int .u32 r3, .int .u32 r4, .int .u32 r5, .int .u32 r6, .int .u32 r7, .int .u32 r8, .int .u32 r9] 47)))
                  clear x0 x1 x2 x3 x4 x5 x6 x7 x8 x9 HVV
                  generalize (wr.alloc (.cells #[.int .u32 r0, .int .u32 r1, .int .u32 r2, .int .u32 r3, .int .u32 r4, .int .u32 r5, .int .u32 r6, .int .u32 r7, .int .u32 r8, .int .u32 r9] 47)) = w11 at *
                  generalize wr.heap.size = q at *
                  refine (fields_calls q _).mono ?_
                  rintro e w12 ⟨rfl, hb⟩
                  have HX0 : Aside0 (∃ S, Wv wa w12 S gw (.slice (some ad) (st5 o).rows.length c9) (Bi ++ ((fieldsL ⟨r0, r1, r2, r3, r4, r5, r6, r7, r8, r9⟩).take 0).flatMap le4) (st5 o).rows ∧ ¬ S q ∧ w12.heap[q]? = some (.cells #[.int .u32 r0, .int .u32 r1, .int .u32 r2, .int .u32 r3, .int .u32 r4, .int .u32 r5, .int .u32 r6, .int .u32 r7, .int .u32 r8, .int .u32 r9] 47 (0, 0))) := ⟨S, by simpa using HVA.out.below hb, HNP.out, blk_below HBK.out hb⟩
                  clear hb HVA HBK HNP
                  go_wp2_with fail
                  go_loopg [167] 11 (fun kq v167 w' => ∃ (k : Nat), v167 = .int .i64 (k : Int) ∧ Aside0 (k + kq = 11) ∧ Aside0 (k ≤ 10) ∧ Aside0 (∃ S, Wv wa w' S gw (.slice (some ad) (st5 o).rows.length c9) (Bi ++ ((fieldsL ⟨r0, r1, r2, r3, r4, r5, r6, r7, r8, r9⟩).take k).flatMap le4) (st5 o).rows ∧ ¬ S q ∧ w'.heap[q]? = some (.cells #[.int .u32 r0, .int .u32 r1, .int .u32 r2, .int .u32 r3, .int .u32 r4, .int .u32 r5, .int .u32 r6, .int .u32 r7, .int .u32 r8, .int .u32 r9] 47 (0, 0))))
                  case atStart => exact ⟨0, rfl, ⟨by omega⟩, ⟨by omega⟩, HX0⟩
                  case round =>
                    clear HX0
                    obtain ⟨k, rfl, HKJ, HJ, HX⟩ := hrel
                    by_cases ck : k < 10
                    · cases gk with
                      | zero => exact absurd HKJ.out (by have := HJ.out; omega)
                      | succ gk =>
                        obtain ⟨S, hx⟩ := HX.out
                        replace HX := Aside0.mk hx
                        clear hx
                        have hk10 : k = 0 ∨ k = 1 ∨ k = 2 ∨ k = 3 ∨ k = 4 ∨ k = 5 ∨ k = 6 ∨ k = 7 ∨ k = 8 ∨ k = 9 := by omega
                        clear ck HJ
                        rcases hk10 with rfl | rfl | rfl | rfl | rfl | rfl | rfl | rfl | rfl | rfl
                        · have hix : ∀ W, (Instr.index 62 (.agg #[.pointer (some ⟨q, 0, none⟩), .pointer (some ⟨q, 1, none⟩), .pointer (some ⟨q, 2, none⟩), .pointer (some ⟨q, 3, none⟩), .pointer (some ⟨q, 4, none⟩), .pointer (some ⟨q, 5, none⟩), .pointer (some ⟨q, 6, none⟩), .pointer (some ⟨q, 7, none⟩), .pointer (some ⟨q, 8, none⟩), .pointer (some ⟨q, 9, none⟩)]) (.int .i64 0)).run Try.prog W = .ok (.pointer (some ⟨q, 0, none⟩)) W := fun W => run_ptrs q 0 (by decide) W
                          have hcell : wr.cell? ⟨q, 0, none⟩ = some (.int .u32 r0) := (blk_cell HX.out.2.2 0).trans rfl
                          go_wp2_with fail
                          refine (word1_wv r0 _ rfl HX.out.1 (HRR.out r0 (by simp [fieldsL])) (by rw [List.length_append, words_len]; have := HBL.out; simp [fieldsL]; omega)).mono ?_
                          rintro e w12 ⟨rfl, S', hv', ho'⟩
                          have hal := below_alloc (Below.refl wr.heap.size wr) (.cells #[.int .u32 r0] 38)
                          have hql := blk_lt HX.out.2.2
                          have HE : Aside0 (∃ S, Wv wa w12 S gw (.slice (some ad) (st5 o).rows.length c9) (Bi ++ ((fieldsL ⟨r0, r1, r2, r3, r4, r5, r6, r7, r8, r9⟩).take 1).flatMap le4) (st5 o).rows ∧ ¬ S q ∧ w12.heap[q]? = some (.cells #[.int .u32 r0, .int .u32 r1, .int .u32 r2, .int .u32 r3, .int .u32 r4, .int .u32 r5, .int .u32 r6, .int .u32 r7, .int .u32 r8, .int .u32 r9] 47 (0, 0))) := ⟨S', by simpa [fieldsL] using hv', fun h => (ho'.sub q h).1.elim HX.out.2.1 (fun h2 => by have := hal.size; omega), ho'.fr.blk (blk_below HX.out.2.2 hal) HX.out.2.1⟩
                          clear hv' ho' hal hql hcell hix
                          go_wp2
                          go_roundg gk
                          case measure => omega
                          case rel => exact ⟨1, by first | rfl | (simp; done) | (simp [wrap64]; done), ⟨by have := HKJ.out; omega⟩, ⟨by omega⟩, HE⟩
                        · have hix : ∀ W, (Instr.index 62 (.agg #[.pointer (some ⟨q, 0, none⟩), .pointer (some ⟨q, 1, none⟩), .pointer (some ⟨q, 2, none⟩), .pointer (some ⟨q, 3, none⟩), .pointer (some ⟨q, 4, none⟩), .pointer (some ⟨q, 5, none⟩), .pointer (some ⟨q, 6, none⟩), .pointer (some ⟨q, 7, none⟩), .pointer (some ⟨q, 8, none⟩), .pointer (some ⟨q, 9, none⟩)]) (.int .i64 1)).run Try.prog W = .ok (.pointer (some ⟨q, 1, none⟩)) W := fun W => run_ptrs q 1 (by decide) W
                          have hcell : wr.cell? ⟨q, 1, none⟩ = some (.int .u32 r1) := (blk_cell HX.out.2.2 1).trans rfl
                          go_wp2_with fail
                          refine (word1_wv r1 _ rfl HX.out.1 (HRR.out r1 (by simp [fieldsL])) (by rw [List.length_append, words_len]; have := HBL.out; simp [fieldsL]; omega)).mono ?_
                          rintro e w12 ⟨rfl, S', hv', ho'⟩
                          have hal := below_alloc (Below.refl wr.heap.size wr) (.cells #[.int .u32 r1] 38)
                          have hql := blk_lt HX.out.2.2
                          have HE : Aside0 (∃ S, Wv wa w12 S gw (.slice (some ad) (st5 o).rows.length c9) (Bi ++ ((fieldsL ⟨r0, r1, r2, r3, r4, r5, r6, r7, r8, r9⟩).take 2).flatMap le4) (st5 o).rows ∧ ¬ S q ∧ w12.heap[q]? = some (.cells #[.int .u32 r0, .int .u32 r1, .int .u32 r2, .int .u32 r3, .int .u32 r4, .int .u32 r5, .int .u32 r6, .int .u32 r7, .int .u32 r8, .int .u32 r9] 47 (0, 0))) := ⟨S', by simpa [fieldsL] using hv', fun h => (ho'.sub q h).1.elim HX.out.2.1 (fun h2 => by have := hal.size; omega), ho'.fr.blk (blk_below HX.out.2.2 hal) HX.out.2.1⟩
                          clear hv' ho' hal hql hcell hix
                          go_wp2
                          go_roundg gk
                          case measure => omega
                          case rel => exact ⟨2, by first | rfl | (simp; done) | (simp [wrap64]; done), ⟨by have := HKJ.out; omega⟩, ⟨by omega⟩, HE⟩
                        · have hix : ∀ W, (Instr.index 62 (.agg #[.pointer (some ⟨q, 0, none⟩), .pointer (some ⟨q, 1, none⟩), .pointer (some ⟨q, 2, none⟩), .pointer (some ⟨q, 3, none⟩), .pointer (some ⟨q, 4, none⟩), .pointer (some ⟨q, 5, none⟩), .pointer (some ⟨q, 6, none⟩), .pointer (some ⟨q, 7, none⟩), .pointer (some ⟨q, 8, none⟩), .pointer (some ⟨q, 9, none⟩)]) (.int .i64 2)).run Try.prog W = .ok (.pointer (some ⟨q, 2, none⟩)) W := fun W => run_ptrs q 2 (by decide) W
                          have hcell : wr.cell? ⟨q, 2, none⟩ = some (.int .u32 r2) := (blk_cell HX.out.2.2 2).trans rfl
                          go_wp2_with fail
                          refine (word1_wv r2 _ rfl HX.out.1 (HRR.out r2 (by simp [fieldsL])) (by rw [List.length_append, words_len]; have := HBL.out; simp [fieldsL]; omega)).mono ?_
                          rintro e w12 ⟨rfl, S', hv', ho'⟩
                          have hal := below_alloc (Below.refl wr.heap.size wr) (.cells #[.int .u32 r2] 38)
                          have hql := blk_lt HX.out.2.2
                          have HE : Aside0 (∃ S, Wv wa w12 S gw (.slice (some ad) (st5 o).rows.length c9) (Bi ++ ((fieldsL ⟨r0, r1, r2, r3, r4, r5, r6, r7, r8, r9⟩).take 3).flatMap le4) (st5 o).rows ∧ ¬ S q ∧ w12.heap[q]? = some (.cells #[.int .u32 r0, .int .u32 r1, .int .u32 r2, .int .u32 r3, .int .u32 r4, .int .u32 r5, .int .u32 r6, .int .u32 r7, .int .u32 r8, .int .u32 r9] 47 (0, 0))) := ⟨S', by simpa [fieldsL] using hv', fun h => (ho'.sub q h).1.elim HX.out.2.1 (fun h2 => by have := hal.size; omega), ho'.fr.blk (blk_below HX.out.2.2 hal) HX.out.2.1⟩
                          clear hv' ho' hal hql hcell hix
                          go_wp2
                          go_roundg gk
                          case measure => omega
                          case rel => exact ⟨3, by first | rfl | (simp; done) | (simp [wrap64]; done), ⟨by have := HKJ.out; omega⟩, ⟨by omega⟩, HE⟩
                        · have hix : ∀ W, (Instr.index 62 (.agg #[.pointer (some ⟨q, 0, none⟩), .pointer (some ⟨q, 1, none⟩), .pointer (some ⟨q, 2, none⟩), .pointer (some ⟨q, 3, none⟩), .pointer (some ⟨q, 4, none⟩), .pointer (some ⟨q, 5, none⟩), .pointer (some ⟨q, 6, none⟩), .pointer (some ⟨q, 7, none⟩), .pointer (some ⟨q, 8, none⟩), .pointer (some ⟨q, 9, none⟩)]) (.int .i64 3)).run Try.prog W = .ok (.pointer (some ⟨q, 3, none⟩)) W := fun W => run_ptrs q 3 (by decide) W
                          have hcell : wr.cell? ⟨q, 3, none⟩ = some (.int .u32 r3) := (blk_cell HX.out.2.2 3).trans rfl
                          go_wp2_with fail
                          refine (word1_wv r3 _ rfl HX.out.1 (HRR.out r3 (by simp [fieldsL])) (by rw [List.length_append, words_len]; have := HBL.out; simp [fieldsL]; omega)).mono ?_
                          rintro e w12 ⟨rfl, S', hv', ho'⟩
                          have hal := below_alloc (Below.refl wr.heap.size wr) (.cells #[.int .u32 r3] 38)
                          have hql := blk_lt HX.out.2.2
                          have HE : Aside0 (∃ S, Wv wa w12 S gw (.slice (some ad) (st5 o).rows.length c9) (Bi ++ ((fieldsL ⟨r0, r1, r2, r3, r4, r5, r6, r7, r8, r9⟩).take 4).flatMap le4) (st5 o).rows ∧ ¬ S q ∧ w12.heap[q]? = some (.cells #[.int .u32 r0, .int .u32 r1, .int .u32 r2, .int .u32 r3, .int .u32 r4, .int .u32 r5, .int .u32 r6, .int .u32 r7, .int .u32 r8, .int .u32 r9] 47 (0, 0))) := ⟨S', by simpa [fieldsL] using hv', fun h => (ho'.sub q h).1.elim HX.out.2.1 (fun h2 => by have := hal.size; omega), ho'.fr.blk (blk_below HX.out.2.2 hal) HX.out.2.1⟩
                          clear hv' ho' hal hql hcell hix
                          go_wp2
                          go_roundg gk
                          case measure => omega
                          case rel => exact ⟨4, by first | rfl | (simp; done) | (simp [wrap64]; done), ⟨by have := HKJ.out; omega⟩, ⟨by omega⟩, HE⟩
                        · have hix : ∀ W, (Instr.index 62 (.agg #[.pointer (some ⟨q, 0, none⟩), .pointer (some ⟨q, 1, none⟩), .pointer (some ⟨q, 2, none⟩), .pointer (some ⟨q, 3, none⟩), .pointer (some ⟨q, 4, none⟩), .pointer (some ⟨q, 5, none⟩), .pointer (some ⟨q, 6, none⟩), .pointer (some ⟨q, 7, none⟩), .pointer (some ⟨q, 8, none⟩), .pointer (some ⟨q, 9, none⟩)]) (.int .i64 4)).run Try.prog W = .ok (.pointer (some ⟨q, 4, none⟩)) W := fun W => run_ptrs q 4 (by decide) W
                          have hcell : wr.cell? ⟨q, 4, none⟩ = some (.int .u32 r4) := (blk_cell HX.out.2.2 4).trans rfl
                          go_wp2_with fail
                          refine (word1_wv r4 _ rfl HX.out.1 (HRR.out r4 (by simp [fieldsL])) (by rw [List.length_append, words_len]; have := HBL.out; simp [fieldsL]; omega)).mono ?_
                          rintro e w12 ⟨rfl, S', hv', ho'⟩
                          have hal := below_alloc (Below.refl wr.heap.size wr) (.cells #[.int .u32 r4] 38)
                          have hql := blk_lt HX.out.2.2
                          have HE : Aside0 (∃ S, Wv wa w12 S gw (.slice (some ad) (st5 o).rows.length c9) (Bi ++ ((fieldsL ⟨r0, r1, r2, r3, r4, r5, r6, r7, r8, r9⟩).take 5).flatMap le4) (st5 o).rows ∧ ¬ S q ∧ w12.heap[q]? = some (.cells #[.int .u32 r0, .int .u32 r1, .int .u32 r2, .int .u32 r3, .int .u32 r4, .int .u32 r5, .int .u32 r6, .int .u32 r7, .int .u32 r8, .int .u32 r9] 47 (0, 0))) := ⟨S', by simpa [fieldsL] using hv', fun h => (ho'.sub q h).1.elim HX.out.2.1 (fun h2 => by have := hal.size; omega), ho'.fr.blk (blk_below HX.out.2.2 hal) HX.out.2.1⟩
                          clear hv' ho' hal hql hcell hix
                          go_wp2
                          go_roundg gk
                          case measure => omega
                          case rel => exact ⟨5, by first | rfl | (simp; done) | (simp [wrap64]; done), ⟨by have := HKJ.out; omega⟩, ⟨by omega⟩, HE⟩
                        · have hix : ∀ W, (Instr.index 62 (.agg #[.pointer (some ⟨q, 0, none⟩), .pointer (some ⟨q, 1, none⟩), .pointer (some ⟨q, 2, none⟩), .pointer (some ⟨q, 3, none⟩), .pointer (some ⟨q, 4, none⟩), .pointer (some ⟨q, 5, none⟩), .pointer (some ⟨q, 6, none⟩), .pointer (some ⟨q, 7, none⟩), .pointer (some ⟨q, 8, none⟩), .pointer (some ⟨q, 9, none⟩)]) (.int .i64 5)).run Try.prog W = .ok (.pointer (some ⟨q, 5, none⟩)) W := fun W => run_ptrs q 5 (by decide) W
                          have hcell : wr.cell? ⟨q, 5, none⟩ = some (.int .u32 r5) := (blk_cell HX.out.2.2 5).trans rfl
                          go_wp2_with fail
                          refine (word1_wv r5 _ rfl HX.out.1 (HRR.out r5 (by simp [fieldsL])) (by rw [List.length_append, words_len]; have := HBL.out; simp [fieldsL]; omega)).mono ?_
                          rintro e w12 ⟨rfl, S', hv', ho'⟩
                          have hal := below_alloc (Below.refl wr.heap.size wr) (.cells #[.int .u32 r5] 38)
                          have hql := blk_lt HX.out.2.2
                          have HE : Aside0 (∃ S, Wv wa w12 S gw (.slice (some ad) (st5 o).rows.length c9) (Bi ++ ((fieldsL ⟨r0, r1, r2, r3, r4, r5, r6, r7, r8, r9⟩).take 6).flatMap le4) (st5 o).rows ∧ ¬ S q ∧ w12.heap[q]? = some (.cells #[.int .u32 r0, .int .u32 r1, .int .u32 r2, .int .u32 r3, .int .u32 r4, .int .u32 r5, .int .u32 r6, .int .u32 r7, .int .u32 r8, .int .u32 r9] 47 (0, 0))) := ⟨S', by simpa [fieldsL] using hv', fun h => (ho'.sub q h).1.elim HX.out.2.1 (fun h2 => by have := hal.size; omega), ho'.fr.blk (blk_below HX.out.2.2 hal) HX.out.2.1⟩
                          clear hv' ho' hal hql hcell hix
                          go_wp2
                          go_roundg gk
                          case measure => omega
                          case rel => exact ⟨6, by first | rfl | (simp; done) | (simp [wrap64]; done), ⟨by have := HKJ.out; omega⟩, ⟨by omega⟩, HE⟩
                        · have hix : ∀ W, (Instr.index 62 (.agg #[.pointer (some ⟨q, 0, none⟩), .pointer (some ⟨q, 1, none⟩), .pointer (some ⟨q, 2, none⟩), .pointer (some ⟨q, 3, none⟩), .pointer (some ⟨q, 4, none⟩), .pointer (some ⟨q, 5, none⟩), .pointer (some ⟨q, 6, none⟩), .pointer (some ⟨q, 7, none⟩), .pointer (some ⟨q, 8, none⟩), .pointer (some ⟨q, 9, none⟩)]) (.int .i64 6)).run Try.prog W = .ok (.pointer (some ⟨q, 6, none⟩)) W := fun W => run_ptrs q 6 (by decide) W
                          have hcell : wr.cell? ⟨q, 6, none⟩ = some (.int .u32 r6) := (blk_cell HX.out.2.2 6).trans rfl
                          go_wp2_with fail
                          refine (word1_wv r6 _ rfl HX.out.1 (HRR.out r6 (by simp [fieldsL])) (by rw [List.length_append, words_len]; have := HBL.out; simp [fieldsL]; omega)).mono ?_
                          rintro e w12 ⟨rfl, S', hv', ho'⟩
                          have hal := below_alloc (Below.refl wr.heap.size wr) (.cells #[.int .u32 r6] 38)
                          have hql := blk_lt HX.out.2.2
                          have HE : Aside0 (∃ S, Wv wa w12 S gw (.slice (some ad) (st5 o).rows.length c9) (Bi ++ ((fieldsL ⟨r0, r1, r2, r3, r4, r5, r6, r7, r8, r9⟩).take 7).flatMap le4) (st5 o).rows ∧ ¬ S q ∧ w12.heap[q]? = some (.cells #[.int .u32 r0, .int .u32 r1, .int .u32 r2, .int .u32 r3, .int .u32 r4, .int .u32 r5, .int .u32 r6, .int .u32 r7, .int .u32 r8, .int .u32 r9] 47 (0, 0))) := ⟨S', by simpa [fieldsL] using hv', fun h => (ho'.sub q h).1.elim HX.out.2.1 (fun h2 => by have := hal.size; omega), ho'.fr.blk (blk_below HX.out.2.2 hal) HX.out.2.1⟩
                          clear hv' ho' hal hql hcell hix
                          go_wp2
                          go_roundg gk
                          case measure => omega
                          case rel => exact ⟨7, by first | rfl | (simp; done) | (simp [wrap64]; done), ⟨by have := HKJ.out; omega⟩, ⟨by omega⟩, HE⟩
                        · have hix : ∀ W, (Instr.index 62 (.agg #[.pointer (some ⟨q, 0, none⟩), .pointer (some ⟨q, 1, none⟩), .pointer (some ⟨q, 2, none⟩), .pointer (some ⟨q, 3, none⟩), .pointer (some ⟨q, 4, none⟩), .pointer (some ⟨q, 5, none⟩), .pointer (some ⟨q, 6, none⟩), .pointer (some ⟨q, 7, none⟩), .pointer (some ⟨q, 8, none⟩), .pointer (some ⟨q, 9, none⟩)]) (.int .i64 7)).run Try.prog W = .ok (.pointer (some ⟨q, 7, none⟩)) W := fun W => run_ptrs q 7 (by decide) W
                          have hcell : wr.cell? ⟨q, 7, none⟩ = some (.int .u32 r7) := (blk_cell HX.out.2.2 7).trans rfl
                          go_wp2_with fail
                          refine (word1_wv r7 _ rfl HX.out.1 (HRR.out r7 (by simp [fieldsL])) (by rw [List.length_append, words_len]; have := HBL.out; simp [fieldsL]; omega)).mono ?_
                          rintro e w12 ⟨rfl, S', hv', ho'⟩
                          have hal := below_alloc (Below.refl wr.heap.size wr) (.cells #[.int .u32 r7] 38)
                          have hql := blk_lt HX.out.2.2
                          have HE : Aside0 (∃ S, Wv wa w12 S gw (.slice (some ad) (st5 o).rows.length c9) (Bi ++ ((fieldsL ⟨r0, r1, r2, r3, r4, r5, r6, r7, r8, r9⟩).take 8).flatMap le4) (st5 o).rows ∧ ¬ S q ∧ w12.heap[q]? = some (.cells #[.int .u32 r0, .int .u32 r1, .int .u32 r2, .int .u32 r3, .int .u32 r4, .int .u32 r5, .int .u32 r6, .int .u32 r7, .int .u32 r8, .int .u32 r9] 47 (0, 0))) := ⟨S', by simpa [fieldsL] using hv', fun h => (ho'.sub q h).1.elim HX.out.2.1 (fun h2 => by have := hal.size; omega), ho'.fr.blk (blk_below HX.out.2.2 hal) HX.out.2.1⟩
                          clear hv' ho' hal hql hcell hix
                          go_wp2
                          go_roundg gk
                          case measure => omega
                          case rel => exact ⟨8, by first | rfl | (simp; done) | (simp [wrap64]; done), ⟨by have := HKJ.out; omega⟩, ⟨by omega⟩, HE⟩
                        · have hix : ∀ W, (Instr.index 62 (.agg #[.pointer (some ⟨q, 0, none⟩), .pointer (some ⟨q, 1, none⟩), .pointer (some ⟨q, 2, none⟩), .pointer (some ⟨q, 3, none⟩), .pointer (some ⟨q, 4, none⟩), .pointer (some ⟨q, 5, none⟩), .pointer (some ⟨q, 6, none⟩), .pointer (some ⟨q, 7, none⟩), .pointer (some ⟨q, 8, none⟩), .pointer (some ⟨q, 9, none⟩)]) (.int .i64 8)).run Try.prog W = .ok (.pointer (some ⟨q, 8, none⟩)) W := fun W => run_ptrs q 8 (by decide) W
                          have hcell : wr.cell? ⟨q, 8, none⟩ = some (.int .u32 r8) := (blk_cell HX.out.2.2 8).trans rfl
                          go_wp2_with fail
                          refine (word1_wv r8 _ rfl HX.out.1 (HRR.out r8 (by simp [fieldsL])) (by rw [List.length_append, words_len]; have := HBL.out; simp [fieldsL]; omega)).mono ?_
                          rintro e w12 ⟨rfl, S', hv', ho'⟩
                          have hal := below_alloc (Below.refl wr.heap.size wr) (.cells #[.int .u32 r8] 38)
                          have hql := blk_lt HX.out.2.2
                          have HE : Aside0 (∃ S, Wv wa w12 S gw (.slice (some ad) (st5 o).rows.length c9) (Bi ++ ((fieldsL ⟨r0, r1, r2, r3, r4, r5, r6, r7, r8, r9⟩).take 9).flatMap le4) (st5 o).rows ∧ ¬ S q ∧ w12.heap[q]? = some (.cells #[.int .u32 r0, .int .u32 r1, .int .u32 r2, .int .u32 r3, .int .u32 r4, .int .u32 r5, .int .u32 r6, .int .u32 r7, .int .u32 r8, .int .u32 r9] 47 (0, 0))) := ⟨S', by simpa [fieldsL] using hv', fun h => (ho'.sub q h).1.elim HX.out.2.1 (fun h2 => by have := hal.size; omega), ho'.fr.blk (blk_below HX.out.2.2 hal) HX.out.2.1⟩
                          clear hv' ho' hal hql hcell hix
                          go_wp2
                          go_roundg gk
                          case measure => omega
                          case rel => exact ⟨9, by first | rfl | (simp; done) | (simp [wrap64]; done), ⟨by have := HKJ.out; omega⟩, ⟨by omega⟩, HE⟩
                        · have hix : ∀ W, (Instr.index 62 (.agg #[.pointer (some ⟨q, 0, none⟩), .pointer (some ⟨q, 1, none⟩), .pointer (some ⟨q, 2, none⟩), .pointer (some ⟨q, 3, none⟩), .pointer (some ⟨q, 4, none⟩), .pointer (some ⟨q, 5, none⟩), .pointer (some ⟨q, 6, none⟩), .pointer (some ⟨q, 7, none⟩), .pointer (some ⟨q, 8, none⟩), .pointer (some ⟨q, 9, none⟩)]) (.int .i64 9)).run Try.prog W = .ok (.pointer (some ⟨q, 9, none⟩)) W := fun W => run_ptrs q 9 (by decide) W
                          have hcell : wr.cell? ⟨q, 9, none⟩ = some (.int .u32 r9) := (blk_cell HX.out.2.2 9).trans rfl
                          go_wp2_with fail
                          refine (word1_wv r9 _ rfl HX.out.1 (HRR.out r9 (by simp [fieldsL])) (by rw [List.length_append, words_len]; have := HBL.out; simp [fieldsL]; omega)).mono ?_
                          rintro e w12 ⟨rfl, S', hv', ho'⟩
                          have hal := below_alloc (Below.refl wr.heap.size wr) (.cells #[.int .u32 r9] 38)
                          have hql := blk_lt HX.out.2.2
                          have HE : Aside0 (∃ S, Wv wa w12 S gw (.slice (some ad) (st5 o).rows.length c9) (Bi ++ ((fieldsL ⟨r0, r1, r2, r3, r4, r5, r6, r7, r8, r9⟩).take 10).flatMap le4) (st5 o).rows ∧ ¬ S q ∧ w12.heap[q]? = some (.cells #[.int .u32 r0, .int .u32 r1, .int .u32 r2, .int .u32 r3, .int .u32 r4, .int .u32 r5, .int .u32 r6, .int .u32 r7, .int .u32 r8, .int .u32 r9] 47 (0, 0))) := ⟨S', by simpa [fieldsL] using hv', fun h => (ho'.sub q h).1.elim HX.out.2.1 (fun h2 => by have := hal.size; omega), ho'.fr.blk (blk_below HX.out.2.2 hal) HX.out.2.1⟩
                          clear hv' ho' hal hql hcell hix
                          go_wp2
                          go_roundg gk
                          case measure => omega
                          case rel => exact ⟨10, by first | rfl | (simp; done) | (simp [wrap64]; done), ⟨by have := HKJ.out; omega⟩, ⟨by omega⟩, HE⟩
                    · have hk : k = 10 := by have := HJ.out; omega
                      subst hk
                      have HE : Aside0 (∃ S, Wv wa wr S gw (.slice (some ad) (st5 o).rows.length c9) ((st5 o).b ++ ((st5 o).rows.take (i + 1)).flatMap rowWords) (st5 o).rows) := ⟨by obtain ⟨S, hx⟩ := HX.out; exact ⟨S, by rw [HSN.out, rowWords_eq]; exact hx.1⟩⟩
                      clear HX HJ HKJ ck
                      go_wp2
                      go_roundg gq
                      case measure => omega
                      case rel => exact ⟨i + 1, (by first | exact congrArg (Value.int .i64) hw | (simp; done)), ⟨by have := HK.out; omega⟩, ⟨HI2.out⟩, HE⟩
              · have hi : i = (st5 o).rows.length := by have := HI.out; omega
                subst hi
                rw [List.take_length] at HV
                obtain ⟨S, hv⟩ := HV.out
                have HVV := Aside0.mk hv
                clear hv HV HI HK ci
                have hcv := Lib.run_convert_bytes_const (P := Try.prog) wr 27 5 #[.int .u8 127, .int .u8 69, .int .u8 76, .int .u8 70, .int .u8 1, .int .u8 1, .int .u8 1, .int .u8 0, .int .u8 0, .int .u8 0, .int .u8 0, .int .u8 0, .int .u8 0, .int .u8 0, .int .u8 0, .int .u8 0, .int .u8 1, .int .u8 0, .int .u8 243, .int .u8 0, .int .u8 1, .int .u8 0, .int .u8 0, .int .u8 0, .int .u8 0, .int .u8 0, .int .u8 0, .int .u8 0, .int .u8 0, .int .u8 0, .int .u8 0, .int .u8 0] 32 32 Try.underlying27 (by kernel_rfl)
                have HTB : Aside0 (0 ≤ ((st5 o).b.length : Int) % 4294967296 ∧ ((st5 o).b.length : Int) % 4294967296 < 4294967296) := ⟨by omega⟩
                go_wp2_with fail
                clear hcv
                refine (hdr1_calls HVV.out _ HTB.out).mono ?_
                rintro e w13 ⟨rfl, Sh, hh⟩
                rw [le4_mod] at hh
                have HH := Aside0.mk hh
                obtain ⟨vb6, hV6⟩ := hh.h.w
                obtain ⟨A12, c12, rfl⟩ := Kd.R_slice hV6.rb
                have hc6 := hV6.at0.1
                have HV6 := Aside0.mk hV6
                have HML : Aside0 ((magic ++ le4 ((st5 o).b.length : Int)).length = 36) := ⟨by rw [List.length_append]; rfl⟩
                obtain ⟨vb7, hV7⟩ := hh.v.w
                have hcr7 := hV7.at1.1
                clear hh hV6 hV7 HVV
                generalize wr.heap.size = bk at *
                obtain ⟨H1, hH1⟩ : ∃ H1, H1 = magic ++ le4 ((st5 o).b.length : Int) := ⟨_, rfl⟩
                rw [← hH1] at hc6 HV6 HML HH
                have HML2 := Aside0.mk hH1
                clear hH1
                go_wp2_with (first | ((with_reducible refine gate_builtin (b := .append) (xs := #[.tmp 190, .const (.string ⟨#[0, 0, 0, 0, 52, 0, 0, 0, 0, 0, 40, 0]⟩)]) rfl ?_); at_builtin; refine ev_str rfl (.tmp 190) (.const (.string ⟨#[0, 0, 0, 0, 52, 0, 0, 0, 0, 0, 40, 0]⟩)) rfl (.slice A12 H1.length c12) H1 ⟨#[0, 0, 0, 0, 52, 0, 0, 0, 0, 0, 40, 0]⟩ Sh rfl rfl (by (have := HML.out; omega)) HV6.out.rb (by (rw [HML.out]; decide)) ?_; intro L8 A13 c13 w14 hL8 hr8 hg8; have HL8 := hL8; have HR8 := Aside0.mk hr8; have HG8 := Aside0.mk hg8; obtain ⟨hc8, hf8⟩ := HV6.out.atB hg8; obtain ⟨Sh2, hh2⟩ := HH.out.setH HV6.out hr8 hg8; have HH2 := Aside0.mk hh2; obtain ⟨vb9, hV9⟩ := hh2.v.w; have hcr9 := hV9.at1.1; clear hL8 hr8 hg8 hh2 hV9))
                have hcall := word1_wh (((st5 o).rows.length : Int) + 65536 * (((st5 o).rows.length : Int) - 1)) _ (cntE2_is (st5 o).rows.length (by have := HS5.out; omega) (by have := HS5.out; have := HS4.out; omega)) HH2.out (by have := HS5.out; have := HS4.out; omega) (by rw [HL8.out, List.length_append, HML.out, bytesOf_length]; decide)
                rw [show (w14.setCell ⟨bk + 1, 0, none⟩ (.slice A13 L8.length c13)).heap.size = w14.heap.size by simp [World.setCell]] at hcall
                refine hcall.mono ?_
                clear hcall hcr9 hcr7 hc6 HR8 HG8 HV6 HH HH2
                rintro e w15 ⟨rfl, Sh3, hh3⟩
                obtain ⟨HT, hHT⟩ : ∃ HT, HT = L8 ++ le4 (((st5 o).rows.length : Int) + 65536 * (((st5 o).rows.length : Int) - 1)) := ⟨_, rfl⟩
                obtain ⟨BT, hBT⟩ : ∃ BT, BT = (st5 o).b ++ (st5 o).rows.flatMap rowWords := ⟨_, rfl⟩
                rw [← hHT, ← hBT] at hh3
                have HHT : Aside0 (HT = headS (st5 o).b.length (st5 o).rows.length ∧ HT.length = 52) := ⟨by
                  have h1 := HS5.out
                  have h2 := HS4.out
                  have e1 : HT = headS (st5 o).b.length (st5 o).rows.length := by
                    rw [hHT, HL8.out, HML2.out, le4_two _ _ (by omega) (by omega) (by omega) (by omega), show bytesOf ⟨#[0, 0, 0, 0, 52, 0, 0, 0, 0, 0, 40, 0]⟩ = sizes from by decide]
                    simp [headS]
                  exact ⟨e1, by rw [hHT, List.length_append, HL8.out, List.length_append, HML.out, bytesOf_length, le4_len]; decide⟩⟩
                have HBT : Aside0 (52 ≤ BT.length ∧ putS o = headS (st5 o).b.length (st5 o).rows.length ++ BT.drop 52) := ⟨by
                  have h1 := HS5.out
                  refine ⟨by rw [hBT, List.length_append]; omega, ?_⟩
                  rw [hBT, List.drop_append_of_le_length (by omega)]
                  unfold putS
                  simp⟩
                obtain ⟨vb10, hV10⟩ := hh3.v.w
                obtain ⟨A14, c14, rfl⟩ := Kd.R_slice hV10.rb
                obtain ⟨vb11, hV11⟩ := hh3.h.w
                obtain ⟨A15, c15, rfl⟩ := Kd.R_slice hV11.rb
                obtain ⟨_, _, eb, _, hCh⟩ := Kd.R_reads hV11.rb
                injection eb with eb1 eb2 eb3
                subst eb1
                have hcw := hV10.at0.1
                have hch := hV11.at0.1
                have HBL := Aside0.mk hh3.v.bl
                have HQ := Aside0.mk hh3.v.q
                have hb := (Below.refl w15.heap.size w15).drew
                have HV10 := Aside0.mk (hV10.below hb)
                have HCH := Aside0.mk (Kd.C_below hCh hb)
                have HBL2 := Aside0.mk (HBL.out.drew)
                clear hh3 hV10 hV11 hCh eb2 eb3 hb HBL hHT hBT
                go_wp2
                go_still_tail 8, (by kernel_rfl)
                change wpList _ _ _ _ _ w15.drew
                clear hcw hch
                generalize w15.drew = w16 at *
                go_wp2_with (first | ((with_reducible refine gate_builtin (b := .copy) (xs := #[.tmp 211, .tmp 215]) rfl ?_); refine Kd.R_copy (0 : Int) (w0 := w16) 0 rfl (.tmp 211) (.tmp 215) 27 27 5 rfl Try.underlying27 info5s (.slice A14 BT.length c14) BT HT A15 HT.length c15 S rfl rfl HV10.out.rb HCH.out (Below.refl _ _) (Nat.zero_le _) ?_; intro w17 hr hb hg; have HR := Aside0.mk hr; have HG2 := Aside0.mk hg; obtain ⟨hc17, hf17⟩ := HV10.out.atB hg; clear hr hb hg))
                have hL : HT.take (min HT.length BT.length) ++ BT.drop (min HT.length BT.length) = putS o := by
                  have h1 := HHT.out
                  have h2 := HBT.out
                  rw [Nat.min_eq_left (by omega), List.take_length, h1.2, h2.2, ← h1.1]
                rw [hL] at HR
                have HBF : Aside0 (Below wa.heap.size wa w17) := ⟨(Fr.of_grown HG2.out (fun k e => HV10.out.rb.1 k e)).below HBL2.out HQ.out HBL2.out.size⟩
                clear hL
                go_ret2
                have hz := HM.out.b.size
                exact ⟨_, putS o, 0, rfl, fun _ => ⟨rfl, rfl⟩, fun h => absurd HMAY.out h, Rb_base HR.out (fun k hk => Nat.le_trans hz (HQ.out k hk)), below_step HM.out.b HBF.out⟩
end Go.Proofs.Ytockojajbnnbpaa.E
namespace Go.Proofs.Ytockojajbnnbpaa.E
open Go.RowKit Go.Proofs.Ytockojajbnnbpaa.Q Go.Proofs.YtockojajbnnbpaaW.PrintWords Go.Proofs.YtockojajbnnbpaaW.PrintLast Go.Proofs.YtockojajbnnbpaaW.PrintMore
set_option linter.unusedVariables false
set_option linter.unusedSimpArgs false
theorem one_calls (w : World) : Calls Try.prog 28 #[] w fun e w' => ∃ (A0 A1 A2 : Option Addr) (c0 c1 c2 : Nat), e = .returned (obV A0 A1 A2 c0 c1 c2 one) ∧ ObC w' A0 A1 A2 c0 c1 c2 one ∧ Below w.heap.size w w' := by
  refine (bulwarklaw09_one.calls one.secs one.syms one.rels w rfl).mono ?_
  rintro e w' ⟨v0, v1, v2, rfl, h0, h1, h2, hb⟩
  obtain ⟨A0, c0, rfl, l0, k0⟩ := Kd.N_reads h0
  obtain ⟨A1, c1, rfl, l1, k1⟩ := Kd.R_reads h1
  obtain ⟨A2, c2, rfl, l2, k2⟩ := Kd.R_reads h2
  exact ⟨A0, A1, A2, c0, c1, c2, rfl, ⟨k0, k1, k2, l0, l1, l2⟩, hb⟩
theorem one_s : ObS one := by
  refine ⟨fun x hx => (one_rg.secs x hx).2.2.2.2.2.1, fun x hx => ?_, by decide, by decide, by decide⟩
  have hx : x = ⟨⟨#[116]⟩, 1, 6, 4, 4, [1, 2, 3, 4]⟩ := by simpa [one] using hx
  rw [hx]; decide
theorem bad_c {W : World} {g : Nat} (hb : W.heap[g]? = some (.cells #[.string ⟨#[]⟩, .int .u32 0, .int .u32 0, .int .u32 0, .int .u32 0, .slice none 0 0] 40 (0, 0))) : ObC W (some ⟨g, 0, none⟩) none none 1 0 0 bad := by
  refine ⟨⟨rfl, by decide, fun _ => ⟨_, rfl, fun j p hj => ?_⟩⟩, ⟨rfl, by decide, fun h => absurd h (by decide)⟩, ⟨rfl, by decide, fun h => absurd h (by decide)⟩, by decide, by decide, by decide⟩
  have hj0 : j = 0 := by
    have := (List.getElem?_eq_some_iff.1 hj).1
    simp [bad] at this; exact this
  subst hj0
  obtain rfl : z40 = p := by simpa [bad] using hj
  refine ⟨_, rfl, k40_mk W z40 (A5 := none) (c5 := 0) (by decide) ⟨rfl, by decide, fun h => absurd h (by decide)⟩, fun i u hu => ?_⟩
  have ha : (⟨g, 0, none⟩ : Addr).add (0 * 6 + i) = ⟨g, i, none⟩ := by simp [Addr.add, eq_comm]
  show W.cell? ((⟨g, 0, none⟩ : Addr).add (0 * 6 + i)) = some u
  rw [ha]
  refine (blk_cell hb i).trans ?_
  rw [← Array.getElem?_toList]
  exact hu
theorem undrewV {B : Nat} {w w' : World} (h : Below B w.drew w') : Below B w w' := ⟨h.os, h.tape, h.output, h.size, h.block⟩
theorem keepV {w W w2 : World} {p : Nat} {q : Addr} {v0 v1 v2 u : Value} (k : Below W.heap.size W w2) (h : Below w.heap.size w W ∧ W.cell? ⟨p, 0, none⟩ = some v0 ∧ W.cell? ⟨p, 1, none⟩ = some v1 ∧ W.cell? ⟨p, 2, none⟩ = some v2 ∧ W.cell? q = some u) :
    Below w.heap.size w w2 ∧ w2.cell? ⟨p, 0, none⟩ = some v0 ∧ w2.cell? ⟨p, 1, none⟩ = some v1 ∧ w2.cell? ⟨p, 2, none⟩ = some v2 ∧ w2.cell? q = some u := by
  have lift : ∀ {a : Addr} {v : Value}, W.cell? a = some v → w2.cell? a = some v := fun hv => (World.cell?_of_block (k.block _ (World.block_lt_of_cell? _ _ hv))).trans hv
  exact ⟨below_step h.1 k, lift h.2.1, lift h.2.2.1, lift h.2.2.2.1, lift h.2.2.2.2⟩
theorem Read_ok {b : List Int} {o : Ob} {w : World} {A : Option Addr} {c : Nat} (hb : AllBytes b) (hl : b.length < 140737488355328) (hr : readS b = .ok o) (h : Kd.C (Kd.int .u8) w A b.length b) (hc : b.length ≤ c) :
    Calls Try.prog 11 #[.slice A b.length c] w fun e w' => ∃ (A0 A1 A2 : Option Addr) (c0 c1 c2 : Nat), e = .returned (.tuple #[obV A0 A1 A2 c0 c1 c2 o, .int .i64 0]) ∧ ObC w' A0 A1 A2 c0 c1 c2 o ∧ Below w.heap.size w w' :=
  (Read_calls A c b hb hl w h hc).mono fun e w' hh => by
    unfold ReadRes at hh
    rw [hr] at hh
    obtain ⟨S0, S1, S2, v0, v1, v2, rfl, hbl, h0, h1, h2, _⟩ := hh
    obtain ⟨A0, c0, rfl, l0, k0⟩ := Kd.R_reads h0
    obtain ⟨A1, c1, rfl, l1, k1⟩ := Kd.R_reads h1
    obtain ⟨A2, c2, rfl, l2, k2⟩ := Kd.R_reads h2
    exact ⟨A0, A1, A2, c0, c1, c2, rfl, ⟨k0, k1, k2, l0, l1, l2⟩, hbl⟩
theorem Read_no {b : List Int} {er : Int} {w : World} {A : Option Addr} {c : Nat} (hb : AllBytes b) (hl : b.length < 140737488355328) (hr : readS b = .error er) (h : Kd.C (Kd.int .u8) w A b.length b) (hc : b.length ≤ c) :
    Calls Try.prog 11 #[.slice A b.length c] w fun e w' => e = .returned (.tuple #[.agg #[.slice none 0 0, .slice none 0 0, .slice none 0 0], .int .i64 er]) ∧ Below w.heap.size w w' :=
  (Read_calls A c b hb hl w h hc).mono fun e w' hh => by unfold ReadRes at hh; rw [hr] at hh; exact hh
set_option maxRecDepth 100000 in
set_option maxHeartbeats 32000000 in
theorem lives_calls (w : World) : Calls Try.prog 10 #[] w fun e w' => e = .returned (.bool true) ∧ Below w.heap.size w w' := by
  have mixed : Try.prog.follows .mixedOrders = true := by kernel_rfl
  have hu26 := Try.underlying26
  have hu40 := Try.underlying40
  have H1 := Aside0.mk (one_calls w)
  obtain ⟨L, hL⟩ : ∃ L, L = putS one := ⟨_, rfl⟩
  have HL := Aside0.mk hL
  clear hL
  go_enter Try.func10, Try.ntmps10
  go_wp2_with fail
  refine H1.out.mono ?_
  rintro _ w1 ⟨A0, A1, A2, c0, c1, c2, rfl, ho, hb1⟩
  have HP := Aside0.mk (Put_calls one_rg w1 ho)
  have HB1 := Aside0.mk hb1
  clear ho hb1 H1
  unfold obV
  go_wp2_with fail
  refine HP.out.mono ?_
  rintro _ w2 ⟨v, L', er, rfl, hy, _, hR, hb2⟩
  obtain ⟨h1, rfl⟩ := hy one_may
  obtain ⟨A, c, rfl, hc, hC⟩ := Kd.R_reads hR
  rw [h1, ← HL.out] at hC hc
  rw [h1, ← HL.out]
  have HB2 := Aside0.mk (below_step HB1.out hb2)
  have HC2 := Aside0.mk (And.intro hC hc)
  have hb : AllBytes L := by rw [HL.out]; exact one_bytes
  have hl := one_len
  rw [← HL.out] at hl
  have HR := Aside0.mk (Read_ok (w := w2) (A := A) (c := c) hb (by omega) (by rw [HL.out]; exact one_read) hC hc)
  have HLL := Aside0.mk hl
  clear h1 hy hR hb2 hC hc hb hl HP HB1
  go_wp2_with fail
  refine HR.out.mono ?_
  rintro _ w3 ⟨B0, B1, B2, d0, d1, d2, rfl, hp, hb3⟩
  have HB3 := Aside0.mk (below_step HB2.out hb3)
  have hal := below_alloc (Below.refl w3.heap.size w3) (.cells #[.slice B0 one.secs.length d0, .slice B1 one.syms.length d1, .slice B2 one.rels.length d2] 26)
  have hN0 : Kd.C (Kd.int .u8) (w3.alloc (.cells #[.slice B0 one.secs.length d0, .slice B1 one.syms.length d1, .slice B2 one.rels.length d2] 26)) none ([] : List Int).length [] := ⟨rfl, by decide, fun h => absurd h (by decide)⟩
  have HN := Aside0.mk (Read_no (c := 0) (fun x hx => absurd hx (List.not_mem_nil)) (by decide) nil_read hN0 (Nat.le_refl _))
  have HO3 := Aside0.mk (hp.below hal)
  have HX3 : Aside0 ((w3.alloc (.cells #[.slice B0 one.secs.length d0, .slice B1 one.syms.length d1, .slice B2 one.rels.length d2] 26)).heap[w3.heap.size]? = _) := ⟨heap_alloc_new _ _⟩
  have HC3 := Aside0.mk (And.intro (Kd.C_below HC2.out.1 hb3) HC2.out.2)
  have HAL := Aside0.mk hal
  clear hp hb3 hN0 HR HB2 HC2 hal
  unfold obV
  go_wp2_with fail
  refine HN.out.mono ?_
  rintro _ w4 ⟨rfl, hb4⟩
  have HX4 := Aside0.mk (blk_below HX3.out hb4)
  have HO4 := Aside0.mk (HO3.out.below hb4)
  have HC4 := Aside0.mk (And.intro (Kd.C_below (Kd.C_below HC3.out.1 HAL.out) hb4) HC3.out.2)
  have HB4 := Aside0.mk (below_step (below_step HB3.out HAL.out) hb4)
  clear hb4 HX3 HO3 HC3 HB3 HAL HN
  go_wp2_with fail
  have HP2 := Aside0.mk (Put_calls bad_rg _ (bad_c (W := (w4.alloc (.cells #[.slice none 0 0, .slice none 0 0, .slice none 0 0] 26)).alloc (.cells #[.string ⟨#[]⟩, .int .u32 0, .int .u32 0, .int .u32 0, .int .u32 0, .slice none 0 0] 40)) (g := w4.heap.size + 1) (by rw [← alloc_size w4 (.cells #[.slice none 0 0, .slice none 0 0, .slice none 0 0] 26)]; exact heap_alloc_new _ _)))
  refine HP2.out.mono ?_
  rintro _ w5 ⟨v, L', er, rfl, _, hy, hR, hb5⟩
  obtain ⟨rfl, rfl⟩ := hy bad_not
  have hal := below_step (below_alloc (below_alloc (Below.refl w4.heap.size w4) (.cells #[.slice none 0 0, .slice none 0 0, .slice none 0 0] 26)) (.cells #[.string ⟨#[]⟩, .int .u32 0, .int .u32 0, .int .u32 0, .int .u32 0, .slice none 0 0] 40)) hb5
  have HX5 := Aside0.mk (blk_below HX4.out hal)
  have HO5 := Aside0.mk (HO4.out.below hal)
  have HC5 := Aside0.mk (And.intro (Kd.C_below HC4.out.1 hal) HC4.out.2)
  have HB5 := Aside0.mk (below_step HB4.out hal)
  clear hy hR hb5 hal HX4 HO4 HC4 HB4 HP2
  go_wp2_with fail
  have hlen : decide ((L.length : Int) > 52) = true := decide_eq_true (by have := HLL.out; omega)
  have hlen2 : ((52 : Int) < (L.length : Int)) = True := eq_true (by have := HLL.out; omega)
  have hlen3 : (52 < L.length) = True := eq_true HLL.out.1
  have hlen4 : (0 < L.length) = True := eq_true (by have := HLL.out; omega)
  have hlen5 : ((0 : Int) < (L.length : Int)) = True := eq_true (by have := HLL.out; omega)
  obtain ⟨ad, ea, ca⟩ := Kd.at_int HC5.out.1 0 (by decide) (by have := HLL.out; omega)
  subst ea
  have h127 : rd L 0 = 127 := by rw [HL.out]; exact one_head
  rw [h127] at ca
  have hs : Below w5.heap.size w5 w5 ∧ w5.cell? ⟨w3.heap.size, 0, none⟩ = some (.slice B0 one.secs.length d0) ∧ w5.cell? ⟨w3.heap.size, 1, none⟩ = some (.slice B1 one.syms.length d1) ∧ w5.cell? ⟨w3.heap.size, 2, none⟩ = some (.slice B2 one.rels.length d2) ∧ w5.cell? _ = some (.int .u8 127) :=
    ⟨Below.refl _ _, (blk_cell HX5.out 0).trans rfl, (blk_cell HX5.out 1).trans rfl, (blk_cell HX5.out 2).trans rfl, ca⟩
  clear ca h127
  go_region_held3 (fun W => Below w5.heap.size w5 W ∧ W.cell? ⟨w3.heap.size, 0, none⟩ = some (.slice B0 one.secs.length d0) ∧ W.cell? ⟨w3.heap.size, 1, none⟩ = some (.slice B1 one.syms.length d1) ∧ W.cell? ⟨w3.heap.size, 2, none⟩ = some (.slice B2 one.rels.length d2) ∧ W.cell? ad = some (.int .u8 127)) (exact keepV (by first | assumption | exact undrewV (by assumption) | exact (Below.refl _ _).drew) (by assumption)) (first | (go_at_call 28; refine (one_calls _).mono ?_; rintro _ w' ⟨E0, E1, E2, f0, f1, f2, rfl, ho, hb⟩; unfold obV) | (go_at_call 20; refine (esame_calls one_s one_s (HO5.out.below (And.left (by assumption))) (by assumption)).mono ?_; rintro _ w' ⟨r, rfl, hr, hb⟩; obtain rfl := hr.2 rfl) | (go_at_call 16; refine (rsame_calls one_s one_s (HO5.out.below (And.left (by assumption))) (by assumption)).mono ?_; rintro _ w' ⟨r, rfl, hr, hb⟩; obtain rfl := hr.2 rfl))
  rename_i hH
  have HE := Aside0.mk hH.1
  clear hH hs
  go_wp2_with fail
  go_ret
  exact ⟨rfl, below_step HB5.out HE.out⟩
end Go.Proofs.Ytockojajbnnbpaa.E
namespace Go.Proofs.Ytockojajbnnbpaa.E
open Go.RowKit Go.Proofs.Ytockojajbnnbpaa.Q Go.Proofs.YtockojajbnnbpaaW.PrintWords Go.Proofs.YtockojajbnnbpaaW.PrintLast Go.Proofs.YtockojajbnnbpaaW.PrintMore
set_option linter.unusedVariables false
set_option linter.unusedSimpArgs false
theorem may_s {o : Ob} (hm : MayP o) (hg : ObRg o) : ObS o := by
  obtain ⟨⟨l0, l1, l2, _⟩, hs, _⟩ := hm
  refine ⟨fun x hx => (hg.secs x hx).2.2.2.2.2.1, fun x hx => ?_, by omega, by omega, by omega⟩
  have h4 := (hg.secs x hx).2.2.2.2.1
  rcases (hs x hx).2.2.2 with ⟨_, h⟩ | ⟨_, h⟩
  · omega
  · rw [h]; decide
theorem long_read {b : List Int} (h : 65536 < b.length) : readS b = .error 3 := by
  unfold readS
  rw [tab_limit b h]
set_option maxRecDepth 100000 in
set_option maxHeartbeats 16000000 in
theorem ElfBack_calls {A0 A1 A2 : Option Addr} {c0 c1 c2 : Nat} {o : Ob} (hg : ObRg o) (h32 : Rel32 o) (w : World) (h : ObC w A0 A1 A2 c0 c1 c2 o) :
    Calls Try.prog 7 #[obV A0 A1 A2 c0 c1 c2 o] w fun e w' => e = .returned (.bool true) ∧ Below w.heap.size w w' := by
  have hu26 := Try.underlying26
  have hal := below_alloc (Below.refl w.heap.size w) (.cells #[.slice A0 o.secs.length c0, .slice A1 o.syms.length c1, .slice A2 o.rels.length c2] 26)
  have HX := Aside0.mk (heap_alloc_new w (.cells #[.slice A0 o.secs.length c0, .slice A1 o.syms.length c1, .slice A2 o.rels.length c2] 26))
  have HAL := Aside0.mk hal
  have HO := Aside0.mk (h.below hal)
  have HP := Aside0.mk (Put_calls hg _ (h.below hal))
  have HG := Aside0.mk hg
  have H32 := Aside0.mk h32
  unfold obV at *
  clear hal h hg h32
  go_enter Try.func7, Try.ntmps7
  go_wp2_with fail
  refine HP.out.mono ?_
  rintro _ w1 ⟨v, L, er, rfl, hy, hn, hR, hb1⟩
  obtain ⟨A, c, rfl, hc, hC⟩ := Kd.R_reads hR
  have HX1 := Aside0.mk (blk_below HX.out hb1)
  have HO1 := Aside0.mk (HO.out.below hb1)
  have HB1 := Aside0.mk (below_step HAL.out hb1)
  have y0 : w1.cell? ⟨w.heap.size, 0, none⟩ = some (.slice A0 o.secs.length c0) := (blk_cell HX1.out 0).trans rfl
  have y1 : w1.cell? ⟨w.heap.size, 1, none⟩ = some (.slice A1 o.syms.length c1) := (blk_cell HX1.out 1).trans rfl
  have y2 : w1.cell? ⟨w.heap.size, 2, none⟩ = some (.slice A2 o.rels.length c2) := (blk_cell HX1.out 2).trans rfl
  clear hR hb1 HP HX HO HAL
  by_cases hm : MayP o
  rotate_left
  · obtain ⟨rfl, rfl⟩ := hn hm
    have HM := Aside0.mk hm
    have HQ := Aside0.mk (may_calls HG.out w1 HO1.out)
    unfold obV at HQ
    clear hy hn hm hC hc
    go_wp2_with fail
    refine HQ.out.mono ?_
    rintro _ w2 ⟨r, rfl, hr, hb2⟩
    have hrf : r = false := by
      cases r with
      | false => rfl
      | true => exact absurd (hr.1 rfl) HM.out
    subst hrf
    have HB2 := Aside0.mk (below_step HB1.out hb2)
    clear hb2 hr
    go_wp2_with fail
    refine (lives_calls w2).mono ?_
    rintro _ w3 ⟨rfl, hb3⟩
    have HB3 := Aside0.mk (below_step HB2.out hb3)
    clear hb3
    go_wp2_with fail
    go_ret
    exact ⟨rfl, HB3.out⟩
  obtain ⟨hL, rfl⟩ := hy hm
  have hbb : AllBytes L := by rw [hL]; exact put_bytes HG.out
  have hpl := put_len hm HG.out
  rw [← hL] at hpl
  have HLn : Aside0 (52 ≤ L.length ∧ L.length ≤ 208000) := ⟨by omega⟩
  have HLE := Aside0.mk hL
  have HM := Aside0.mk hm
  have HC := Aside0.mk (And.intro hC hc)
  have HBB := Aside0.mk hbb
  clear hL hy hn hm hpl hbb hC hc y0 y1 y2
  by_cases hk : 65536 < L.length
  · have hkz : (65536 : Int) < (L.length : Int) := by omega
    have HRE := Aside0.mk (Read_no (w := w1) (A := A) (c := c) HBB.out (by have := HLn.out; omega) (long_read hk) HC.out.1 HC.out.2)
    clear hk
    go_wp2_with fail
    refine HRE.out.mono ?_
    rintro _ w2 ⟨rfl, hb2⟩
    have HB2 := Aside0.mk (below_step (below_step HB1.out hb2) (below_alloc (Below.refl _ _) (.cells #[.slice none 0 0, .slice none 0 0, .slice none 0 0] 26)))
    clear hb2
    go_wp2_with fail
    refine (lives_calls _).mono ?_
    rintro _ w3 ⟨rfl, hb3⟩
    have HB3 := Aside0.mk (below_step HB2.out hb3)
    clear hb3
    go_wp2_with fail
    go_ret
    exact ⟨rfl, HB3.out⟩
  · have hkz : ¬ (65536 : Int) < (L.length : Int) := by omega
    have HRE := Aside0.mk (Read_ok (w := w1) (A := A) (c := c) (o := o) HBB.out (by have := HLn.out; omega) (by rw [HLE.out]; exact put_read HM.out HG.out H32.out (by rw [← HLE.out]; omega)) HC.out.1 HC.out.2)
    clear hk
    go_wp2_with fail
    refine HRE.out.mono ?_
    rintro _ w2 ⟨B0, B1, B2, d0, d1, d2, rfl, hp, hb2⟩
    have hal := below_alloc (Below.refl w2.heap.size w2) (.cells #[.slice B0 o.secs.length d0, .slice B1 o.syms.length d1, .slice B2 o.rels.length d2] 26)
    have X2 := blk_below (blk_below HX1.out hb2) hal
    have HS := Aside0.mk (rsame_calls (may_s HM.out HG.out) (may_s HM.out HG.out) ((HO1.out.below hb2).below hal) (hp.below hal))
    have HB2 := Aside0.mk (below_step (below_step HB1.out hb2) hal)
    have y0 : (w2.alloc (.cells #[.slice B0 o.secs.length d0, .slice B1 o.syms.length d1, .slice B2 o.rels.length d2] 26)).cell? ⟨w.heap.size, 0, none⟩ = some (.slice A0 o.secs.length c0) := (blk_cell X2 0).trans rfl
    have y1 : (w2.alloc (.cells #[.slice B0 o.secs.length d0, .slice B1 o.syms.length d1, .slice B2 o.rels.length d2] 26)).cell? ⟨w.heap.size, 1, none⟩ = some (.slice A1 o.syms.length c1) := (blk_cell X2 1).trans rfl
    have y2 : (w2.alloc (.cells #[.slice B0 o.secs.length d0, .slice B1 o.syms.length d1, .slice B2 o.rels.length d2] 26)).cell? ⟨w.heap.size, 2, none⟩ = some (.slice A2 o.rels.length c2) := (blk_cell X2 2).trans rfl
    unfold obV at *
    clear hb2 hp hal X2
    go_wp2_with fail
    refine HS.out.mono ?_
    rintro _ w3 ⟨r, rfl, hr, hb3⟩
    obtain rfl : r = true := by simpa using hr
    have HB3 := Aside0.mk (below_step HB2.out hb3)
    clear hb3 hr
    go_wp2_with fail
    refine (lives_calls _).mono ?_
    rintro _ w4 ⟨rfl, hb4⟩
    have HB4 := Aside0.mk (below_step HB3.out hb4)
    clear hb4
    go_wp2_with fail
    go_ret
    exact ⟨rfl, HB4.out⟩
theorem elfBack_walk (A0 A1 A2 : Option Addr) (c0 c1 c2 : Nat) (o : Ob) (w : World) (h : ObC w A0 A1 A2 c0 c1 c2 o) (hg : ObRg o) (h32 : Rel32 o) :
    Calls Try.prog 7 #[obV A0 A1 A2 c0 c1 c2 o] w fun e w' => e = .returned (.bool true) ∧ Below w.heap.size w w' := ElfBack_calls hg h32 w h
end Go.Proofs.Ytockojajbnnbpaa.E
namespace Go.Proofs.Ytockojajbnnbpaa.OpenE
open Go.Joins Go.ChangeShapes Go.WideShapes Go.RowKit Go.Deep Go.Proofs.Ytockojajbnnbpaa.Q Go.Proofs.Ytockojajbnnbpaa.E Go.Proofs.YtockojajbnnbpaaW.PrintWords
set_option linter.unusedVariables false
set_option linter.unusedSimpArgs false
theorem c3 : Try.prog.cellsOf 3 = 1 := by kernel_rfl
theorem c4 : Try.prog.cellsOf 4 = 1 := by kernel_rfl
theorem c5 : Try.prog.cellsOf 5 = 1 := by kernel_rfl
theorem c9 : Try.prog.cellsOf 9 = 1 := by kernel_rfl
theorem c21 : Try.prog.cellsOf 21 = 1 := by kernel_rfl
theorem c22 : Try.prog.cellsOf 22 = 1 := by kernel_rfl
theorem c23 : Try.prog.cellsOf 23 = 1 := by kernel_rfl
theorem c24 : Try.prog.cellsOf 24 = 1 := by kernel_rfl
theorem c26 : Try.prog.cellsOf 26 = 3 := by kernel_rfl
theorem c27 : Try.prog.cellsOf 27 = 1 := by kernel_rfl
theorem c38 : Try.prog.cellsOf 38 = 1 := by kernel_rfl
theorem c40 : Try.prog.cellsOf 40 = 6 := by kernel_rfl
theorem c59 : Try.prog.cellsOf 59 = 5 := by kernel_rfl
theorem c94 : Try.prog.cellsOf 94 = 7 := by kernel_rfl
variable {H : Type} {enc : TypeId × Value → H} {w : World} {base : Nat} {spare : Nat → Bool} {held : Bool}
theorem list3 {l : List Value} (h : l.length = 3) : ∃ c0 c1 c2, l = [c0, c1, c2] := by
  match l, h with
  | [c0, c1, c2], _ => exact ⟨_, _, _, rfl⟩
theorem list5 {l : List Value} (h : l.length = 5) : ∃ c0 c1 c2 c3 c4, l = [c0, c1, c2, c3, c4] := by
  match l, h with
  | [c0, c1, c2, c3, c4], _ => exact ⟨_, _, _, _, _, rfl⟩
theorem list6 {l : List Value} (h : l.length = 6) : ∃ c0 c1 c2 c3 c4 c5, l = [c0, c1, c2, c3, c4, c5] := by
  match l, h with
  | [c0, c1, c2, c3, c4, c5], _ => exact ⟨_, _, _, _, _, _, rfl⟩
theorem list7 {l : List Value} (h : l.length = 7) : ∃ c0 c1 c2 c3 c4 c5 c6, l = [c0, c1, c2, c3, c4, c5, c6] := by
  match l, h with
  | [c0, c1, c2, c3, c4, c5, c6], _ => exact ⟨_, _, _, _, _, _, _, rfl⟩
theorem lt32 {n : Int} (h : (Lit.int .u32 n).wf = true) : 0 ≤ n ∧ n < 4294967296 := by have := Go.bounds_u32 h; omega
theorem open_bytes {fuel : Nat} {v : Value} {x : DataW H × List MemPlace} (h : DataW.trod enc Try.prog w base spare held fuel 27 [v] = some x) :
    ∃ (A : Option Addr) (c : Nat) (zs : List Int), v = .slice A zs.length c ∧ zs.length ≤ c ∧ c ≤ maxLen ∧ Kd.C (Kd.int .u8) w A zs.length zs ∧ AllBytes zs := by
  rcases open_ints Try.underlying27 Try.underlying5 (by kernel_rfl) h with ⟨hcs, _⟩ | ⟨a, l, c, zs, hcs, _, hl, hm, hz, hx, hcell, hwz⟩
  · simp at hcs
    exact ⟨none, 0, [], hcs, Nat.le_refl _, by decide, ⟨rfl, by decide, fun h => absurd h (by decide)⟩, fun x hx => absurd hx (List.not_mem_nil)⟩
  · simp at hcs
    have hz : l ≤ zs.length := by rw [hz]; split <;> omega
    have hlz : (zs.take l).length = l := by rw [List.length_take]; omega
    refine ⟨some a, c, zs.take l, by rw [hlz]; exact hcs, by omega, hm, ⟨rfl, by rw [hlz]; simp only [maxLen] at hm; omega, fun _ => ⟨a, rfl, fun j p hj => ⟨[.int .u8 p], rfl, rfl, fun i u hu => ?_⟩⟩⟩, fun n hn => ?_⟩
    · have hi : i = 0 := by have := (List.getElem?_eq_some_iff.1 hu).1; simpa using this
      subst hi
      obtain rfl : (.int .u8 p : Value) = u := by simpa using hu
      have hjl := (List.getElem?_eq_some_iff.1 hj).1
      rw [hlz] at hjl
      have := hcell j (by omega)
      have e : zs.getD j 0 = p := by
        rw [List.getElem?_take, if_pos hjl] at hj
        rw [List.getD_eq_getElem?_getD, hj]; rfl
      rw [e] at this
      have e2 : j * (Kd.int IntKind.u8).sz + 0 = j := by simp [Kd.int, Kd.scalar]
      rw [e2]; exact this
    · have := Go.bounds_u8 (hwz n (List.mem_of_mem_take hn)); omega
theorem sec_cells {fuel : Nat} {cs : List Value} {x : DataW H × List MemPlace} (hl : cs.length = 6) (h : DataW.trod enc Try.prog w base spare held fuel 40 cs = some x) :
    ∃ r : S40, k40.K w r cs ∧ SecRg r := by
  obtain ⟨v0, v1, v2, v3, v4, v5, rfl⟩ := list6 hl
  obtain ⟨xs, n, _, _, _, hlen, hg⟩ := DataW.trod_struct Try.underlying40 h
  have g0 : DataW.trod enc Try.prog w base spare held n 9 (([v0, v1, v2, v3, v4, v5].drop 0).take (Try.prog.cellsOf 9)) = xs[0]? := hg 0 _ rfl
  have g1 : DataW.trod enc Try.prog w base spare held n 38 (([v0, v1, v2, v3, v4, v5].drop 1).take (Try.prog.cellsOf 38)) = xs[1]? := hg 1 _ rfl
  have g2 : DataW.trod enc Try.prog w base spare held n 38 (([v0, v1, v2, v3, v4, v5].drop 2).take (Try.prog.cellsOf 38)) = xs[2]? := hg 2 _ rfl
  have g3 : DataW.trod enc Try.prog w base spare held n 38 (([v0, v1, v2, v3, v4, v5].drop 3).take (Try.prog.cellsOf 38)) = xs[3]? := hg 3 _ rfl
  have g4 : DataW.trod enc Try.prog w base spare held n 38 (([v0, v1, v2, v3, v4, v5].drop 4).take (Try.prog.cellsOf 38)) = xs[4]? := hg 4 _ rfl
  have g5 : DataW.trod enc Try.prog w base spare held n 27 (([v0, v1, v2, v3, v4, v5].drop 5).take (Try.prog.cellsOf 27)) = xs[5]? := hg 5 _ rfl
  simp only [c9, c38, c27, List.drop_zero, List.drop_succ_cons, List.take_succ_cons, List.take_zero] at g0 g1 g2 g3 g4 g5
  have l6 : xs.length = 6 := hlen
  rw [List.getElem?_eq_getElem (by omega)] at g0 g1 g2 g3 g4 g5
  obtain ⟨s, e0, _, w0⟩ := DataW.trod_string Try.underlying9 g0
  obtain ⟨a, e1, _, w1⟩ := DataW.trod_int Try.underlying38 g1
  obtain ⟨b, e2, _, w2⟩ := DataW.trod_int Try.underlying38 g2
  obtain ⟨c, e3, _, w3⟩ := DataW.trod_int Try.underlying38 g3
  obtain ⟨d, e4, _, w4⟩ := DataW.trod_int Try.underlying38 g4
  obtain ⟨A, k, zs, e5, l5, m5, C5, B5⟩ := open_bytes g5
  simp only [List.cons.injEq, and_true] at e0 e1 e2 e3 e4
  subst e0 e1 e2 e3 e4 e5
  simp only [maxLen] at w0 m5
  exact ⟨⟨s, a, b, c, d, zs⟩, k40_mk w ⟨s, a, b, c, d, zs⟩ l5 C5, ⟨by show s.size < _; omega, lt32 w1, lt32 w2, lt32 w3, lt32 w4, B5, by show zs.length < _; omega⟩⟩
theorem sym_cells {fuel : Nat} {cs : List Value} {x : DataW H × List MemPlace} (hl : cs.length = 7) (h : DataW.trod enc Try.prog w base spare held fuel 94 cs = some x) :
    ∃ r : S94, k94.K w r cs ∧ SymRg r ∧ r.f0.size < 9223372036854775808 := by
  obtain ⟨v0, v1, v2, v3, v4, v5, v6, rfl⟩ := list7 hl
  obtain ⟨xs, n, _, _, _, hlen, hg⟩ := DataW.trod_struct Try.underlying94 h
  have g0 : DataW.trod enc Try.prog w base spare held n 9 (([v0, v1, v2, v3, v4, v5, v6].drop 0).take (Try.prog.cellsOf 9)) = xs[0]? := hg 0 _ rfl
  have g1 : DataW.trod enc Try.prog w base spare held n 38 (([v0, v1, v2, v3, v4, v5, v6].drop 1).take (Try.prog.cellsOf 38)) = xs[1]? := hg 1 _ rfl
  have g2 : DataW.trod enc Try.prog w base spare held n 38 (([v0, v1, v2, v3, v4, v5, v6].drop 2).take (Try.prog.cellsOf 38)) = xs[2]? := hg 2 _ rfl
  have g3 : DataW.trod enc Try.prog w base spare held n 5 (([v0, v1, v2, v3, v4, v5, v6].drop 3).take (Try.prog.cellsOf 5)) = xs[3]? := hg 3 _ rfl
  have g4 : DataW.trod enc Try.prog w base spare held n 5 (([v0, v1, v2, v3, v4, v5, v6].drop 4).take (Try.prog.cellsOf 5)) = xs[4]? := hg 4 _ rfl
  have g5 : DataW.trod enc Try.prog w base spare held n 4 (([v0, v1, v2, v3, v4, v5, v6].drop 5).take (Try.prog.cellsOf 4)) = xs[5]? := hg 5 _ rfl
  have g6 : DataW.trod enc Try.prog w base spare held n 3 (([v0, v1, v2, v3, v4, v5, v6].drop 6).take (Try.prog.cellsOf 3)) = xs[6]? := hg 6 _ rfl
  simp only [c9, c38, c5, c4, c3, List.drop_zero, List.drop_succ_cons, List.take_succ_cons, List.take_zero] at g0 g1 g2 g3 g4 g5 g6
  have l7 : xs.length = 7 := hlen
  rw [List.getElem?_eq_getElem (by omega)] at g0 g1 g2 g3 g4 g5 g6
  obtain ⟨s, e0, _, w0⟩ := DataW.trod_string Try.underlying9 g0
  obtain ⟨a, e1, _, w1⟩ := DataW.trod_int Try.underlying38 g1
  obtain ⟨b, e2, _, w2⟩ := DataW.trod_int Try.underlying38 g2
  obtain ⟨c, e3, _, w3⟩ := DataW.trod_int Try.underlying5 g3
  obtain ⟨d, e4, _, w4⟩ := DataW.trod_int Try.underlying5 g4
  obtain ⟨t, e5, _⟩ := DataW.trod_bool Try.underlying4 g5
  obtain ⟨i, e6, _, w6⟩ := DataW.trod_int Try.underlying3 g6
  simp only [List.cons.injEq, and_true] at e0 e1 e2 e3 e4 e5 e6
  subst e0 e1 e2 e3 e4 e5 e6
  simp only [maxLen] at w0
  have b3 := Go.bounds_u8 w3
  have b4 := Go.bounds_u8 w4
  exact ⟨⟨s, a, b, c, d, t, i⟩, k94_mk w ⟨s, a, b, c, d, t, i⟩, ⟨lt32 w1, lt32 w2, ⟨b3.1, by show c ≤ _; omega⟩, ⟨b4.1, by show d ≤ _; omega⟩⟩, by show s.size < _; omega⟩
theorem rel_cells {fuel : Nat} {cs : List Value} {x : DataW H × List MemPlace} (hl : cs.length = 5) (h : DataW.trod enc Try.prog w base spare held fuel 59 cs = some x) :
    ∃ r : S59, k59.K w r cs ∧ (0 ≤ r.f1 ∧ r.f1 < 4294967296) ∧ (0 ≤ r.f2 ∧ r.f2 ≤ 255) ∧ (-9223372036854775808 ≤ r.f3 ∧ r.f3 ≤ 9223372036854775807) ∧ (-2147483648 ≤ r.f4 ∧ r.f4 ≤ 2147483647) := by
  obtain ⟨v0, v1, v2, v3, v4, rfl⟩ := list5 hl
  obtain ⟨xs, n, _, _, _, hlen, hg⟩ := DataW.trod_struct Try.underlying59 h
  have g0 : DataW.trod enc Try.prog w base spare held n 3 (([v0, v1, v2, v3, v4].drop 0).take (Try.prog.cellsOf 3)) = xs[0]? := hg 0 _ rfl
  have g1 : DataW.trod enc Try.prog w base spare held n 38 (([v0, v1, v2, v3, v4].drop 1).take (Try.prog.cellsOf 38)) = xs[1]? := hg 1 _ rfl
  have g2 : DataW.trod enc Try.prog w base spare held n 5 (([v0, v1, v2, v3, v4].drop 2).take (Try.prog.cellsOf 5)) = xs[2]? := hg 2 _ rfl
  have g3 : DataW.trod enc Try.prog w base spare held n 3 (([v0, v1, v2, v3, v4].drop 3).take (Try.prog.cellsOf 3)) = xs[3]? := hg 3 _ rfl
  have g4 : DataW.trod enc Try.prog w base spare held n 21 (([v0, v1, v2, v3, v4].drop 4).take (Try.prog.cellsOf 21)) = xs[4]? := hg 4 _ rfl
  simp only [c38, c5, c3, c21, List.drop_zero, List.drop_succ_cons, List.take_succ_cons, List.take_zero] at g0 g1 g2 g3 g4
  have l5 : xs.length = 5 := hlen
  rw [List.getElem?_eq_getElem (by omega)] at g0 g1 g2 g3 g4
  obtain ⟨a, e0, _, w0⟩ := DataW.trod_int Try.underlying3 g0
  obtain ⟨b, e1, _, w1⟩ := DataW.trod_int Try.underlying38 g1
  obtain ⟨c, e2, _, w2⟩ := DataW.trod_int Try.underlying5 g2
  obtain ⟨d, e3, _, w3⟩ := DataW.trod_int Try.underlying3 g3
  obtain ⟨f, e4, _, w4⟩ := DataW.trod_int Try.underlying21 g4
  simp only [List.cons.injEq, and_true] at e0 e1 e2 e3 e4
  subst e0 e1 e2 e3 e4
  have b2 := Go.bounds_u8 w2
  have b3 := Go.bounds_i64 w3
  have b4 := Go.bounds_i32 w4
  exact ⟨⟨a, b, c, d, f⟩, k59_mk w ⟨a, b, c, d, f⟩, lt32 w1, ⟨b2.1, by show c ≤ _; omega⟩, ⟨by show _ ≤ d; omega, by show d ≤ _; omega⟩, ⟨by show _ ≤ f; omega, by show f ≤ _; omega⟩⟩
theorem open_list {α : Type} (d : Kd α) (z : α) {t e m : Nat} (P : α → Prop) (ht : Try.prog.underlying t = some (.slice e)) (hc : Try.prog.cellsOf e = m) (hd : d.sz = m)
    (hcell : ∀ {fuel : Nat} {cs : List Value} {x : DataW H × List MemPlace}, cs.length = m → DataW.trod enc Try.prog w base spare held fuel e cs = some x → ∃ r : α, d.K w r cs ∧ P r)
    {fuel : Nat} {v : Value} {x : DataW H × List MemPlace} (h : DataW.trod enc Try.prog w base spare held fuel t [v] = some x) :
    ∃ (A : Option Addr) (c : Nat) (xs : List α), v = .slice A xs.length c ∧ xs.length ≤ c ∧ c ≤ maxLen ∧ Kd.C d w A xs.length xs ∧ ∀ x ∈ xs, P x := by
  rcases open_slice ht h with ⟨hcs, _⟩ | ⟨a, l, c, k, n, D, Pl, hcs, _, hl, hm, hmm, _, hx⟩
  · simp at hcs
    exact ⟨none, 0, [], hcs, Nat.le_refl _, by decide, ⟨rfl, Nat.zero_le _, fun h => absurd h (Nat.lt_irrefl 0)⟩, fun x hx => absurd hx (List.not_mem_nil)⟩
  · simp at hcs
    have hlm : l ≤ k := by rw [hmm]; split <;> omega
    have each : ∀ i, i < l → ∃ rc : α × List Value, d.K w rc.1 rc.2 ∧ P rc.1 ∧ rc.2.length = m ∧ ∀ j u, rc.2[j]? = some u → w.cell? (a.add (i * m + j)) = some u := by
      intro i hi
      obtain ⟨cs', h1, h2⟩ := hx i (by omega)
      rw [hc] at h1
      obtain ⟨_, hlen, hcl⟩ := World.cells?_some h1
      obtain ⟨r, hr, hp⟩ := hcell hlen h2
      refine ⟨(r, cs'), hr, hp, hlen, fun j u hu => ?_⟩
      have hj : j < m := by rw [← hlen]; exact (List.getElem?_eq_some_iff.1 hu).1
      have := hcl j hj
      rw [Deep.add_add] at this
      rw [this, hu]
    haveI : Inhabited (α × List Value) := ⟨(z, [])⟩
    obtain ⟨f, hf⟩ := choose_lt each
    have hl2 : ((List.range l).map fun i => (f i).1).length = l := by simp
    refine ⟨some a, c, (List.range l).map fun i => (f i).1, by rw [hl2]; exact hcs, by rw [hl2]; exact hl, hm, ⟨rfl, by rw [hl2]; simp only [maxLen] at hm; omega, fun _ => ⟨a, rfl, fun j q hq => ?_⟩⟩, fun x hx => ?_⟩
    · have hj : j < l := by have := (List.getElem?_eq_some_iff.1 hq).1; simpa using this
      have hq' : (f j).1 = q := by simpa [List.getElem?_map, List.getElem?_range hj] using hq
      subst hq'
      exact ⟨(f j).2, by rw [(hf j hj).2.2.1, hd], (hf j hj).1, by rw [hd]; exact (hf j hj).2.2.2⟩
    · obtain ⟨i, hi, rfl⟩ := List.mem_map.1 hx
      exact (hf i (List.mem_range.1 hi)).2.1
set_option maxRecDepth 100000 in
theorem open_object {r : Reach} {b0 : Nat} {v : Value} {d : DataW H} {p : List MemPlace} (hv : Value.okWide Try.prog w r b0 26 v) (h : DataW.Trod enc Try.prog w base spare held 26 v d p) :
    ∃ (A0 A1 A2 : Option Addr) (k0 k1 k2 : Nat) (o : Ob), v = obV A0 A1 A2 k0 k1 k2 o ∧ ObC w A0 A1 A2 k0 k1 k2 o ∧ ObRg o ∧ (∀ r ∈ o.rels, -2147483648 ≤ r.f4 ∧ r.f4 ≤ 2147483647) := by
  obtain ⟨cs, rfl, hsz⟩ := okWide_struct Try.underlying26 hv
  obtain ⟨l⟩ := cs
  rw [c26] at hsz
  obtain ⟨v0, v1, v2, rfl⟩ := list3 hsz
  obtain ⟨fuel, hf⟩ := h
  simp only [Value.cells] at hf
  obtain ⟨xs, n, _, _, _, hlen, hg⟩ := DataW.trod_struct Try.underlying26 hf
  have g0 : DataW.trod enc Try.prog w base spare held n 22 (([v0, v1, v2].drop 0).take (Try.prog.cellsOf 22)) = xs[0]? := hg 0 _ rfl
  have g1 : DataW.trod enc Try.prog w base spare held n 23 (([v0, v1, v2].drop 1).take (Try.prog.cellsOf 23)) = xs[1]? := hg 1 _ rfl
  have g2 : DataW.trod enc Try.prog w base spare held n 24 (([v0, v1, v2].drop 2).take (Try.prog.cellsOf 24)) = xs[2]? := hg 2 _ rfl
  simp only [c22, c23, c24, List.drop_zero, List.drop_succ_cons, List.take_succ_cons, List.take_zero] at g0 g1 g2
  have l3 : xs.length = 3 := hlen
  rw [List.getElem?_eq_getElem (by omega)] at g0 g1 g2
  obtain ⟨A0, k0, secs, rfl, l0, m0, C0, P0⟩ := open_list k40 z40 SecRg Try.underlying22 c40 rfl (fun hl h => sec_cells hl h) g0
  obtain ⟨A1, k1, syms, rfl, l1, m1, C1, P1⟩ := open_list k94 z94 (fun x => SymRg x ∧ x.f0.size < 9223372036854775808) Try.underlying23 c94 rfl (fun hl h => sym_cells hl h) g1
  obtain ⟨A2, k2, rels, rfl, l2, m2, C2, P2⟩ := open_list k59 z59 (fun r => (0 ≤ r.f1 ∧ r.f1 < 4294967296) ∧ (0 ≤ r.f2 ∧ r.f2 ≤ 255) ∧ (-9223372036854775808 ≤ r.f3 ∧ r.f3 ≤ 9223372036854775807) ∧ (-2147483648 ≤ r.f4 ∧ r.f4 ≤ 2147483647)) Try.underlying24 c59 rfl (fun hl h => rel_cells hl h) g2
  simp only [maxLen] at m0 m1 m2
  exact ⟨A0, A1, A2, k0, k1, k2, ⟨secs, syms, rels⟩, rfl, ⟨C0, C1, C2, l0, l1, l2⟩, ⟨P0, P1, fun r hr => ⟨(P2 r hr).1, (P2 r hr).2.1, (P2 r hr).2.2.1⟩, by show secs.length < _; omega, by show syms.length < _; omega, by show rels.length < _; omega⟩, fun r hr => (P2 r hr).2.2.2⟩
theorem open_trod {A : Option Addr} {len cap : Nat} {d : DataW H} {p : List MemPlace} (h : DataW.Trod enc Try.prog w base spare held 27 (.slice A len cap) d p) :
    ∃ zs : List Int, zs.length = len ∧ len ≤ cap ∧ Kd.C (Kd.int .u8) w A len zs ∧ AllBytes zs := by
  obtain ⟨fuel, hf⟩ := h
  simp only [Value.cells] at hf
  obtain ⟨A', c, zs, he, l, _, C, B⟩ := open_bytes hf
  injection he with h1 h2 h3
  subst h1 h2 h3
  exact ⟨zs, rfl, l, C, B⟩
end Go.Proofs.Ytockojajbnnbpaa.OpenE
namespace Go.Proofs.Ytockojajbnnbpaa.E
open Go.RowKit Go.Proofs.Ytockojajbnnbpaa.Q Go.Proofs.YtockojajbnnbpaaW.PrintWords
set_option linter.unusedVariables false
set_option linter.unusedSimpArgs false
theorem byS_succ (n : Nat) (l : List S59) : byS (n + 1) l = byS n l ++ l.filter fun r => r.f0 == (n : Int) := by
  unfold byS
  rw [List.range_succ, List.flatMap_append]
  simp only [List.flatMap_cons, List.flatMap_nil, List.append_nil]
theorem byS_lt : ∀ (n : Nat) (l : List S59), ∀ r ∈ byS n l, r.f0 < n
  | 0, l, r, h => absurd h (List.not_mem_nil)
  | n + 1, l, r, h => by
    rw [byS_succ] at h
    rcases List.mem_append.1 h with h | h
    · have := byS_lt n l r h; omega
    · have := (List.mem_filter.1 h).2
      have : r.f0 = (n : Int) := by simpa using this
      omega
theorem byS_sorted : ∀ (n : Nat) (l : List S59), (byS n l).Pairwise fun x y => x.f0 ≤ y.f0
  | 0, l => List.Pairwise.nil
  | n + 1, l => by
    rw [byS_succ, List.pairwise_append]
    refine ⟨byS_sorted n l, ?_, fun x hx y hy => ?_⟩
    · refine List.Pairwise.imp_of_mem (R := fun _ _ => True) (fun {x y} hx hy _ => ?_) (List.pairwise_of_forall (fun _ _ => trivial))
      have h1 : x.f0 = (n : Int) := by simpa using (List.mem_filter.1 hx).2
      have h2 : y.f0 = (n : Int) := by simpa using (List.mem_filter.1 hy).2
      omega
    · have h1 := byS_lt n l x hx
      have h2 : y.f0 = (n : Int) := by simpa using (List.mem_filter.1 hy).2
      omega
theorem read_may {b : List Int} (hb : AllBytes b) {o : Ob} (h : readS b = .ok o) : MayP o ∧ ObRg o ∧ Rel32 o := by
  unfold readS at h
  cases ht : tabS b with
  | error er => rw [ht] at h; cases h
  | ok rows =>
    rw [ht] at h
    replace h : (match bodyS b rows with | none => Except.error 5 | some o => if LimP o then Except.ok o else Except.error 3 : Except Int Ob) = Except.ok o := h
    obtain ⟨hl, h52, hrl, hin⟩ := tabS_ok hb ht
    cases hbd : bodyS b rows with
    | none => rw [hbd] at h; cases h
    | some o' =>
      rw [hbd] at h
      have h : (if LimP o' then Except.ok o' else Except.error 3 : Except Int Ob) = .ok o := h
      by_cases hlim : LimP o'
      · rw [if_pos hlim] at h
        obtain rfl : o' = o := by injection h
        unfold bodyS at hbd
        cases hh : headerS b rows with
        | none => rw [hh] at hbd; cases hbd
        | some nm =>
          rw [hh, Option.bind_some] at hbd
          cases hs : secsR b rows nm with
          | none => rw [hs] at hbd; cases hbd
          | some ps =>
            rw [hs, Option.bind_some] at hbd
            cases hy : symsR b rows ps.2 with
            | none => rw [hy] at hbd; cases hbd
            | some qs =>
              rw [hy, Option.bind_some] at hbd
              cases hr : relsR b rows ps.1 ps.2 qs.2.1 qs.2.2 with
              | none => rw [hr] at hbd; cases hbd
              | some rs =>
                rw [hr, Option.bind_some] at hbd
                obtain rfl := Option.some.inj hbd
                obtain ⟨s1, s2, s3, s4⟩ := secsR_inv hb hl (fun x hx => (hin x hx).1) hs
                obtain ⟨y1, y2, y3, y4, y5⟩ := symsR_inv hb hl s1 hy
                obtain ⟨r1, r2⟩ := relsR_inv (n := qs.1.length) hb hl s1 y1 hr
                have hso := byS_sorted ps.1.length rs
                refine ⟨⟨hlim, fun s hs => (s2 s hs).1, fun i hi x hx => ?_, fun i hi x hx => ?_⟩, ObRg_read s2 y2 r1 (by omega) (by omega) (by omega), fun r hr => (r1 r (byS_mem hr)).2.2.2.2.2⟩
                · have hm := y2 x (List.mem_of_getElem? hx)
                  exact ⟨⟨hm.1, hm.2.2.2.1.2, hm.2.2.2.2.1.2, hm.2.2.2.2.2⟩, fun y h0 hy h3 => y3 i x y h0 hx hy h3⟩
                · obtain ⟨k0, k1, k2, k3, k4, k5⟩ := r1 x (byS_mem (List.mem_of_getElem? hx))
                  refine ⟨k0.1, k0.2, k4.1, k4.2, fun y h0 hy => ?_, k1, k2.2⟩
                  have hj := (List.getElem?_eq_some_iff.1 hy)
                  have hx' := (List.getElem?_eq_some_iff.1 hx)
                  have := List.pairwise_iff_getElem.1 hso (i - 1) i hj.1 hx'.1 (by omega)
                  have e1 := hj.2
                  have e2 := hx'.2
                  rw [e1, e2] at this
                  exact this
      · rw [if_neg hlim] at h; cases h
end Go.Proofs.Ytockojajbnnbpaa.E
namespace Go.Proofs.Ytockojajbnnbpaa.E
open Go.RowKit Go.Proofs.Ytockojajbnnbpaa.Q Go.Proofs.YtockojajbnnbpaaW.PrintWords Go.Proofs.YtockojajbnnbpaaW.PrintLast Go.Proofs.YtockojajbnnbpaaW.PrintMore
set_option linter.unusedVariables false
set_option linter.unusedSimpArgs false
set_option maxRecDepth 100000 in
set_option maxHeartbeats 16000000 in
theorem ElfOnce_calls {A : Option Addr} {c : Nat} {b : List Int} (hb : AllBytes b) (hl : b.length < 140737488355328) (w : World) (h : Kd.C (Kd.int .u8) w A b.length b) (hc : b.length ≤ c) :
    Calls Try.prog 8 #[.slice A b.length c] w fun e w' => e = .returned (.bool true) ∧ Below w.heap.size w w' := by
  have hu26 := Try.underlying26
  cases hr : readS b with
  | error er =>
    have her : ¬ er = 0 := by
      intro h0
      subst h0
      unfold readS at hr
      cases ht : tabS b with
      | error e =>
        rw [ht] at hr
        have e0 : e = 0 := by injection hr
        subst e0
        unfold tabS at ht
        split at ht
        · cases ht
        · split at ht
          · cases ht
          · split at ht
            · cases ht
            · split at ht <;> cases ht
      | ok rows =>
        rw [ht] at hr
        replace hr : (match bodyS b rows with | none => Except.error 5 | some o => if LimP o then Except.ok o else Except.error 3 : Except Int Ob) = Except.error 0 := hr
        cases hbd : bodyS b rows with
        | none => rw [hbd] at hr; cases hr
        | some o => 
          rw [hbd] at hr
          replace hr : (if LimP o then Except.ok o else Except.error 3 : Except Int Ob) = Except.error 0 := hr
          split at hr <;> cases hr
    have HR := Aside0.mk (Read_no hb hl hr h hc)
    have e1 : (er != 0) = true := bne_iff_ne.2 her
    have e2 : (er == 0) = false := beq_eq_false_iff_ne.2 her
    clear hr h hc hb hl
    go_enter Try.func8, Try.ntmps8
    go_wp2_with fail
    refine HR.out.mono ?_
    rintro _ w1 ⟨rfl, hb1⟩
    have HB1 := Aside0.mk (below_step hb1 (below_alloc (Below.refl _ _) (.cells #[.slice none 0 0, .slice none 0 0, .slice none 0 0] 26)))
    clear hb1 HR
    go_wp2_with fail
    refine (lives_calls _).mono ?_
    rintro _ w3 ⟨rfl, hb3⟩
    have HB3 := Aside0.mk (below_step HB1.out hb3)
    clear hb3
    go_wp2_with fail
    go_ret
    exact ⟨rfl, HB3.out⟩
  | ok o =>
    obtain ⟨hm, hg, h32⟩ := read_may hb hr
    have HR := Aside0.mk (Read_ok hb hl hr h hc)
    have HM := Aside0.mk hm
    have HG := Aside0.mk hg
    have H32 := Aside0.mk h32
    clear hr h hc hb hl hm hg h32
    go_enter Try.func8, Try.ntmps8
    go_wp2_with fail
    refine HR.out.mono ?_
    rintro _ w1 ⟨A0, A1, A2, c0, c1, c2, rfl, ho, hb1⟩
    have hal := below_alloc (Below.refl w1.heap.size w1) (.cells #[.slice A0 o.secs.length c0, .slice A1 o.syms.length c1, .slice A2 o.rels.length c2] 26)
    have HX := Aside0.mk (heap_alloc_new w1 (.cells #[.slice A0 o.secs.length c0, .slice A1 o.syms.length c1, .slice A2 o.rels.length c2] 26))
    have HB1 := Aside0.mk (below_step hb1 hal)
    have HO := Aside0.mk (ho.below hal)
    have HP := Aside0.mk (Put_calls HG.out _ (ho.below hal))
    unfold obV at *
    clear ho hal hb1 HR
    go_wp2_with fail
    refine HP.out.mono ?_
    rintro _ w2 ⟨v, L, er, rfl, hy, hn, hR, hb2⟩
    obtain ⟨hL, rfl⟩ := hy HM.out
    obtain ⟨A, c, rfl, hc, hC⟩ := Kd.R_reads hR
    have HX2 := Aside0.mk (blk_below HX.out hb2)
    have HO2 := Aside0.mk (HO.out.below hb2)
    have HB2 := Aside0.mk (below_step HB1.out hb2)
    have hbb : AllBytes L := by rw [hL]; exact put_bytes HG.out
    have hpl := put_len HM.out HG.out
    rw [← hL] at hpl
    have HLn : Aside0 (52 ≤ L.length ∧ L.length ≤ 208000) := ⟨by omega⟩
    have HLE := Aside0.mk hL
    have HC := Aside0.mk (And.intro hC hc)
    have HBB := Aside0.mk hbb
    clear hR hb2 HP HX HO HB1 hL hy hn hpl hbb hC hc
    by_cases hk : 65536 < L.length
    · have hkz : (65536 : Int) < (L.length : Int) := by omega
      have HRE := Aside0.mk (Read_no (w := w2) (A := A) (c := c) HBB.out (by have := HLn.out; omega) (long_read hk) HC.out.1 HC.out.2)
      clear hk
      go_wp2_with fail
      refine HRE.out.mono ?_
      rintro _ w3 ⟨rfl, hb3⟩
      have hal := below_alloc (Below.refl w3.heap.size w3) (.cells #[.slice none 0 0, .slice none 0 0, .slice none 0 0] 26)
      have X3 := blk_below (blk_below HX2.out hb3) hal
      have HQ := Aside0.mk (may_calls HG.out _ ((HO2.out.below hb3).below hal))
      unfold obV at HQ
      have HB3 := Aside0.mk (below_step (below_step HB2.out hb3) hal)
      have y0 : (w3.alloc (.cells #[.slice none 0 0, .slice none 0 0, .slice none 0 0] 26)).cell? ⟨w1.heap.size, 0, none⟩ = some (.slice A0 o.secs.length c0) := (blk_cell X3 0).trans rfl
      have y1 : (w3.alloc (.cells #[.slice none 0 0, .slice none 0 0, .slice none 0 0] 26)).cell? ⟨w1.heap.size, 1, none⟩ = some (.slice A1 o.syms.length c1) := (blk_cell X3 1).trans rfl
      have y2 : (w3.alloc (.cells #[.slice none 0 0, .slice none 0 0, .slice none 0 0] 26)).cell? ⟨w1.heap.size, 2, none⟩ = some (.slice A2 o.rels.length c2) := (blk_cell X3 2).trans rfl
      clear hb3 hal X3 HRE
      go_wp2_with fail
      refine HQ.out.mono ?_
      rintro _ w4 ⟨r, rfl, hr, hb4⟩
      obtain rfl := hr.2 HM.out
      have HB4 := Aside0.mk (below_step HB3.out hb4)
      clear hb4 hr
      go_wp2_with fail
      refine (lives_calls _).mono ?_
      rintro _ w5 ⟨rfl, hb5⟩
      have HB5 := Aside0.mk (below_step HB4.out hb5)
      clear hb5
      go_wp2_with fail
      go_ret
      exact ⟨rfl, HB5.out⟩
    · have hkz : ¬ (65536 : Int) < (L.length : Int) := by omega
      have HRE := Aside0.mk (Read_ok (w := w2) (A := A) (c := c) (o := o) HBB.out (by have := HLn.out; omega) (by rw [HLE.out]; exact put_read HM.out HG.out H32.out (by rw [← HLE.out]; omega)) HC.out.1 HC.out.2)
      clear hk
      go_wp2_with fail
      refine HRE.out.mono ?_
      rintro _ w3 ⟨B0, B1, B2, d0, d1, d2, rfl, hp, hb3⟩
      have hal := below_alloc (Below.refl w3.heap.size w3) (.cells #[.slice B0 o.secs.length d0, .slice B1 o.syms.length d1, .slice B2 o.rels.length d2] 26)
      have X3 := blk_below (blk_below HX2.out hb3) hal
      have HQ := Aside0.mk (may_calls HG.out _ ((HO2.out.below hb3).below hal))
      unfold obV at HQ
      have HB3 := Aside0.mk (below_step (below_step HB2.out hb3) hal)
      have HX3 := Aside0.mk X3
      have HO3 := Aside0.mk ((HO2.out.below hb3).below hal)
      have HP3 := Aside0.mk (hp.below hal)
      have HY3 := Aside0.mk (heap_alloc_new w3 (.cells #[.slice B0 o.secs.length d0, .slice B1 o.syms.length d1, .slice B2 o.rels.length d2] 26))
      have y0 : (w3.alloc (.cells #[.slice B0 o.secs.length d0, .slice B1 o.syms.length d1, .slice B2 o.rels.length d2] 26)).cell? ⟨w1.heap.size, 0, none⟩ = some (.slice A0 o.secs.length c0) := (blk_cell X3 0).trans rfl
      have y1 : (w3.alloc (.cells #[.slice B0 o.secs.length d0, .slice B1 o.syms.length d1, .slice B2 o.rels.length d2] 26)).cell? ⟨w1.heap.size, 1, none⟩ = some (.slice A1 o.syms.length c1) := (blk_cell X3 1).trans rfl
      have y2 : (w3.alloc (.cells #[.slice B0 o.secs.length d0, .slice B1 o.syms.length d1, .slice B2 o.rels.length d2] 26)).cell? ⟨w1.heap.size, 2, none⟩ = some (.slice A2 o.rels.length c2) := (blk_cell X3 2).trans rfl
      unfold obV at *
      clear hb3 hal X3 hp HRE
      go_wp2_with fail
      refine HQ.out.mono ?_
      rintro _ w4 ⟨r, rfl, hr, hb4⟩
      obtain rfl := hr.2 HM.out
      have HB4 := Aside0.mk (below_step HB3.out hb4)
      have X4 := blk_below HX3.out hb4
      have Y4 := blk_below HY3.out hb4
      have HS := Aside0.mk (rsame_calls (may_s HM.out HG.out) (may_s HM.out HG.out) (HO3.out.below hb4) (HP3.out.below hb4))
      have y0 : w4.cell? ⟨w1.heap.size, 0, none⟩ = some (.slice A0 o.secs.length c0) := (blk_cell X4 0).trans rfl
      have y1 : w4.cell? ⟨w1.heap.size, 1, none⟩ = some (.slice A1 o.syms.length c1) := (blk_cell X4 1).trans rfl
      have y2 : w4.cell? ⟨w1.heap.size, 2, none⟩ = some (.slice A2 o.rels.length c2) := (blk_cell X4 2).trans rfl
      have z0 : w4.cell? ⟨w3.heap.size, 0, none⟩ = some (.slice B0 o.secs.length d0) := (blk_cell Y4 0).trans rfl
      have z1 : w4.cell? ⟨w3.heap.size, 1, none⟩ = some (.slice B1 o.syms.length d1) := (blk_cell Y4 1).trans rfl
      have z2 : w4.cell? ⟨w3.heap.size, 2, none⟩ = some (.slice B2 o.rels.length d2) := (blk_cell Y4 2).trans rfl
      unfold obV at HS
      clear hb4 hr X4 Y4 HQ
      go_wp2_with fail
      refine HS.out.mono ?_
      rintro _ w5 ⟨r, rfl, hr, hb5⟩
      obtain rfl : r = true := by simpa using hr
      have HB5 := Aside0.mk (below_step HB4.out hb5)
      clear hb5 hr
      go_wp2_with fail
      refine (lives_calls _).mono ?_
      rintro _ w6 ⟨rfl, hb6⟩
      have HB6 := Aside0.mk (below_step HB5.out hb6)
      clear hb6
      go_wp2_with fail
      go_ret
      exact ⟨rfl, HB6.out⟩
theorem elfOnce_walk (A : Option Addr) (len cap : Nat) (zs : List Int) (w : World) (hz : zs.length = len) (hc : len ≤ cap) (h : Kd.C (Kd.int .u8) w A len zs) (hb : AllBytes zs) (hy : len * 1 ≤ 140737488351232) :
    Calls Try.prog 8 #[.slice A len cap] w fun e w' => e = .returned (.bool true) ∧ Below w.heap.size w w' := by
  subst hz
  exact ElfOnce_calls hb (by omega) w h hc
end Go.Proofs.Ytockojajbnnbpaa.E
