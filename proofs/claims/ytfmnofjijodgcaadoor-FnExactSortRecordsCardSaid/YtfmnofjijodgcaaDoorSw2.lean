/- The walks of slices.SortStableFunc's family at records, text 2: over any program that bears these bodies. Printed by a program of this session. Conditions: as written at each theorem. -/
import Derived.Test.YtfmnofjijodgcaaDoorSw1
namespace Go.Proofs.YtfmnofjijodgcaaDoor.Sw
set_option linter.unusedSimpArgs false
set_option linter.unusedSectionVars false
set_option linter.unusedVariables false
open Go.Proofs Go.Shelf Go.RowKit Go.Lib Go.Sort Go.Proofs.YtfmnofjijodgcaaDoor.Sm
variable {P : Program} {α : Type} [Inhabited α]
set_option maxHeartbeats 4000000 in
set_option maxRecDepth 1000000 in
theorem rotate {k : Nat} (S : Bare P k) (enc : α → List Value) (g : Nat) (cb : Array Value) (blk off cap a m b : Nat) (d0 d : Array α) (w0 w : World) (R : RowK enc k w0 blk off d0) (hs : d0.size = d.size) (T : SWD enc k w0 blk off d w) (ham : a < m) (hmb : m < b) (hb : b ≤ d.size) (hsz : d.size < 4611686018427387904) :
    Calls P 145 #[.slice (some ⟨blk, off, none⟩) d.size cap, .int .i64 a, .int .i64 m, .int .i64 b, .func (.func g) #[] cb] w fun e w' => e = .returned (.tuple #[]) ∧ ∃ d' : Array α, SWD enc k w0 blk off d' w' ∧ Via (rotI a m b) d d' ∧ ∀ lo hi, lo ≤ a → b ≤ hi → hi ≤ d.size → PermIn lo hi d d' := by
  have mixed := S.mixed; have aE := S.aE; have zE := S.zE; have t0 := S.t0; have a0 := S.a0; have z0 := S.z0; have v0 := S.v0; have t3 := S.t3; have a3 := S.a3; have z3 := S.z3; have v3 := S.v3; have t4 := S.t4; have a4 := S.a4; have z4 := S.z4; have v4 := S.v4; have t46 := S.t46; have a46 := S.a46; have z46 := S.z46; have v46 := S.v46; have t86 := S.t86; have a86 := S.a86; have z86 := S.z86; have v86 := S.v86; have t116 := S.t116; have a116 := S.a116; have z116 := S.z116; have v116 := S.v116; have u0 := run_underlying S.t0; have u3 := run_underlying S.t3; have u4 := run_underlying S.t4; have u46 := run_underlying S.t46; have u86 := run_underlying S.t86; have u116 := run_underlying S.t116
  have S0 : Aside (SWD enc k w0 blk off d w) := T
  have SW : ∀ (x y n : Nat) (dk : Array α) (W : World), Aside (SWD enc k w0 blk off dk W) → dk.size = d.size → x + n ≤ y → y + n ≤ d.size → Calls P 151 #[.slice (some ⟨blk, off, none⟩) d.size cap, .int .i64 x, .int .i64 y, .int .i64 n, .func (.func g) #[] cb] W fun e w' => e = .returned (.tuple #[]) ∧ ∃ d' : Array α, SWD enc k w0 blk off d' w' ∧ Via (swI x y n) dk d' ∧ ∀ lo hi, lo ≤ x → y + n ≤ hi → hi ≤ dk.size → PermIn lo hi dk d' := fun x y n dk W T hd h1 h2 => by
    rw [← hd] at h2 hsz ⊢
    exact swapRange S enc g cb blk off cap x y n d0 dk w0 W R (by omega) T.out h1 h2 hsz
  clear T
  go_enter S.fRO, Tryd.ntmps145
  have hi0 : IntKind.i64.wrap ((m : Int) - (a : Int)) = ((m - a : Nat) : Int) := by rw [IntKind.wrap_i64]; omega
  have hj0 : IntKind.i64.wrap ((b : Int) - (m : Int)) = ((b - m : Nat) : Int) := by rw [IntKind.wrap_i64]; omega
  have init : ∀ d'' : Array α, Via (rotI (m - (m - a)) m (m + (b - m))) d d'' → Via (rotI a m b) d d'' := fun d'' h => by rw [show m - (m - a) = a by omega, show m + (b - m) = b by omega] at h; exact h
  have INIT : Aside (∀ d'' : Array α, Via (rotI (m - (m - a)) m (m + (b - m))) d d'' → Via (rotI a m b) d d'') := init
  clear init
  obtain ⟨i0, hi0'⟩ : ∃ x, x = m - a := ⟨_, rfl⟩
  obtain ⟨j0, hj0'⟩ : ∃ x, x = b - m := ⟨_, rfl⟩
  rw [← hi0'] at hi0 INIT
  rw [← hj0'] at hj0 INIT
  have HI0 : Hid (i0 = m - a) := hi0'
  have HJ0 : Hid (j0 = b - m) := hj0'
  have pos : 0 < i0 ∧ 0 < j0 ∧ i0 ≤ m - a ∧ j0 ≤ b - m := by omega
  obtain ⟨p1, p2, p3, p4⟩ := pos
  clear hi0' hj0'
  have eSW : ∀ args w, (callFunc 151 args).run P w = .ok (.enter 151 args) w := enters_of S.fSW (by kernel_rfl) rfl
  go_wp2
  go_loopg [10, 11] (i0 + j0) (fun kx s10 s11 wr => ∃ (i j : Nat) (dk : Array α), s10 = .int .i64 i ∧ s11 = .int .i64 j ∧ 0 < i ∧ 0 < j ∧ i ≤ m - a ∧ j ≤ b - m ∧ i + j ≤ kx ∧ dk.size = d.size ∧ Aside (SWD enc k w0 blk off dk wr) ∧ Aside ((∀ d'' : Array α, Via (rotI (m - i) m (m + j)) dk d'' → Via (rotI a m b) d d'') ∧ ∀ lo hi, lo ≤ a → b ≤ hi → hi ≤ d.size → PermIn lo hi d dk))
  case atStart => exact ⟨i0, j0, d, rfl, rfl, p1, p2, p3, p4, Nat.le_refl _, rfl, S0, show _ ∧ _ from ⟨INIT.out, fun _ _ _ _ _ => permIn_refl _ _ _⟩⟩
  case round =>
    clear S0 INIT hi0 hj0 p1 p2 p3 p4
    obtain ⟨i, j, dk, rfl, rfl, hi1, hj1, him, hjb, hkx, hds, S1, HV⟩ := hrel
    have hmi : IntKind.i64.wrap ((m : Int) - (i : Int)) = ((m - i : Nat) : Int) := by rw [IntKind.wrap_i64]; omega
    by_cases hne : i = j
    · subst hne
      have c := SW (m - i) m i dk wr S1 hds (by omega) (by omega)
      clear SW
      go_wp2_with (go_at_fn 151; refine c.mono ?_; rintro e w' ⟨rfl, d', T1, V1, P1⟩)
      go_end0
      exact ⟨rfl, d', T1, HV.out.1 d' (V1.of_eq (fun x => rotI_same m i x (by omega))), fun lo hi h1 h2 h3 => permIn_trans _ _ _ _ _ (HV.out.2 lo hi h1 h2 h3) (P1 lo hi (by omega) (by omega) (by omega))⟩
    · have hnez : ((i : Int) = (j : Int)) = False := eq_false (by omega)
      by_cases hgt : j < i
      · have hgtz : (j : Int) < (i : Int) := by omega
        have c := SW (m - i) m j dk wr S1 hds (by omega) (by omega)
        have hij : IntKind.i64.wrap ((i : Int) - (j : Int)) = ((i - j : Nat) : Int) := by rw [IntKind.wrap_i64]; omega
        go_wp2_with (go_at_fn 151; refine c.mono ?_; rintro e w' ⟨rfl, d', T1, V1, P1⟩)
        have S2 : Aside (SWD enc k w0 blk off d' _) := T1
        have HV2 : Aside (Via (swI (m - i) m j) dk d' ∧ ∀ lo hi, lo ≤ m - i → m + j ≤ hi → hi ≤ dk.size → PermIn lo hi dk d') := (show _ ∧ _ from ⟨V1, P1⟩)
        clear T1 V1 P1
        go_roundg (i - j + j)
        case measure => omega
        case rel => exact ⟨i - j, j, d', rfl, rfl, by omega, hj1, by omega, hjb, Nat.le_refl _, by rw [HV2.out.1.1]; exact hds, S2, show _ ∧ _ from ⟨fun d'' h => HV.out.1 d'' ((HV2.out.1.comp h).of_eq (fun x => rotI_more m i j x hgt (by omega))), fun lo hi h1 h2 h3 => permIn_trans _ _ _ _ _ (HV.out.2 lo hi h1 h2 h3) (HV2.out.2 lo hi (by omega) (by omega) (by omega))⟩⟩
      · have hgtz : ¬ (j : Int) < (i : Int) := by omega
        have c := SW (m - i) (m + j - i) i dk wr S1 hds (by omega) (by omega)
        have hmj : IntKind.i64.wrap ((m : Int) + (j : Int)) = ((m + j : Nat) : Int) := by rw [IntKind.wrap_i64]; omega
        have hmji : IntKind.i64.wrap (((m + j : Nat) : Int) - (i : Int)) = ((m + j - i : Nat) : Int) := by rw [IntKind.wrap_i64]; omega
        have hij : IntKind.i64.wrap ((j : Int) - (i : Int)) = ((j - i : Nat) : Int) := by rw [IntKind.wrap_i64]; omega
        obtain ⟨mj, hmj'⟩ : ∃ x, x = m + j := ⟨_, rfl⟩
        rw [← hmj'] at hmj hmji c
        have HMJ : Hid (mj = m + j) := hmj'
        clear hmj'
        go_wp2_with (go_at_fn 151; refine c.mono ?_; rintro e w' ⟨rfl, d', T1, V1, P1⟩)
        have S2 : Aside (SWD enc k w0 blk off d' _) := T1
        have HV2 : Aside (Via (swI (m - i) (mj - i) i) dk d' ∧ ∀ lo hi, lo ≤ m - i → mj - i + i ≤ hi → hi ≤ dk.size → PermIn lo hi dk d') := (show _ ∧ _ from ⟨V1, P1⟩)
        clear T1 V1 P1
        go_roundg (i + (j - i))
        case measure => omega
        case rel => exact ⟨i, j - i, d', rfl, rfl, hi1, by omega, him, by omega, Nat.le_refl _, by rw [HV2.out.1.1]; exact hds, S2, show _ ∧ _ from ⟨fun d'' h => HV.out.1 d'' ((HV2.out.1.comp h).of_eq (fun x => by rw [HMJ.out]; exact rotI_less m i j x (by omega) (by omega))), fun lo hi h1 h2 h3 => permIn_trans _ _ _ _ _ (HV.out.2 lo hi h1 h2 h3) (HV2.out.2 lo hi (by omega) (by have := HMJ.out; omega) (by omega))⟩⟩

end Go.Proofs.YtfmnofjijodgcaaDoor.Sw
