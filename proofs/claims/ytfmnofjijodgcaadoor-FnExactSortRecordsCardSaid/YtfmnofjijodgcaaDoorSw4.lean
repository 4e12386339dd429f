/- The walks of slices.SortStableFunc's family at records, text 4: over any program that bears these bodies. Printed by a program of this session. Conditions: as written at each theorem. -/
import Derived.Test.YtfmnofjijodgcaaDoorSw2
import Derived.Test.YtfmnofjijodgcaaDoorSw3
namespace Go.Proofs.YtfmnofjijodgcaaDoor.Sw
set_option linter.unusedSimpArgs false
set_option linter.unusedSectionVars false
set_option linter.unusedVariables false
open Go.Proofs Go.Shelf Go.RowKit Go.Lib Go.Sort Go.Proofs.YtfmnofjijodgcaaDoor.Sm
variable {P : Program} {α : Type} [Inhabited α]
set_option maxHeartbeats 4000000 in
set_option maxRecDepth 1000000 in
theorem symLeft {k : Nat} (S : Bare P k) (enc : α → List Value) (g : Nat) (cb : Array Value) (blk off cap : Nat) (d0 : Array α) (w0 : World) (R : RowK enc k w0 blk off d0) (ok : α → Prop) (cf : α → α → Int) (eg : ∀ args w, (callFunc g args).run P w = .ok (.enter g args) w) (hcmp : CmpB P g cb enc ok cf) (hS : SWO (ltOf cf)) (a m b : Nat) (d : Array α) (w : World) (hm1 : m = a + 1) : d0.size = d.size → SWD enc k w0 blk off d w → (∀ i, i < d.size → ok d[i]!) → a < m → m < b → b ≤ d.size → d.size < 4611686018427387904 → SortedIn (ltOf cf) a m d → SortedIn (ltOf cf) m b d →
    Calls P 136 #[.slice (some ⟨blk, off, none⟩) d.size cap, .int .i64 a, .int .i64 m, .int .i64 b, .func (.func g) #[] cb] w fun e w' => e = .returned (.tuple #[]) ∧ ∃ d' : Array α, SWD enc k w0 blk off d' w' ∧ PermIn a b d d' ∧ SortedIn (ltOf cf) a b d' := by
  intro hs T hok ham hmb hb hsz hL hR
  have mixed := S.mixed; have aE := S.aE; have zE := S.zE; have t0 := S.t0; have a0 := S.a0; have z0 := S.z0; have v0 := S.v0; have t3 := S.t3; have a3 := S.a3; have z3 := S.z3; have v3 := S.v3; have t4 := S.t4; have a4 := S.a4; have z4 := S.z4; have v4 := S.v4; have t46 := S.t46; have a46 := S.a46; have z46 := S.z46; have v46 := S.v46; have t86 := S.t86; have a86 := S.a86; have z86 := S.z86; have v86 := S.v86; have t116 := S.t116; have a116 := S.a116; have z116 := S.z116; have v116 := S.v116; have u0 := run_underlying S.t0; have u3 := run_underlying S.t3; have u4 := run_underlying S.t4; have u46 := run_underlying S.t46; have u86 := run_underlying S.t86; have u116 := run_underlying S.t116
  have S0 : Aside (SWD enc k w0 blk off d w) := T
  have HC : Aside (CmpB P g cb enc ok cf) := hcmp
  have HOK : Aside (∀ i, i < d.size → ok d[i]!) := hok
  have HL : Aside (SortedIn (ltOf cf) a m d) := hL
  have HR : Aside (SortedIn (ltOf cf) m b d) := hR
  clear T hcmp hok hL hR
  have eME : ∀ args w, (callFunc 136 args).run P w = .ok (.enter 136 args) w := enters_of S.fME (by kernel_rfl) rfl
  have eRO : ∀ args w, (callFunc 145 args).run P w = .ok (.enter 145 args) w := enters_of S.fRO (by kernel_rfl) rfl
  have hma : IntKind.i64.wrap ((m : Int) - (a : Int)) = (m : Int) - (a : Int) := by rw [IntKind.wrap_i64]; omega
  have hbm : IntKind.i64.wrap ((b : Int) - (m : Int)) = (b : Int) - (m : Int) := by rw [IntKind.wrap_i64]; omega
  go_enter S.fME, Tryd.ntmps136
  · have hm1z : ((m : Int) - (a : Int) == 1) = true := beq_iff_eq.mpr (by omega)
    have hm1a : m ≤ a + 1 := by omega
    have hm1b : a + 1 ≤ m := by omega
    have HM1 : Hid (m = a + 1) := hm1
    clear hm1
    go_wp2
    go_loopg [10, 11, 12] (b - m) (fun kx s10 s11 s12 wr => ∃ lo hi : Nat, s10 = .int .i64 lo ∧ s11 = .int .i64 hi ∧ m ≤ lo ∧ lo ≤ hi ∧ hi ≤ b ∧ hi - lo ≤ kx ∧ Aside (SWD enc k w0 blk off d wr) ∧ Aside ((m < lo → ltOf cf d[lo - 1]! d[a]! = true) ∧ (hi < b → ltOf cf d[hi]! d[a]! = false)))
    case atStart => exact ⟨m, b, rfl, rfl, Nat.le_refl _, by omega, Nat.le_refl _, by omega, S0, show _ ∧ _ from ⟨fun h => by omega, fun h => by omega⟩⟩
    case round =>
      clear S0
      obtain ⟨lo, hi, rfl, rfl, hlo, hlh, hhi, hkx, S1, I1⟩ := hrel
      by_cases hlt : lo < hi
      · have hltz : (lo : Int) < (hi : Int) := by omega
        obtain ⟨h, h'⟩ : ∃ x, x = (lo + hi) / 2 := ⟨_, rfl⟩
        have HH : Hid (h = (lo + hi) / 2) := h'
        have divh : ((lo : Int) + (hi : Int)) / 2 = (h : Int) := by omega
        have bndh : lo ≤ h ∧ (lo < hi → h < hi) := by omega
        clear h'
        obtain ⟨h1, h2⟩ := bndh
        have h2 := h2 hlt
        have lx := S1.out.ldB R (by omega) P h (by omega)
        have ly := S1.out.ldB R (by omega) P a (by omega)
        have hcg := HC.out.at_ (W := wr) _ _ (HOK.out h (by omega)) (HOK.out a (by omega))
        obtain ⟨x, hx⟩ : ∃ x, d[h]! = x := ⟨_, rfl⟩
        obtain ⟨y, hy⟩ : ∃ y, d[a]! = y := ⟨_, rfl⟩
        rw [hx] at lx hcg
        rw [hy] at ly hcg
        have XX : Hid (d[h]! = x ∧ d[a]! = y) := ⟨hx, hy⟩
        clear hx hy
        have e1 : ((h : Int)).toNat = h := by omega
        have p1 : (0 : Int) ≤ (h : Int) := by omega
        have b1 : (h : Int) < (d.size : Int) := by omega
        have r1 : IntKind.i64.wrap ((h : Int)) = (h : Int) := by rw [IntKind.wrap_i64]; omega
        have e2 : ((a : Int)).toNat = a := by omega
        have p2 : (0 : Int) ≤ (a : Int) := by omega
        have b2 : (a : Int) < (d.size : Int) := by omega
        have r2 : IntKind.i64.wrap ((a : Int)) = (a : Int) := by rw [IntKind.wrap_i64]; omega
        by_cases hlv : cf x y < 0
        · skip
          go_wp2_with fail
          refine wp_region_quiet_below (by assumption) (by kernel_rfl) ?_
          repeat (quiet_step (first | (go_at_fn g; exact hcg _)))
          refine wpQuiet_nil ?_
          intro _ hw'
          obtain ⟨p, hw''⟩ := hw'
          subst hw''
          have S3 : Aside (SWD enc k w0 blk off d p.W) := S1.out.below p.h
          clear lx ly hcg S1
          generalize p.W = wq at S3 ⊢
          go_wp2
          go_roundg (hi - (h + 1))
          case measure => omega
          case rel => exact ⟨h + 1, hi, by go_num, rfl, by omega, by omega, hhi, Nat.le_refl _, S3, show _ ∧ _ from ⟨fun _ => by rw [Nat.add_sub_cancel, XX.out.1, XX.out.2]; exact decide_eq_true hlv, I1.out.2⟩⟩
        · skip
          go_wp2_with fail
          refine wp_region_quiet_below (by assumption) (by kernel_rfl) ?_
          repeat (quiet_step (first | (go_at_fn g; exact hcg _)))
          refine wpQuiet_nil ?_
          intro _ hw'
          obtain ⟨p, hw''⟩ := hw'
          subst hw''
          have S3 : Aside (SWD enc k w0 blk off d p.W) := S1.out.below p.h
          clear lx ly hcg S1
          generalize p.W = wq at S3 ⊢
          go_wp2
          go_roundg (h - lo)
          case measure => omega
          case rel => exact ⟨lo, h, rfl, rfl, hlo, by omega, by omega, Nat.le_refl _, S3, show _ ∧ _ from ⟨I1.out.1, fun _ => by rw [XX.out.1, XX.out.2]; exact decide_eq_false (by omega)⟩⟩
      · have hltz : ¬ (lo : Int) < (hi : Int) := by omega
        have hlo1 : IntKind.i64.wrap ((lo : Int) - 1) = (lo : Int) - 1 := by rw [IntKind.wrap_i64]; omega
        have hle : hi = lo := by omega
        rw [hle] at I1
        have I2 := I1
        clear I1 hle
        go_wp2
        go_loopg [13] (lo - 1 - a) (fun kx s13 wr => ∃ (kk : Nat) (dk : Array α), s13 = .int .i64 kk ∧ a ≤ kk ∧ kk ≤ lo - 1 ∧ lo - 1 - kk ≤ kx ∧ dk.size = d.size ∧ Aside (SWD enc k w0 blk off dk wr) ∧ Aside (Via (rotI a (a + 1) (kk + 1)) d dk ∧ PermIn a b d dk))
        case atStart => exact ⟨a, d, rfl, Nat.le_refl _, by omega, Nat.le_refl _, rfl, S1, show _ ∧ _ from ⟨via_id d (fun x => rotI_none a (a + 1) (a + 1) x (by omega) (by omega) (Or.inr rfl)), permIn_refl _ _ _⟩⟩
        case round =>
          clear S1
          obtain ⟨kk, dk, rfl, hk1, hk2, hkx2, hds, S1, HV⟩ := hrel
          by_cases hk : kk < lo - 1
          · have hkz : (kk : Int) < (lo : Int) - 1 := by omega
            have ea44 : ((kk : Int)).toNat = kk := by omega
            have pa44 : (0 : Int) ≤ (kk : Int) := by omega
            have ba44 : (kk : Int) < (d.size : Int) := by omega
            have ra44 : IntKind.i64.wrap ((kk : Int)) = (kk : Int) := by rw [IntKind.wrap_i64]; omega
            have ec44 : ((kk : Int) + 1).toNat = kk + 1 := by omega
            have pc44 : (0 : Int) ≤ (kk : Int) + 1 := by omega
            have bc44 : (kk : Int) + 1 < (d.size : Int) := by omega
            have rc44 : IntKind.i64.wrap ((kk : Int) + 1) = (kk : Int) + 1 := by rw [IntKind.wrap_i64]; omega
            have S2 : Aside (SWD enc k w0 blk off (swp dk (kk) (kk + 1)) ((wr.drew.setCells blk (off + (kk) * k) (enc dk[kk + 1]!)).setCells blk (off + (kk + 1) * k) (enc dk[kk]!))) := S1.out.swapped R (kk) (kk + 1) (by omega) (by omega)
            have l44a := S1.out.ld1 R (by omega) P (kk) (by omega)
            have l44b := S1.out.ld1 R (by omega) P (kk + 1) (by omega)
            have s44a := S1.out.st1 R (by omega) P (kk) (by omega) dk[kk + 1]!
            have s44b := S1.out.st2 R (by omega) P (kk) (kk + 1) (by omega) (by omega) dk[kk + 1]! dk[kk]!
            have n44a : (enc dk[kk]!).length = k := R.hk _
            have n44b : (enc dk[kk + 1]!).length = k := R.hk _
            generalize enc dk[kk]! = cI44 at S2 l44a s44b n44a
            generalize enc dk[kk + 1]! = cJ44 at S2 l44b s44a s44b n44b
            clear S1
            go_wp2_with fail
            go_big_region_o
            clear l44a l44b s44a s44b
            generalize (wr.drew.setCells blk (off + (kk) * k) cJ44).setCells blk (off + (kk + 1) * k) cI44 = w2 at S2 ⊢
            go_wp2
            go_roundg (lo - 1 - (kk + 1))
            case measure => omega
            case rel => exact ⟨kk + 1, swp dk kk (kk + 1), by go_num, by omega, by omega, Nat.le_refl _, by rw [size_swp]; exact hds, S2, show _ ∧ _ from ⟨(HV.out.1.comp (via_swp (by omega) (by omega))).of_eq (fun x => rotI_up a kk x hk1), permIn_trans _ _ _ _ _ HV.out.2 (swp_permIn dk a b _ _ (by omega) (by omega) (by omega) (by omega) (by omega))⟩⟩
          · have hkz : ¬ (kk : Int) < (lo : Int) - 1 := by omega
            go_wp2
            (try simp only [Exit.inBlock, Exit.then])
            refine bodyPost_ret (results_none rfl _ _ _) rfl ?_
            refine ⟨rfl, dk, S1.out, HV.out.2, ?_⟩
            have hv := HV.out.1
            rw [show kk + 1 = lo by omega] at hv
            have hr := HR.out
            rw [HM1.out] at hr
            exact ins_left hS hr (by omega) (by omega) (fun h => I2.out.1 (by omega)) I2.out.2 hv

end Go.Proofs.YtfmnofjijodgcaaDoor.Sw
