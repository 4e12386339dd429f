/- The walks of slices.SortStableFunc's family at records, text 5: over any program that bears these bodies. Printed by a program of this session. Conditions: as written at each theorem. -/
import Derived.Test.YtfmnofjijodgcaaDoorSw2
import Derived.Test.YtfmnofjijodgcaaDoorSw3
namespace Go.Proofs.YtfmnofjijodgcaaDoor.Sw
set_option linter.unusedSimpArgs false
set_option linter.unusedSectionVars false
set_option linter.unusedVariables false
open Go.Proofs Go.Shelf Go.RowKit Go.Lib Go.Sort Go.Proofs.YtfmnofjijodgcaaDoor.Sm
variable {P : Program} {α : Type} [Inhabited α]
set_option maxHeartbeats 4000000 in
set_option maxRecDepth 1000000 in
theorem symRight {k : Nat} (S : Bare P k) (enc : α → List Value) (g : Nat) (cb : Array Value) (blk off cap : Nat) (d0 : Array α) (w0 : World) (R : RowK enc k w0 blk off d0) (ok : α → Prop) (cf : α → α → Int) (eg : ∀ args w, (callFunc g args).run P w = .ok (.enter g args) w) (hcmp : CmpB P g cb enc ok cf) (hS : SWO (ltOf cf)) (a m b : Nat) (d : Array α) (w : World) (hm1 : ¬ m = a + 1) (hb1 : b = m + 1) : d0.size = d.size → SWD enc k w0 blk off d w → (∀ i, i < d.size → ok d[i]!) → a < m → m < b → b ≤ d.size → d.size < 4611686018427387904 → SortedIn (ltOf cf) a m d → SortedIn (ltOf cf) m b d →
    Calls P 136 #[.slice (some ⟨blk, off, none⟩) d.size cap, .int .i64 a, .int .i64 m, .int .i64 b, .func (.func g) #[] cb] w fun e w' => e = .returned (.tuple #[]) ∧ ∃ d' : Array α, SWD enc k w0 blk off d' w' ∧ PermIn a b d d' ∧ SortedIn (ltOf cf) a b d' := by
  intro hs T hok ham hmb hb hsz hL hR
  have mixed := S.mixed; have aE := S.aE; have zE := S.zE; have t0 := S.t0; have a0 := S.a0; have z0 := S.z0; have v0 := S.v0; have t3 := S.t3; have a3 := S.a3; have z3 := S.z3; have v3 := S.v3; have t4 := S.t4; have a4 := S.a4; have z4 := S.z4; have v4 := S.v4; have t46 := S.t46; have a46 := S.a46; have z46 := S.z46; have v46 := S.v46; have t86 := S.t86; have a86 := S.a86; have z86 := S.z86; have v86 := S.v86; have t116 := S.t116; have a116 := S.a116; have z116 := S.z116; have v116 := S.v116; have u0 := run_underlying S.t0; have u3 := run_underlying S.t3; have u4 := run_underlying S.t4; have u46 := run_underlying S.t46; have u86 := run_underlying S.t86; have u116 := run_underlying S.t116
  have S0 : Aside (SWD enc k w0 blk off d w) := T
  have HC : Aside (CmpB P g cb enc ok cf) := hcmp
  have HOK : Aside (∀ i, i < d.size → ok d[i]!) := hok
  have HL : Aside (SortedIn (ltOf cf) a m d) := hL
  have HR : Aside (SortedIn (ltOf cf) m b d) := hR
  clear T hcmp hok hL hR
  have eME : ∀ args w, (callFunc 136 args).run P w = .ok (.enter 136 args) w := enters_of S.fME (by kernel_rfl) rfl
  have eRO : ∀ args w, (callFunc 145 args).run P w = .ok (.enter 145 args) w := enters_of S.fRO (by kernel_rfl) rfl
  have hma : IntKind.i64.wrap ((m : Int) - (a : Int)) = (m : Int) - (a : Int) := by rw [IntKind.wrap_i64]; omega
  have hbm : IntKind.i64.wrap ((b : Int) - (m : Int)) = (b : Int) - (m : Int) := by rw [IntKind.wrap_i64]; omega
  go_enter S.fME, Tryd.ntmps136
  have hm1z : ((m : Int) - (a : Int) == 1) = false := beq_eq_false_iff_ne.mpr (by omega)
  · have hb1z : ((b : Int) - (m : Int) == 1) = true := beq_iff_eq.mpr (by omega)
    have hb1a : b ≤ m + 1 := by omega
    have HB1 : Hid (b = m + 1) := hb1
    clear hb1
    go_wp2
    go_loopg [14, 15, 16] (m - a) (fun kx s14 s15 s16 wr => ∃ lo hi : Nat, s14 = .int .i64 lo ∧ s15 = .int .i64 hi ∧ a ≤ lo ∧ lo ≤ hi ∧ hi ≤ m ∧ hi - lo ≤ kx ∧ Aside (SWD enc k w0 blk off d wr) ∧ Aside ((a < lo → ltOf cf d[m]! d[lo - 1]! = false) ∧ (hi < m → ltOf cf d[m]! d[hi]! = true)))
    case atStart => exact ⟨a, m, rfl, rfl, Nat.le_refl _, by omega, Nat.le_refl _, by omega, S0, show _ ∧ _ from ⟨fun h => by omega, fun h => by omega⟩⟩
    case round =>
      clear S0
      obtain ⟨lo, hi, rfl, rfl, hlo, hlh, hhi, hkx, S1, I1⟩ := hrel
      by_cases hlt : lo < hi
      · have hltz : (lo : Int) < (hi : Int) := by omega
        obtain ⟨h, h'⟩ : ∃ x, x = (lo + hi) / 2 := ⟨_, rfl⟩
        have HH : Hid (h = (lo + hi) / 2) := h'
        have divh : ((lo : Int) + (hi : Int)) / 2 = (h : Int) := by omega
        have bndh : lo ≤ h ∧ (lo < hi → h < hi) := by omega
        clear h'
        obtain ⟨h1, h2⟩ := bndh
        have h2 := h2 hlt
        have lx := S1.out.ldB R (by omega) P m (by omega)
        have ly := S1.out.ldB R (by omega) P h (by omega)
        have hcg := HC.out.at_ (W := wr) _ _ (HOK.out m (by omega)) (HOK.out h (by omega))
        obtain ⟨x, hx⟩ : ∃ x, d[m]! = x := ⟨_, rfl⟩
        obtain ⟨y, hy⟩ : ∃ y, d[h]! = y := ⟨_, rfl⟩
        rw [hx] at lx hcg
        rw [hy] at ly hcg
        have XX : Hid (d[m]! = x ∧ d[h]! = y) := ⟨hx, hy⟩
        clear hx hy
        have e1 : ((h : Int)).toNat = h := by omega
        have p1 : (0 : Int) ≤ (h : Int) := by omega
        have b1 : (h : Int) < (d.size : Int) := by omega
        have r1 : IntKind.i64.wrap ((h : Int)) = (h : Int) := by rw [IntKind.wrap_i64]; omega
        have e2 : ((m : Int)).toNat = m := by omega
        have p2 : (0 : Int) ≤ (m : Int) := by omega
        have b2 : (m : Int) < (d.size : Int) := by omega
        have r2 : IntKind.i64.wrap ((m : Int)) = (m : Int) := by rw [IntKind.wrap_i64]; omega
        by_cases hlv : cf x y < 0
        · have hlq : (!decide (cf x y < 0)) = false := by rw [decide_eq_true hlv]; rfl
          go_wp2_with fail
          refine wp_region_quiet_below (by assumption) (by kernel_rfl) ?_
          repeat (quiet_step (first | (go_at_fn g; exact hcg _)))
          refine wpQuiet_nil ?_
          intro _ hw'
          obtain ⟨p, hw''⟩ := hw'
          subst hw''
          have S3 : Aside (SWD enc k w0 blk off d p.W) := S1.out.below p.h
          clear lx ly hcg S1
          generalize p.W = wq at S3 ⊢
          go_wp2
          go_roundg (h - lo)
          case measure => omega
          case rel => exact ⟨lo, h, rfl, rfl, hlo, by omega, by omega, Nat.le_refl _, S3, show _ ∧ _ from ⟨I1.out.1, fun _ => by rw [XX.out.1, XX.out.2]; exact decide_eq_true hlv⟩⟩
        · have hlq : (!decide (cf x y < 0)) = true := by rw [decide_eq_false hlv]; rfl
          go_wp2_with fail
          refine wp_region_quiet_below (by assumption) (by kernel_rfl) ?_
          repeat (quiet_step (first | (go_at_fn g; exact hcg _)))
          refine wpQuiet_nil ?_
          intro _ hw'
          obtain ⟨p, hw''⟩ := hw'
          subst hw''
          have S3 : Aside (SWD enc k w0 blk off d p.W) := S1.out.below p.h
          clear lx ly hcg S1
          generalize p.W = wq at S3 ⊢
          go_wp2
          go_roundg (hi - (h + 1))
          case measure => omega
          case rel => exact ⟨h + 1, hi, by go_num, rfl, by omega, by omega, hhi, Nat.le_refl _, S3, show _ ∧ _ from ⟨fun _ => by rw [Nat.add_sub_cancel, XX.out.1, XX.out.2]; exact decide_eq_false (by omega), I1.out.2⟩⟩
      · have hltz : ¬ (lo : Int) < (hi : Int) := by omega
        have hle : hi = lo := by omega
        rw [hle] at I1
        have I2 := I1
        clear I1 hle
        go_wp2
        go_loopg [17] (m - lo) (fun kx s17 wr => ∃ (kk : Nat) (dk : Array α), s17 = .int .i64 kk ∧ lo ≤ kk ∧ kk ≤ m ∧ kk - lo ≤ kx ∧ dk.size = d.size ∧ Aside (SWD enc k w0 blk off dk wr) ∧ Aside (Via (rotI kk m (m + 1)) d dk ∧ PermIn a b d dk))
        case atStart => exact ⟨m, d, rfl, by omega, Nat.le_refl _, Nat.le_refl _, rfl, S1, show _ ∧ _ from ⟨via_id d (fun x => rotI_none m m (m + 1) x (Nat.le_refl _) (by omega) (Or.inl rfl)), permIn_refl _ _ _⟩⟩
        case round =>
          clear S1
          obtain ⟨kk, dk, rfl, hk1, hk2, hkx2, hds, S1, HV⟩ := hrel
          by_cases hk : lo < kk
          · obtain ⟨kp, rfl⟩ : ∃ kp, kk = kp + 1 := ⟨kk - 1, by omega⟩
            have hkz : (lo : Int) < (kp : Int) + 1 := by omega
            have hwp : IntKind.i64.wrap (kp : Int) = (kp : Int) := by rw [IntKind.wrap_i64]; omega
            have ea44 : ((kp : Int) + 1).toNat = kp + 1 := by omega
            have pa44 : (0 : Int) ≤ (kp : Int) + 1 := by omega
            have ba44 : (kp : Int) + 1 < (d.size : Int) := by omega
            have ra44 : IntKind.i64.wrap ((kp : Int) + 1) = (kp : Int) + 1 := by rw [IntKind.wrap_i64]; omega
            have ec44 : ((kp : Int)).toNat = kp := by omega
            have pc44 : (0 : Int) ≤ (kp : Int) := by omega
            have bc44 : (kp : Int) < (d.size : Int) := by omega
            have rc44 : IntKind.i64.wrap ((kp : Int)) = (kp : Int) := by rw [IntKind.wrap_i64]; omega
            have S2 : Aside (SWD enc k w0 blk off (swp dk (kp + 1) (kp)) ((wr.drew.setCells blk (off + (kp + 1) * k) (enc dk[kp]!)).setCells blk (off + (kp) * k) (enc dk[kp + 1]!))) := S1.out.swapped R (kp + 1) (kp) (by omega) (by omega)
            have l44a := S1.out.ld1 R (by omega) P (kp + 1) (by omega)
            have l44b := S1.out.ld1 R (by omega) P (kp) (by omega)
            have s44a := S1.out.st1 R (by omega) P (kp + 1) (by omega) dk[kp]!
            have s44b := S1.out.st2 R (by omega) P (kp + 1) (kp) (by omega) (by omega) dk[kp]! dk[kp + 1]!
            have n44a : (enc dk[kp + 1]!).length = k := R.hk _
            have n44b : (enc dk[kp]!).length = k := R.hk _
            generalize enc dk[kp + 1]! = cI44 at S2 l44a s44b n44a
            generalize enc dk[kp]! = cJ44 at S2 l44b s44a s44b n44b
            clear S1
            go_wp2_with fail
            go_big_region_o
            clear l44a l44b s44a s44b
            generalize (wr.drew.setCells blk (off + (kp + 1) * k) cJ44).setCells blk (off + (kp) * k) cI44 = w2 at S2 ⊢
            go_wp2
            go_roundg (kp - lo)
            case measure => omega
            case rel => exact ⟨kp, swp dk (kp + 1) kp, by first | rfl | go_num | (congr 1; omega), by omega, by omega, Nat.le_refl _, by rw [size_swp]; exact hds, S2, show _ ∧ _ from ⟨(HV.out.1.comp (via_swp (by omega) (by omega))).of_eq (fun x => rotI_down kp m x (by omega)), permIn_trans _ _ _ _ _ HV.out.2 (swp_permIn dk a b _ _ (by omega) (by omega) (by omega) (by omega) (by omega))⟩⟩
          · have hkz : ¬ (lo : Int) < (kk : Int) := by omega
            go_wp2
            (try simp only [Exit.inBlock, Exit.then])
            refine bodyPost_ret (results_none rfl _ _ _) rfl ?_
            refine ⟨rfl, dk, S1.out, HV.out.2, ?_⟩
            have hv := HV.out.1
            rw [show kk = lo by omega] at hv
            rw [HB1.out]
            exact ins_right hS HL.out (by omega) (by omega) I2.out.1 I2.out.2 hv

end Go.Proofs.YtfmnofjijodgcaaDoor.Sw
