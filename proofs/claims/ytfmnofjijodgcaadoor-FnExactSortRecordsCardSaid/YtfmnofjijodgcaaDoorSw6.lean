/- The walks of slices.SortStableFunc's family at records, text 6: over any program that bears these bodies. Printed by a program of this session. Conditions: as written at each theorem. -/
import Derived.Test.YtfmnofjijodgcaaDoorSw2
import Derived.Test.YtfmnofjijodgcaaDoorSw3
namespace Go.Proofs.YtfmnofjijodgcaaDoor.Sw
set_option linter.unusedSimpArgs false
set_option linter.unusedSectionVars false
set_option linter.unusedVariables false
open Go.Proofs Go.Shelf Go.RowKit Go.Lib Go.Sort Go.Proofs.YtfmnofjijodgcaaDoor.Sm
variable {P : Program} {α : Type} [Inhabited α]
set_option maxHeartbeats 4000000 in
set_option maxRecDepth 1000000 in
theorem symGen {k : Nat} (S : Bare P k) (enc : α → List Value) (g : Nat) (cb : Array Value) (blk off cap : Nat) (d0 : Array α) (w0 : World) (R : RowK enc k w0 blk off d0) (ok : α → Prop) (cf : α → α → Int) (eg : ∀ args w, (callFunc g args).run P w = .ok (.enter g args) w) (hcmp : CmpB P g cb enc ok cf) (hS : SWO (ltOf cf)) (N : Nat) (ih : ∀ (a m b : Nat) (d : Array α) (w : World), b - a ≤ N → d0.size = d.size → SWD enc k w0 blk off d w → (∀ i, i < d.size → ok d[i]!) → a < m → m < b → b ≤ d.size → d.size < 4611686018427387904 → SortedIn (ltOf cf) a m d → SortedIn (ltOf cf) m b d → Calls P 136 #[.slice (some ⟨blk, off, none⟩) d.size cap, .int .i64 a, .int .i64 m, .int .i64 b, .func (.func g) #[] cb] w fun e w' => e = .returned (.tuple #[]) ∧ ∃ d' : Array α, SWD enc k w0 blk off d' w' ∧ PermIn a b d d' ∧ SortedIn (ltOf cf) a b d') (a m b : Nat) (d : Array α) (w : World) (hN : b - a ≤ N + 1) (hm1 : ¬ m = a + 1) (hb1 : ¬ b = m + 1) : d0.size = d.size → SWD enc k w0 blk off d w → (∀ i, i < d.size → ok d[i]!) → a < m → m < b → b ≤ d.size → d.size < 4611686018427387904 → SortedIn (ltOf cf) a m d → SortedIn (ltOf cf) m b d →
    Calls P 136 #[.slice (some ⟨blk, off, none⟩) d.size cap, .int .i64 a, .int .i64 m, .int .i64 b, .func (.func g) #[] cb] w fun e w' => e = .returned (.tuple #[]) ∧ ∃ d' : Array α, SWD enc k w0 blk off d' w' ∧ PermIn a b d d' ∧ SortedIn (ltOf cf) a b d' := by
  intro hs T hok ham hmb hb hsz hL hR
  have mixed := S.mixed; have aE := S.aE; have zE := S.zE; have t0 := S.t0; have a0 := S.a0; have z0 := S.z0; have v0 := S.v0; have t3 := S.t3; have a3 := S.a3; have z3 := S.z3; have v3 := S.v3; have t4 := S.t4; have a4 := S.a4; have z4 := S.z4; have v4 := S.v4; have t46 := S.t46; have a46 := S.a46; have z46 := S.z46; have v46 := S.v46; have t86 := S.t86; have a86 := S.a86; have z86 := S.z86; have v86 := S.v86; have t116 := S.t116; have a116 := S.a116; have z116 := S.z116; have v116 := S.v116; have u0 := run_underlying S.t0; have u3 := run_underlying S.t3; have u4 := run_underlying S.t4; have u46 := run_underlying S.t46; have u86 := run_underlying S.t86; have u116 := run_underlying S.t116
  have S0 : Aside (SWD enc k w0 blk off d w) := T
  have HC : Aside (CmpB P g cb enc ok cf) := hcmp
  have HOK : Aside (∀ i, i < d.size → ok d[i]!) := hok
  have HL : Aside (SortedIn (ltOf cf) a m d) := hL
  have HR : Aside (SortedIn (ltOf cf) m b d) := hR
  have IH : Aside _ := ih
  clear T hcmp hok hL hR ih
  have eME : ∀ args w, (callFunc 136 args).run P w = .ok (.enter 136 args) w := enters_of S.fME (by kernel_rfl) rfl
  have eRO : ∀ args w, (callFunc 145 args).run P w = .ok (.enter 145 args) w := enters_of S.fRO (by kernel_rfl) rfl
  have hma : IntKind.i64.wrap ((m : Int) - (a : Int)) = (m : Int) - (a : Int) := by rw [IntKind.wrap_i64]; omega
  have hbm : IntKind.i64.wrap ((b : Int) - (m : Int)) = (b : Int) - (m : Int) := by rw [IntKind.wrap_i64]; omega
  go_enter S.fME, Tryd.ntmps136
  have hm1z : ((m : Int) - (a : Int) == 1) = false := beq_eq_false_iff_ne.mpr (by omega)
  · have hb1z : ((b : Int) - (m : Int) == 1) = false := beq_eq_false_iff_ne.mpr (by omega)
    obtain ⟨mid, mid'⟩ : ∃ x, x = (a + b) / 2 := ⟨_, rfl⟩
    have HM : Hid (mid = (a + b) / 2) := mid'
    have divmid : ((a : Int) + (b : Int)) / 2 = (mid : Int) := by omega
    have bndmid : a ≤ mid ∧ (a < b → mid < b) := by omega
    clear mid'
    obtain ⟨m1, m2⟩ := bndmid
    have m2 := m2 (by omega)
    have m3 : 2 * mid ≤ a + b ∧ a + b ≤ 2 * mid + 1 := by have := HM.out; omega
    obtain ⟨m3, m4⟩ := m3
    obtain ⟨nn, nn'⟩ : ∃ x, x = mid + m := ⟨_, rfl⟩
    have HN : Hid (nn = mid + m) := nn'
    have rnn : IntKind.i64.wrap ((mid : Int) + (m : Int)) = (nn : Int) := by rw [IntKind.wrap_i64]; omega
    have n1 : nn ≤ mid + m := by omega
    have n2 : mid + m ≤ nn := by omega
    clear nn'
    go_upto_if 140 with fail
    go_cut [20, 21] (fun v20 v21 wc => ∃ s0 r0 : Nat, v20 = .int .i64 s0 ∧ v21 = .int .i64 r0 ∧ a ≤ s0 ∧ s0 ≤ r0 ∧ r0 ≤ mid ∧ r0 ≤ m ∧ nn ≤ b + s0 ∧ Aside ((s0 = a ∨ nn = b + s0) ∧ (r0 = m ∨ r0 = mid)) ∧ Aside (SWD enc k w0 blk off d wc))
    case first =>
      by_cases hmm : mid < m
      · have hmmz : (mid : Int) < (m : Int) := by omega
        obtain ⟨s0, s0'⟩ : ∃ x, x = nn - b := ⟨_, rfl⟩
        have rs0 : IntKind.i64.wrap ((nn : Int) - (b : Int)) = (s0 : Int) := by rw [IntKind.wrap_i64]; omega
        have f1 : a ≤ s0 := by omega
        have f2 : s0 ≤ mid := by omega
        have f3 : nn ≤ b + s0 := by omega
        have HS0 : Hid (nn = b + s0) := (show nn = b + s0 by omega)
        clear s0'
        go_wp2
        go_meet
        case rel => exact ⟨s0, mid, rfl, rfl, f1, f2, Nat.le_refl _, by omega, f3, show _ ∧ _ from ⟨Or.inr HS0.out, Or.inr rfl⟩, S0⟩
      · have hmmz : ¬ (mid : Int) < (m : Int) := by omega
        go_wp2
        go_meet
        case rel => exact ⟨a, m, rfl, rfl, Nat.le_refl _, by omega, by omega, Nat.le_refl _, by omega, show _ ∧ _ from ⟨Or.inl rfl, Or.inl rfl⟩, S0⟩
    case rest =>
    as_aux_lemma =>
    clear S0
    obtain ⟨s0, r0, rfl, rfl, q0, q1, q2, q3, q4, HQ, S1⟩ := hcut
    obtain ⟨pp, pp'⟩ : ∃ x, x = nn - 1 := ⟨_, rfl⟩
    have rpp : IntKind.i64.wrap ((nn : Int) - 1) = (pp : Int) := by rw [IntKind.wrap_i64]; omega
    have HP : Hid (pp = nn - 1) := pp'
    have pp1 : pp + 1 ≤ nn := by omega
    have pp2 : nn ≤ pp + 1 := by omega
    clear pp'
    go_wp2
    go_loopg [20, 21, 23] (r0 - s0) (fun kx s20 s21 s23 wr => ∃ lo hi : Nat, s20 = .int .i64 lo ∧ s21 = .int .i64 hi ∧ s0 ≤ lo ∧ lo ≤ hi ∧ hi ≤ r0 ∧ hi - lo ≤ kx ∧ Aside (SWD enc k w0 blk off d wr) ∧ Aside ((s0 < lo → ltOf cf d[nn - lo]! d[lo - 1]! = false) ∧ (hi < r0 → ltOf cf d[pp - hi]! d[hi]! = true)))
    case atStart => exact ⟨s0, r0, rfl, rfl, Nat.le_refl _, q1, Nat.le_refl _, Nat.le_refl _, S1, show _ ∧ _ from ⟨fun h => by omega, fun h => by omega⟩⟩
    case round =>
      clear S1
      obtain ⟨lo, hi, rfl, rfl, hlo, hlh, hhi, hkx, S1, I1⟩ := hrel
      by_cases hlt : lo < hi
      · have hltz : (lo : Int) < (hi : Int) := by omega
        obtain ⟨h, h'⟩ : ∃ x, x = (lo + hi) / 2 := ⟨_, rfl⟩
        have HH : Hid (h = (lo + hi) / 2) := h'
        have divh : ((lo : Int) + (hi : Int)) / 2 = (h : Int) := by omega
        have bndh : lo ≤ h ∧ (lo < hi → h < hi) := by omega
        clear h'
        obtain ⟨h1, h2⟩ := bndh
        have h2 := h2 hlt
        obtain ⟨xi, xi'⟩ : ∃ x, x = pp - h := ⟨_, rfl⟩
        have rxi : IntKind.i64.wrap ((pp : Int) - (h : Int)) = (xi : Int) := by rw [IntKind.wrap_i64]; omega
        have HXI : Hid (xi = pp - h) := xi'
        have xib : xi < d.size := by omega
        clear xi'
        have lx := S1.out.ldB R (by omega) P xi (by omega)
        have ly := S1.out.ldB R (by omega) P h (by omega)
        have hcg := HC.out.at_ (W := wr) _ _ (HOK.out xi (by omega)) (HOK.out h (by omega))
        obtain ⟨x, hx⟩ : ∃ x, d[xi]! = x := ⟨_, rfl⟩
        obtain ⟨y, hy⟩ : ∃ y, d[h]! = y := ⟨_, rfl⟩
        rw [hx] at lx hcg
        rw [hy] at ly hcg
        have XX : Hid (d[xi]! = x ∧ d[h]! = y) := ⟨hx, hy⟩
        clear hx hy
        have e1 : ((h : Int)).toNat = h := by omega
        have p1 : (0 : Int) ≤ (h : Int) := by omega
        have b1 : (h : Int) < (d.size : Int) := by omega
        have r1 : IntKind.i64.wrap ((h : Int)) = (h : Int) := by rw [IntKind.wrap_i64]; omega
        have e2 : ((xi : Int)).toNat = xi := by omega
        have p2 : (0 : Int) ≤ (xi : Int) := by omega
        have b2 : (xi : Int) < (d.size : Int) := by omega
        have r2 : IntKind.i64.wrap ((xi : Int)) = (xi : Int) := by rw [IntKind.wrap_i64]; omega
        by_cases hlv : cf x y < 0
        · have hlq : (!decide (cf x y < 0)) = false := by rw [decide_eq_true hlv]; rfl
          go_wp2_with fail
          refine wp_region_quiet_below (by assumption) (by kernel_rfl) ?_
          repeat (quiet_step (first | (go_at_fn g; exact hcg _)))
          refine wpQuiet_nil ?_
          intro _ hw'
          obtain ⟨p, hw''⟩ := hw'
          subst hw''
          have S3 : Aside (SWD enc k w0 blk off d p.W) := S1.out.below p.h
          clear lx ly hcg S1
          generalize p.W = wq at S3 ⊢
          go_wp2
          go_roundg (h - lo)
          case measure => omega
          case rel => exact ⟨lo, h, rfl, rfl, hlo, by omega, by omega, Nat.le_refl _, S3, show _ ∧ _ from ⟨I1.out.1, fun _ => by rw [← HXI.out, XX.out.1, XX.out.2]; exact decide_eq_true hlv⟩⟩
        · have hlq : (!decide (cf x y < 0)) = true := by rw [decide_eq_false hlv]; rfl
          go_wp2_with fail
          refine wp_region_quiet_below (by assumption) (by kernel_rfl) ?_
          repeat (quiet_step (first | (go_at_fn g; exact hcg _)))
          refine wpQuiet_nil ?_
          intro _ hw'
          obtain ⟨p, hw''⟩ := hw'
          subst hw''
          have S3 : Aside (SWD enc k w0 blk off d p.W) := S1.out.below p.h
          clear lx ly hcg S1
          generalize p.W = wq at S3 ⊢
          go_wp2
          go_roundg (hi - (h + 1))
          case measure => omega
          case rel => exact ⟨h + 1, hi, by go_num, rfl, by omega, by omega, hhi, Nat.le_refl _, S3, show _ ∧ _ from ⟨fun _ => by rw [Nat.add_sub_cancel, show nn - (h + 1) = xi by have := HXI.out; omega, XX.out.1, XX.out.2]; exact decide_eq_false (by omega), I1.out.2⟩⟩
      · have hltz : ¬ (lo : Int) < (hi : Int) := by omega
        have hle : hi = lo := by omega
        rw [hle] at I1 hltz ⊢
        have I2 := I1
        have hhi' : lo ≤ r0 := by omega
        clear I1 hlt hlh hkx hhi
        clear hle hi
        obtain ⟨e, e'⟩ : ∃ x, x = nn - lo := ⟨_, rfl⟩
        have re : IntKind.i64.wrap ((nn : Int) - (lo : Int)) = (e : Int) := by rw [IntKind.wrap_i64]; omega
        have HE : Hid (e = nn - lo) := e'
        have e1 : e + lo ≤ nn := by omega
        have e2 : nn ≤ e + lo := by omega
        clear e'
        have pt : ∀ d1 : Array α, Via (rotI lo m e) d d1 → _ := fun d1 hv => parts (mid := mid) hS (by omega) (by omega) (by omega) (by omega) (by omega) HL.out HR.out (fun h1 h2 => by rw [HE.out]; exact I2.out.1 (by rcases HQ.out.1 with c | c <;> omega)) (fun h1 h2 => by rw [show e - 1 = pp - lo by omega]; exact I2.out.2 (by rcases HQ.out.2 with c | c <;> omega)) hv
        have PT : Aside _ := pt
        clear pt
        go_upto_region 39 with fail
        go_cut [185] (fun vq wc => vq = .bool (decide (lo < m ∧ m < e)) ∧ Aside (SWD enc k w0 blk off d wc))
        case first =>
          by_cases c1 : lo < m
          · have c1z : (lo : Int) < (m : Int) := by omega
            by_cases c2 : m < e
            · have c2z : (m : Int) < (e : Int) := by omega
              go_wp2
              go_meet
              case rel => exact ⟨by simp [c1, c2], S1⟩
            · have c2z : ¬ (m : Int) < (e : Int) := by omega
              go_wp2
              go_meet
              case rel => exact ⟨by simp [c1, c2], S1⟩
          · have c1z : ¬ (lo : Int) < (m : Int) := by omega
            go_wp2
            go_meet
            case rel => exact ⟨by simp [c1], S1⟩
        case rest =>
        as_aux_lemma =>
        clear S1
        obtain ⟨rfl, S1⟩ := hcut
        go_upto_if 185 with fail
        go_cut [] (fun wc => ∃ d1 : Array α, d1.size = d.size ∧ Aside (SWD enc k w0 blk off d1 wc) ∧ Aside (Via (rotI lo m e) d d1 ∧ PermIn a b d d1))
        case first =>
          by_cases c1 : lo < m
          · have c1z : (lo : Int) < (m : Int) := by omega
            by_cases c2 : m < e
            · have cz : decide (lo < m ∧ m < e) = true := decide_eq_true ⟨c1, c2⟩
              have c := rotate S enc g cb blk off cap lo m e d0 d w0 _ R hs S1.out c1 c2 (by omega) hsz
              go_wp2_with (go_at_fn 145; refine c.mono ?_; rintro e' w' ⟨rfl, d', T1, V1, P1⟩)
              go_meet
              case rel => exact ⟨d', V1.1, T1, show _ ∧ _ from ⟨V1, P1 a b (by omega) (by omega) hb⟩⟩
            · have cz : decide (lo < m ∧ m < e) = false := decide_eq_false (fun z => c2 z.2)
              go_wp2
              go_meet
              case rel => exact ⟨d, rfl, S1, show _ ∧ _ from ⟨via_id d (fun x => rotI_none lo m e x (by omega) (by omega) (Or.inr (by omega))), permIn_refl _ _ _⟩⟩
          · have cz : decide (lo < m ∧ m < e) = false := decide_eq_false (fun z => c1 z.1)
            go_wp2
            go_meet
            case rel => exact ⟨d, rfl, S1, show _ ∧ _ from ⟨via_id d (fun x => rotI_none lo m e x (by omega) (by omega) (Or.inl (by omega))), permIn_refl _ _ _⟩⟩
        case rest =>
        as_aux_lemma =>
        clear S1
        obtain ⟨d1, hd1, S2, HV⟩ := hcut
        have pt := PT.out d1 HV.out.1
        have PT1 : Aside _ := pt
        clear pt PT
        have ok1 : Aside (∀ i, i < d1.size → ok d1[i]!) := fun i h => permIn_all d d1 0 d.size ok (Nat.le_refl _) (permIn_mono d d1 a b 0 d.size (Nat.zero_le _) hb (Nat.le_refl _) HV.out.2) (fun i _ h => HOK.out i h) i (Nat.zero_le _) (by omega)
        go_upto_region 41 with fail
        go_cut [199] (fun vq wc => vq = .bool (decide (a < lo ∧ lo < mid)) ∧ Aside (SWD enc k w0 blk off d1 wc))
        case first =>
          by_cases c1 : a < lo
          · have c1z : (a : Int) < (lo : Int) := by omega
            by_cases c2 : lo < mid
            · have c2z : (lo : Int) < (mid : Int) := by omega
              go_wp2
              go_meet
              case rel => exact ⟨by simp [c1, c2], S2⟩
            · have c2z : ¬ (lo : Int) < (mid : Int) := by omega
              go_wp2
              go_meet
              case rel => exact ⟨by simp [c1, c2], S2⟩
          · have c1z : ¬ (a : Int) < (lo : Int) := by omega
            go_wp2
            go_meet
            case rel => exact ⟨by simp [c1], S2⟩
        case rest =>
        as_aux_lemma =>
        clear S2
        obtain ⟨rfl, S2⟩ := hcut
        go_upto_if 199 with fail
        go_cut [] (fun wc => ∃ d2 : Array α, d2.size = d.size ∧ Aside (SWD enc k w0 blk off d2 wc) ∧ Aside (PermIn a mid d1 d2 ∧ SortedIn (ltOf cf) a mid d2))
        case first =>
          by_cases c1 : a < lo
          · have c1z : (a : Int) < (lo : Int) := by omega
            by_cases c2 : lo < mid
            · have cz : decide (a < lo ∧ lo < mid) = true := decide_eq_true ⟨c1, c2⟩
              have c := IH.out a lo mid d1 _ (by omega) (by omega) S2.out ok1.out c1 c2 (by omega) (by omega) PT1.out.1 PT1.out.2.1
              rw [hd1] at c
              go_wp2_with (go_at_fn 136; refine c.mono ?_; rintro e' w' ⟨rfl, d', T1, P1, V1⟩)
              go_meet
              case rel => exact ⟨d', P1.1.trans hd1, T1, show _ ∧ _ from ⟨P1, V1⟩⟩
            · have cz : decide (a < lo ∧ lo < mid) = false := decide_eq_false (fun z => c2 z.2)
              go_wp2
              go_meet
              case rel => exact ⟨d1, hd1, S2, show _ ∧ _ from ⟨permIn_refl _ _ _, fun i j h1 h2 h3 => PT1.out.1 i j h1 h2 (by omega)⟩⟩
          · have cz : decide (a < lo ∧ lo < mid) = false := decide_eq_false (fun z => c1 z.1)
            go_wp2
            go_meet
            case rel => exact ⟨d1, hd1, S2, show _ ∧ _ from ⟨permIn_refl _ _ _, fun i j h1 h2 h3 => PT1.out.2.1 i j (by omega) h2 h3⟩⟩
        case rest =>
        as_aux_lemma =>
        clear S2
        obtain ⟨d2, hd2, S3, HV2⟩ := hcut
        have ok2 : Aside (∀ i, i < d2.size → ok d2[i]!) := fun i h => permIn_all d1 d2 0 d1.size ok (Nat.le_refl _) (permIn_mono d1 d2 a mid 0 d1.size (Nat.zero_le _) (by omega) (Nat.le_refl _) HV2.out.1) (fun i _ h => ok1.out i h) i (Nat.zero_le _) (by omega)
        have fin : ∀ d3 : Array α, PermIn mid b d2 d3 → SortedIn (ltOf cf) mid b d3 → PermIn a b d d3 ∧ SortedIn (ltOf cf) a b d3 := fun d3 p3 s3 =>
          ⟨permIn_trans _ _ _ _ _ HV.out.2 (permIn_trans _ _ _ _ _ (permIn_mono d1 d2 a mid a b (Nat.le_refl _) (by omega) (by omega) HV2.out.1) (permIn_mono d2 d3 mid b a b (by omega) (Nat.le_refl _) (by omega) p3)), whole hS (by omega) (by omega) (by omega) HV2.out.1 HV2.out.2 p3 s3 PT1.out.2.2.2.2⟩
        have FIN : Aside _ := fin
        clear fin
        go_upto_region 43 with fail
        go_cut [213] (fun vq wc => vq = .bool (decide (mid < e ∧ e < b)) ∧ Aside (SWD enc k w0 blk off d2 wc))
        case first =>
          by_cases c1 : mid < e
          · have c1z : (mid : Int) < (e : Int) := by omega
            by_cases c2 : e < b
            · have c2z : (e : Int) < (b : Int) := by omega
              go_wp2
              go_meet
              case rel => exact ⟨by simp [c1, c2], S3⟩
            · have c2z : ¬ (e : Int) < (b : Int) := by omega
              go_wp2
              go_meet
              case rel => exact ⟨by simp [c1, c2], S3⟩
          · have c1z : ¬ (mid : Int) < (e : Int) := by omega
            go_wp2
            go_meet
            case rel => exact ⟨by simp [c1], S3⟩
        case rest =>
        as_aux_lemma =>
        clear S3
        obtain ⟨rfl, S3⟩ := hcut
        by_cases c1 : mid < e
        · have c1z : (mid : Int) < (e : Int) := by omega
          by_cases c2 : e < b
          · have cz : decide (mid < e ∧ e < b) = true := decide_eq_true ⟨c1, c2⟩
            have c := IH.out mid e b d2 _ (by omega) (by omega) S3.out ok2.out c1 c2 (by omega) (by omega) (fun i j h1 h2 h3 => by rw [HV2.out.1.2.1 i (by omega), HV2.out.1.2.1 j (by omega)]; exact PT1.out.2.2.1 i j h1 h2 h3) (fun i j h1 h2 h3 => by rw [HV2.out.1.2.1 i (by omega), HV2.out.1.2.1 j (by omega)]; exact PT1.out.2.2.2.1 i j h1 h2 h3)
            rw [hd2] at c
            go_wp2_with (go_at_fn 136; refine c.mono ?_; rintro e' w' ⟨rfl, d', T1, P1, V1⟩)
            go_end0
            exact ⟨rfl, d', T1, FIN.out d' P1 V1⟩
          · have cz : decide (mid < e ∧ e < b) = false := decide_eq_false (fun z => c2 z.2)
            go_wp2
            go_end0
            exact ⟨rfl, d2, S3.out, FIN.out d2 (permIn_refl _ _ _) (fun i j h1 h2 h3 => by rw [HV2.out.1.2.1 i (by omega), HV2.out.1.2.1 j (by omega)]; exact PT1.out.2.2.1 i j h1 h2 (by omega))⟩
        · have cz : decide (mid < e ∧ e < b) = false := decide_eq_false (fun z => c1 z.1)
          go_wp2
          go_end0
          exact ⟨rfl, d2, S3.out, FIN.out d2 (permIn_refl _ _ _) (fun i j h1 h2 h3 => by rw [HV2.out.1.2.1 i (by omega), HV2.out.1.2.1 j (by omega)]; exact PT1.out.2.2.2.1 i j (by omega) h2 h3)⟩

end Go.Proofs.YtfmnofjijodgcaaDoor.Sw
