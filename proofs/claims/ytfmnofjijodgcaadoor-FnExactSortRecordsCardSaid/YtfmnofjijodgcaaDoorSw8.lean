/- The walks of slices.SortStableFunc's family at records, text 8: over any program that bears these bodies. Printed by a program of this session. Conditions: as written at each theorem. -/
import Derived.Test.YtfmnofjijodgcaaDoorSw7
namespace Go.Proofs.YtfmnofjijodgcaaDoor.Sw
set_option linter.unusedSimpArgs false
set_option linter.unusedSectionVars false
set_option linter.unusedVariables false
open Go.Proofs Go.Shelf Go.RowKit Go.Lib Go.Sort Go.Proofs.YtfmnofjijodgcaaDoor.Sm
variable {P : Program} {α : Type} [Inhabited α]
set_option maxHeartbeats 4000000 in
set_option maxRecDepth 1000000 in
theorem stable {k : Nat} (S : Bare P k) (enc : α → List Value) (g : Nat) (cb : Array Value) (blk off cap : Nat) (d0 d : Array α) (w0 w : World) (R : RowK enc k w0 blk off d0) (hs : d0.size = d.size) (T : SWD enc k w0 blk off d w) (ok : α → Prop) (cf : α → α → Int) (eg : ∀ args w, (callFunc g args).run P w = .ok (.enter g args) w) (hcmp : CmpB P g cb enc ok cf) (hok : ∀ i, i < d.size → ok d[i]!) (hS : SWO (ltOf cf)) (hsz : d.size < 1152921504606846976) :
    Calls P 115 #[.slice (some ⟨blk, off, none⟩) d.size cap, .int .i64 d.size, .func (.func g) #[] cb] w fun e w' => e = .returned (.tuple #[]) ∧ ∃ d' : Array α, SWD enc k w0 blk off d' w' ∧ PermIn 0 d.size d d' ∧ SortedIn (ltOf cf) 0 d.size d' := by
  have mixed := S.mixed; have aE := S.aE; have zE := S.zE; have t0 := S.t0; have a0 := S.a0; have z0 := S.z0; have v0 := S.v0; have t3 := S.t3; have a3 := S.a3; have z3 := S.z3; have v3 := S.v3; have t4 := S.t4; have a4 := S.a4; have z4 := S.z4; have v4 := S.v4; have t46 := S.t46; have a46 := S.a46; have z46 := S.z46; have v46 := S.v46; have t86 := S.t86; have a86 := S.a86; have z86 := S.z86; have v86 := S.v86; have t116 := S.t116; have a116 := S.a116; have z116 := S.z116; have v116 := S.v116; have u0 := run_underlying S.t0; have u3 := run_underlying S.t3; have u4 := run_underlying S.t4; have u46 := run_underlying S.t46; have u86 := run_underlying S.t86; have u116 := run_underlying S.t116
  have S0 : Aside (SWD enc k w0 blk off d w) := T
  have okp : ∀ dk : Array α, PermIn 0 d.size d dk → ∀ i, i < dk.size → ok dk[i]! := fun dk hp i h => permIn_all d dk 0 d.size ok (Nat.le_refl _) hp (fun i _ h => hok i h) i (Nat.zero_le _) (by rw [← hp.1]; exact h)
  have OKP : Aside _ := okp
  have insC : ∀ (x y : Nat) (dk : Array α) (W : World), Aside (SWD enc k w0 blk off dk W) → PermIn 0 d.size d dk → x ≤ y → y ≤ d.size → Calls P 135 #[.slice (some ⟨blk, off, none⟩) d.size cap, .int .i64 x, .int .i64 y, .func (.func g) #[] cb] W fun e w' => e = .returned (.tuple #[]) ∧ ∃ d' : Array α, SWD enc k w0 blk off d' w' ∧ PermIn x y dk d' ∧ SortedIn (ltOf cf) x y d' := fun x y dk W T hp h1 h2 => by
    have c := insertion S enc g cb blk off cap x y d0 dk w0 W R (by rw [hp.1]; exact hs) T ok cf eg hcmp (okp dk hp) h1 (by rw [hp.1]; exact h2) (by rw [hp.1]; omega)
    rw [hp.1] at c
    have q := insertionSort_holds hS dk x y h1 (by rw [hp.1]; exact h2)
    exact c.mono fun e w' ⟨he, ht⟩ => ⟨he, _, ht, q.1, q.2⟩
  have INS : Aside _ := insC
  have symC : ∀ (x m y : Nat) (dk : Array α) (W : World), Aside (SWD enc k w0 blk off dk W) → PermIn 0 d.size d dk → x < m → m < y → y ≤ d.size → SortedIn (ltOf cf) x m dk → SortedIn (ltOf cf) m y dk → Calls P 136 #[.slice (some ⟨blk, off, none⟩) d.size cap, .int .i64 x, .int .i64 m, .int .i64 y, .func (.func g) #[] cb] W fun e w' => e = .returned (.tuple #[]) ∧ ∃ d' : Array α, SWD enc k w0 blk off d' w' ∧ PermIn x y dk d' ∧ SortedIn (ltOf cf) x y d' := fun x m y dk W T hp h1 h2 h3 h4 h5 => by
    have c := symMerge S enc g cb blk off cap d0 w0 R ok cf eg hcmp hS (y - x) x m y dk W (Nat.le_refl _) (by rw [hp.1]; exact hs) T (okp dk hp) h1 h2 (by rw [hp.1]; exact h3) (by rw [hp.1]; omega) h4 h5
    rw [hp.1] at c
    exact c
  have SYM : Aside _ := symC
  clear T hcmp hok okp insC symC
  have eIN : ∀ args w, (callFunc 135 args).run P w = .ok (.enter 135 args) w := enters_of S.fIN (by kernel_rfl) rfl
  have eME : ∀ args w, (callFunc 136 args).run P w = .ok (.enter 136 args) w := enters_of S.fME (by kernel_rfl) rfl
  go_enter S.fST, Tryd.ntmps115
  go_wp2
  go_loopg [7, 8] d.size (fun kx s7 s8 wr => ∃ (t x y : Nat) (dk : Array α), s7 = .int .i64 x ∧ s8 = .int .i64 y ∧ y ≤ x + 20 ∧ x + 20 ≤ y ∧ x ≤ d.size ∧ d.size - x ≤ kx ∧ dk.size = d.size ∧ Aside (SWD enc k w0 blk off dk wr) ∧ Aside (x = 20 * t ∧ PermIn 0 d.size d dk ∧ ∀ i j, i < j → j < 20 * t → i / 20 = j / 20 → ltOf cf dk[j]! dk[i]! = false))
  case atStart => exact ⟨0, 0, 20, d, rfl, rfl, by omega, by omega, Nat.zero_le _, by omega, rfl, S0, show _ ∧ _ from ⟨rfl, permIn_refl _ _ _, fun i j h1 h2 => by omega⟩⟩
  case round =>
    clear S0
    obtain ⟨t, x, y, dk, rfl, rfl, hy1, hy2, hxn, hkx, hds, S1, HV⟩ := hrel
    by_cases hlt : y ≤ d.size
    · have hltz : (y : Int) ≤ (d.size : Int) := by omega
      have c := INS.out x y dk _ S1 HV.out.2.1 (by omega) hlt
      obtain ⟨z, z'⟩ : ∃ z, z = y + 20 := ⟨_, rfl⟩
      have HZ : Hid (z = y + 20) := z'
      have z1 : z ≤ y + 20 := by omega
      have z2 : y + 20 ≤ z := by omega
      have rz : IntKind.i64.wrap ((y : Int) + 20) = (z : Int) := by rw [IntKind.wrap_i64]; omega
      clear z'
      go_wp2_with (go_at_fn 135; refine c.mono ?_; rintro e w' ⟨rfl, d', T1, P1, V1⟩)
      have S2 : Aside (SWD enc k w0 blk off d' _) := T1
      have HV2 : Aside (PermIn x y dk d' ∧ SortedIn (ltOf cf) x y d') := (show _ ∧ _ from ⟨P1, V1⟩)
      have hds2 : d'.size = d.size := P1.1.trans hds
      clear T1 P1 V1
      go_roundg (d.size - y)
      case measure => omega
      case rel =>
        refine ⟨t + 1, y, z, d', rfl, rfl, z1, z2, hlt, Nat.le_refl _, hds2, S2, show _ ∧ _ from ⟨by have := HV.out.1; omega, permIn_trans _ _ _ _ _ HV.out.2.1 (permIn_mono dk d' x y 0 d.size (Nat.zero_le _) hlt (by omega) HV2.out.1), ?_⟩⟩
        have hx := HV.out.1
        have q1 := HV2.out.1
        have q2 := HV2.out.2
        rw [hx] at q1 q2
        have := blocks_next (bs := 20) (t := t) (n := d.size) (y := y) (d := dk) (d' := d') (by decide) HV.out.2.2 q1 q2 (by omega)
        rw [show 20 * (t + 1) = y by omega]
        exact this
    · have hltz : ¬ (y : Int) ≤ (d.size : Int) := by omega
      have c := INS.out x d.size dk _ S1 HV.out.2.1 hxn (Nat.le_refl _)
      go_wp2_with (go_at_fn 135; refine c.mono ?_; rintro e w' ⟨rfl, d', T1, P1, V1⟩)
      have S2 : Aside (SWD enc k w0 blk off d' _) := T1
      have q0 : Blocks (ltOf cf) 20 0 d.size d' := by
        have hx := HV.out.1
        have q1 := P1
        have q2 := V1
        rw [hx] at q1 q2
        have := blocks_next (bs := 20) (t := t) (n := d.size) (y := d.size) (d := dk) (d' := d') (by decide) HV.out.2.2 q1 q2 (by omega)
        exact fun i j _ h1 h2 h3 => this i j h1 h2 h3
      have HV2 : Aside (PermIn 0 d.size d d' ∧ Blocks (ltOf cf) 20 0 d.size d') := (show _ ∧ _ from ⟨permIn_trans _ _ _ _ _ HV.out.2.1 (permIn_mono dk d' x d.size 0 d.size (Nat.zero_le _) (Nat.le_refl _) (by omega) P1), q0⟩)
      have hds2 : d'.size = d.size := P1.1.trans hds
      clear T1 P1 V1 q0 HV S1 hds c
      go_wp2
      go_loopg [6, 7, 8, 9] d.size (fun kx s6 s7 s8 s9 wr => ∃ (bs : Nat) (dk : Array α), s6 = .int .i64 bs ∧ 0 < bs ∧ d.size - bs ≤ kx ∧ dk.size = d.size ∧ Aside (SWD enc k w0 blk off dk wr) ∧ Aside (PermIn 0 d.size d dk ∧ Blocks (ltOf cf) bs 0 d.size dk))
      case atStart => exact ⟨20, d', rfl, by omega, by omega, hds2, S2, HV2⟩
      case round =>
        clear S2 HV2 hds2
        obtain ⟨bs, dk2, rfl, hbs, hkx2, hds, S1, HV⟩ := hrel
        by_cases hbn : bs < d.size
        · have hbnz : (bs : Int) < (d.size : Int) := by omega
          obtain ⟨c, c'⟩ : ∃ z, z = 2 * bs := ⟨_, rfl⟩
          have HCC : Hid (c = 2 * bs) := c'
          have c1 : c ≤ 2 * bs := by omega
          have c2 : 2 * bs ≤ c := by omega
          have rc : IntKind.i64.wrap (2 * (bs : Int)) = (c : Int) := by rw [IntKind.wrap_i64]; omega
          have rc2 : IntKind.i64.wrap ((bs : Int) * 2) = (c : Int) := by rw [IntKind.wrap_i64]; omega
          clear c'
          go_wp2
          go_loopg [7, 8] d.size (fun kx s7 s8 wr => ∃ (t x y : Nat) (dk : Array α), s7 = .int .i64 x ∧ s8 = .int .i64 y ∧ y ≤ x + c ∧ x + c ≤ y ∧ x ≤ d.size ∧ d.size - x ≤ kx ∧ dk.size = d.size ∧ Aside (SWD enc k w0 blk off dk wr) ∧ Aside (x = c * t ∧ PermIn 0 d.size d dk ∧ (∀ i j, i < j → j < c * t → i / c = j / c → ltOf cf dk[j]! dk[i]! = false) ∧ Blocks (ltOf cf) bs x d.size dk))
          case atStart => exact ⟨0, 0, c, dk2, rfl, rfl, by omega, by omega, Nat.zero_le _, by omega, hds, S1, show _ ∧ _ from ⟨rfl, HV.out.1, fun i j h1 h2 => by rw [Nat.mul_zero] at h2; omega, HV.out.2⟩⟩
          case round =>
            clear S1 HV hds dk2
            obtain ⟨t, x, y, dk, rfl, rfl, hy1, hy2, hxn, hkx3, hds, S1, HV⟩ := hrel
            have hx2 : Hid (bs * (2 * t) = x) := by
              show bs * (2 * t) = x
              rw [HV.out.1, HCC.out, Nat.mul_left_comm, Nat.mul_assoc]
            have hx3 : Hid (bs * (2 * t + 1) = x + bs) := by
              show bs * (2 * t + 1) = x + bs
              rw [Nat.mul_add, hx2.out, Nat.mul_one]
            obtain ⟨xm, xm'⟩ : ∃ z, z = x + bs := ⟨_, rfl⟩
            have HXM : Hid (xm = x + bs) := xm'
            have xm1 : xm ≤ x + bs := by omega
            have xm2 : x + bs ≤ xm := by omega
            have rxm : IntKind.i64.wrap ((x : Int) + (bs : Int)) = (xm : Int) := by rw [IntKind.wrap_i64]; omega
            clear xm'
            by_cases hyn : y ≤ d.size
            · have hynz : (y : Int) ≤ (d.size : Int) := by omega
              obtain ⟨z, z'⟩ : ∃ z, z = y + c := ⟨_, rfl⟩
              have HZ : Hid (z = y + c) := z'
              have z1 : z ≤ y + c := by omega
              have z2 : y + c ≤ z := by omega
              have rz : IntKind.i64.wrap ((y : Int) + (c : Int)) = (z : Int) := by rw [IntKind.wrap_i64]; omega
              clear z'
              have cc := SYM.out x xm y dk _ S1 HV.out.2.1 (by omega) (by omega) hyn (blocks_sorted HV.out.2.2.2 hbs (2 * t) (Nat.le_refl _) (by rw [hx2.out]; omega) (by rw [hx2.out]; omega) (by omega)) (blocks_sorted HV.out.2.2.2 hbs (2 * t + 1) (by omega) (by rw [hx3.out]; omega) (by rw [hx3.out]; omega) hyn)
              go_wp2_with (go_at_fn 136; refine cc.mono ?_; rintro e w' ⟨rfl, d', T1, P1, V1⟩)
              have S2 : Aside (SWD enc k w0 blk off d' _) := T1
              have HV2 : Aside (PermIn x y dk d' ∧ SortedIn (ltOf cf) x y d') := (show _ ∧ _ from ⟨P1, V1⟩)
              have hds2 : d'.size = d.size := P1.1.trans hds
              clear T1 P1 V1
              go_roundg (d.size - y)
              case measure => omega
              case rel =>
                have hx := HV.out.1
                have q1 := HV2.out.1
                have q2 := HV2.out.2
                have ec : c * (t + 1) = y := by rw [Nat.mul_add, ← hx, Nat.mul_one]; omega
                refine ⟨t + 1, y, z, d', rfl, rfl, z1, z2, hyn, Nat.le_refl _, hds2, S2, show _ ∧ _ from ⟨ec.symm, permIn_trans _ _ _ _ _ HV.out.2.1 (permIn_mono dk d' x y 0 d.size (Nat.zero_le _) hyn (by omega) HV2.out.1), ?_, ?_⟩⟩
                · have q1' := q1
                  have q2' := q2
                  rw [hx] at q1' q2'
                  rw [ec]
                  exact blocks_next (bs := c) (t := t) (n := d.size) (y := y) (d := dk) (d' := d') (by omega) HV.out.2.2.1 q1' q2' (by rw [← hx]; omega)
                · intro i j h1 h2 h3 h4
                  rw [q1.2.1 i (Or.inr h1), q1.2.1 j (Or.inr (by omega))]
                  exact HV.out.2.2.2 i j (by omega) h2 h3 h4
            · have hynz : ¬ (y : Int) ≤ (d.size : Int) := by omega
              have fin : ∀ d' : Array α, PermIn x d.size dk d' → SortedIn (ltOf cf) x d.size d' → d'.size = d.size ∧ PermIn 0 d.size d d' ∧ Blocks (ltOf cf) c 0 d.size d' := fun d' q1 q2 => by
                refine ⟨q1.1.trans hds, permIn_trans _ _ _ _ _ HV.out.2.1 (permIn_mono dk d' x d.size 0 d.size (Nat.zero_le _) (Nat.le_refl _) (by omega) q1), ?_⟩
                have hx := HV.out.1
                have q1' := q1
                have q2' := q2
                rw [hx] at q1' q2'
                have := blocks_next (bs := c) (t := t) (n := d.size) (y := d.size) (d := dk) (d' := d') (by omega) HV.out.2.2.1 q1' q2' (by rw [← hx]; omega)
                exact fun i j _ h1 h2 h3 => this i j h1 h2 h3
              have FIN : Aside _ := fin
              clear fin
              by_cases hxm : xm < d.size
              · have hxmz : (xm : Int) < (d.size : Int) := by omega
                have cc := SYM.out x xm d.size dk _ S1 HV.out.2.1 (by omega) hxm (Nat.le_refl _) (blocks_sorted HV.out.2.2.2 hbs (2 * t) (Nat.le_refl _) (by rw [hx2.out]; omega) (by rw [hx2.out]; omega) (by omega)) (blocks_sorted HV.out.2.2.2 hbs (2 * t + 1) (by omega) (by rw [hx3.out]; omega) (by rw [hx3.out]; omega) (Nat.le_refl _))
                go_wp2_with (go_at_fn 136; refine cc.mono ?_; rintro e w' ⟨rfl, d', T1, P1, V1⟩)
                have S2 : Aside (SWD enc k w0 blk off d' _) := T1
                have F : Aside (d'.size = d.size ∧ PermIn 0 d.size d d' ∧ Blocks (ltOf cf) c 0 d.size d') := FIN.out d' P1 V1
                clear T1 P1 V1 FIN
                go_roundg (d.size - c)
                case measure => omega
                case rel => exact ⟨c, d', rfl, by omega, Nat.le_refl _, F.out.1, S2, F.out.2⟩
              · have hxmz : ¬ (xm : Int) < (d.size : Int) := by omega
                have F : Aside (dk.size = d.size ∧ PermIn 0 d.size d dk ∧ Blocks (ltOf cf) c 0 d.size dk) := FIN.out dk (permIn_refl _ _ _) (blocks_sorted HV.out.2.2.2 hbs (2 * t) (Nat.le_refl _) (by rw [hx2.out]; omega) (by rw [hx2.out]; omega) (Nat.le_refl _))
                clear FIN
                go_wp2
                go_roundg (d.size - c)
                case measure => omega
                case rel => exact ⟨c, dk, rfl, by omega, Nat.le_refl _, F.out.1, S1, F.out.2⟩
        · have hbnz : ¬ (bs : Int) < (d.size : Int) := by omega
          go_wp2
          go_end0
          exact ⟨rfl, dk2, S1.out, HV.out.1, fun i j h1 h2 h3 => HV.out.2 i j h1 h2 h3 (by rw [Nat.div_eq_of_lt (by omega), Nat.div_eq_of_lt (by omega)])⟩

end Go.Proofs.YtfmnofjijodgcaaDoor.Sw
