/-
pinnaceref13.Walk, walked: the parts of any chain of a ring that may be, as the program tells them.
No condition.
-/
import Derived.Test.YtcmbnkmbaghkdaaDoorRef13D
import Derived.Test.YtcmbnkmbaghkdaaDoorVioRow
import Derived.Deep.CutRange
namespace Go.Proofs.YtcmbnkmbaghkdaaDoor
open Go.RowKit
set_option linter.unusedVariables false

theorem loadB_some (v : Nat) : loadB (some v) = .tuple #[.int .u32 v, .bool true] := rfl
theorem loadB_none : loadB none = .tuple #[.int .u32 0, .bool false] := rfl
def Walk13Post (w : World) (R : Option (List Sg)) (e : Ending) (w' : World) : Prop :=
  ∃ sv, e = .returned (.tuple #[sv, .int .i64 ((if R.isSome then 0 else 22 : Nat) : Int)]) ∧ Below w.heap.size w w' ∧ w'.ownsRow w.heap.size 205 3 sv (R.getD []).length (flatS (R.getD []))
theorem info_seg13 : ∃ i, Tryd.prog.info? 205 = some i ∧ i.zero = some (.agg #[.int .u32 0, .int .i64 0, .bool false]) ∧ i.size = 3 ∧ i.bytes = 24 := by
  have h : (Tryd.prog.info? 205).map (fun i => (i.zero, i.size, i.bytes)) = some (some (.agg #[.int .u32 0, .int .i64 0, .bool false]), 3, 24) := by kernel_rfl
  cases hq : Tryd.prog.info? 205 with
  | none => rw [hq] at h; cases h
  | some i =>
    rw [hq] at h
    simp only [Option.map_some, Option.some.injEq, Prod.mk.injEq] at h
    exact ⟨i, rfl, h.1, h.2.1, h.2.2⟩
/-- What a round of the reference's Walk holds. -/
structure W13 (w W : World) (rc rm : Array Value) (sv : Value) (acc : List Sg) : Prop where
  low : Below w.heap.size w W
  k0 : W.heap[w.heap.size]? = some (.cells rc 52 (0, 0))
  k1 : W.heap[w.heap.size + 1]? = some (.cells rm 65 (0, 0))
  ow : W.ownsRow (w.heap.size + 1 + 1) 205 3 sv acc.length (flatS acc)
theorem W13.below {w W W' : World} {rc rm : Array Value} {sv : Value} {acc : List Sg} (h : W13 w W rc rm sv acc) (hb : Below W.heap.size W W') : W13 w W' rc rm sv acc :=
  ⟨h.low.trans (hb.mono h.low.size), keepB h.k0 hb, keepB h.k1 hb, ownsRow_keep h.ow (fun q hq => hb.block q (ownsRow_lt h.ow hq).2)⟩
theorem W13.fin {w W : World} {rc rm : Array Value} {sv : Value} {acc : List Sg} (h : W13 w W rc rm sv acc) : Walk13Post w (some acc) (.returned (.tuple #[sv, .int .i64 0])) W :=
  ⟨sv, rfl, h.low, h.ow.mono (by omega)⟩
theorem W13.bad {w W : World} {rc rm : Array Value} {sv : Value} {acc : List Sg} (h : W13 w W rc rm sv acc) : Walk13Post w none (.returned (.tuple #[.slice none 0 0, .int .i64 22])) W :=
  ⟨.slice none 0 0, rfl, h.low, World.ownsRow_nil _ _ _ _⟩
theorem below_grown {w W W' : World} {b : Option Nat} (h : Below w.heap.size w W) (hg : W.grownBy W' b) (hb : ∀ k, b = some k → w.heap.size ≤ k) : Below w.heap.size w W' :=
  ⟨hg.os.trans h.os, hg.tape.trans h.tape, hg.output.trans h.output, Nat.le_trans h.size hg.size, fun k hk => (hg.block k (Nat.lt_of_lt_of_le hk h.size) (fun e => absurd (hb k e.symm) (Nat.not_le_of_lt hk))).trans (h.block k hk)⟩
set_option maxRecDepth 100000 in
set_option maxHeartbeats 16000000 in
theorem ref13_Walk_in (m : Mm) (b1 c1 b2 n2 c2 : Nat) (qq : Int) (size de av us la pu : Nat) (head : Int) (R : Option (List Sg)) (w : World) (r : Row w b1 5 (4096 * m.n) (cellU m.f)) (hmn : m.n ≤ 16384) (hs1 : 1 ≤ size) (hs2 : size ≤ 256) (hde : de < 4294967296) (hd16 : de % 16 = 0) (hR : rwalk de size m head = R)
    (HC : Hid (∀ W, Calls Tryd.prog 84 #[.agg #[.int .i64 size, .int .u32 de, .int .u32 av, .int .u32 us, .int .u16 la, .int .u16 pu]] W fun e w' => e = .returned (.int .i64 0) ∧ Below W.heap.size W w')) :
    Calls Tryd.prog 49 #[.agg #[.int .i64 size, .int .u32 de, .int .u32 av, .int .u32 us, .int .u16 la, .int .u16 pu], .agg (refC b1 (4096 * m.n) c1 b2 n2 c2 qq), .int .i64 head] w (Walk13Post w R) := by
  obtain ⟨k0, k1, hb0⟩ := two_new w (.cells #[.int .i64 size, .int .u32 de, .int .u32 av, .int .u32 us, .int .u16 la, .int .u16 pu] 52) (.cells (refC b1 (4096 * m.n) c1 b2 n2 c2 qq) 65)
  have K0 := Lib.hid k0
  have K1 := Lib.hid k1
  have HB := Lib.hid hb0
  have HLD := Lib.hid (fun W (hb : Below w.heap.size w W) (A j k : Nat) (ai ki : Int) (ea : ai = ((A + j : Nat) : Int)) (ek : ki = (k : Int)) (hA : A + j < 4294967296) (hk : k = 2 ∨ k = 4) (hd : (A + j) % k = 0) => ref13_load m.f (4096 * m.n) b1 c1 b2 n2 c2 qq (A + j) k ai ki ea ek W (r.below hb) hk hA hd (by omega) (by omega))
  have HTH := Lib.hid (fun W (a n : Nat) (ha : a < 4294967296) (hn : n ≤ 1048576) => ref13_there (4096 * m.n) b1 c1 b2 n2 c2 qq a n W ha hn (by omega))
  have HRR : Hid (rwalkF de size m size head 0 false [] = R) := Lib.hid hR
  have HDE := Lib.hid (And.intro hde hd16)
  obtain ⟨rc, hrc⟩ : ∃ rc, rc = refC b1 (4096 * m.n) c1 b2 n2 c2 qq := ⟨_, rfl⟩
  rw [← hrc] at K0 K1 HB HLD HTH ⊢
  have HIR : Hid ((Tryd.prog.info? 65).map (·.size) = some rc.size) := Lib.hid (by rw [hrc]; kernel_rfl)
  have hsz1 : (1 : Int) ≤ (size : Int) := by omega
  have hsz2 : (size : Int) ≤ 256 := by omega
  clear k0 k1 hb0 r hmn hde hd16 hR hrc
  go_enter Tryd.func49, Tryd.ntmps49
  go_wp2_with (first | go_skip | (refine wpList_load_row rfl 52 _ rfl w.heap.size rfl 52 #[.int .i64 size, .int .u32 de, .int .u32 av, .int .u32 us, .int .u16 la, .int .u16 pu] (0, 0) _ K0.out Tryd.underlying52 rfl (by kernel_rfl) ?_))
  refine (HC.out _).mono ?_
  rintro e w1 ⟨rfl, hb⟩
  have H1 : Hid (W13 w w1 #[.int .i64 size, .int .u32 de, .int .u32 av, .int .u32 us, .int .u16 la, .int .u16 pu] rc (.slice none 0 0) []) := Lib.hid ⟨HB.out.trans (hb.mono HB.out.size), keepB K0.out hb, keepB K1.out hb, World.ownsRow_nil _ _ _ _⟩
  clear hb K0 K1 HB HC
  go_wp2_with fail
  go_loopw [8, 9, 10, 11, 12] (fun l sm a wb many wx => ∃ (acc : List Sg) (s : Nat) (at_ : Int) (b : Bool) (av0 : Option Addr) (cv : Nat), l = .slice av0 acc.length cv ∧ sm = .int .i64 s ∧ a = .int .i64 at_ ∧ wb = .bool b ∧ many = .int .i64 acc.length ∧ acc.length ≤ size ∧ s ≤ 1048576 ∧ rwalkF de size m (size - acc.length) at_ s b acc = R ∧ W13 w wx #[.int .i64 size, .int .u32 de, .int .u32 av, .int .u32 us, .int .u16 la, .int .u16 pu] rc (.slice av0 acc.length cv) acc) (fun l sm a wb many wx => size - (intOf many).toNat)
  case atStart => exact ⟨[], 0, head, false, none, 0, rfl, rfl, rfl, rfl, rfl, by simp, by omega, HRR.out, H1.out⟩
  case round =>
    obtain ⟨acc, s, at_, b, av0, cv, rfl, rfl, rfl, rfl, rfl, hn, hs, hres, hw13⟩ := hrel
    have HW := Lib.hid hw13
    have HRES := Lib.hid hres
    have HSS := Lib.hid hs
    clear hw13 hres hs H1 HRR
    obtain ⟨n, hnl⟩ : ∃ n, n = acc.length := ⟨_, rfl⟩
    rw [← hnl] at hn HRES ⊢
    have HNL := Lib.hid hnl
    have HOW := Lib.hid (show wr.ownsRow (w.heap.size + 1 + 1) 205 3 (.slice av0 n cv) n (flatS acc) by have := HW.out.ow; rw [← hnl] at this; exact this)
    clear hnl
    have hn0 : (0 : Int) ≤ (n : Int) := by omega
    have hnz : (n : Int) ≤ (size : Int) := by omega
    have cs := (cell_of_row _ _ 0 _ _ _ HW.out.k0).trans (rfl : _ = some (.int .i64 size : Value))
    have cd := (cell_of_row _ _ 1 _ _ _ HW.out.k0).trans (rfl : _ = some (.int .u32 de : Value))
    by_cases hlt : n < size
    · have hlt' : (n : Int) < (size : Int) := by omega
      obtain ⟨k, hk⟩ : ∃ k, size - n = k + 1 := ⟨size - n - 1, by omega⟩
      rw [hk] at HRES
      have HK := Lib.hid hk
      clear hk
      by_cases hr : 0 ≤ at_ ∧ at_ < (size : Int)
      · obtain ⟨i, rfl⟩ : ∃ i : Nat, at_ = (i : Int) := ⟨at_.toNat, by omega⟩
        have hi0 : (0 : Int) ≤ (i : Int) := by omega
        have hi2 : (i : Int) < (size : Int) := by omega
        have hi1 : (i : Int) < 256 := by omega
        have HI : Hid (i < size) := Lib.hid (by omega)
        clear hr
        go_upto_region 11 with fail
        obtain ⟨A, hA⟩ : ∃ A, A = (de + 16 * i) % 4294967296 := ⟨_, rfl⟩
        rw [show ((de : Int) + 16 * (i : Int)) % 4294967296 = (A : Int) by omega]
        have HA : Hid (A % 16 = 0 ∧ A + 16 ≤ 4294967296) := Lib.hid (by have := HDE.out; omega)
        have HAE := Lib.hid hA
        have hA0 : (0 : Int) ≤ (A : Int) := by omega
        clear hA cs cd
        have hw4 : IntKind.u32.wrap ((A : Int) + 4) = ((A + 4 : Nat) : Int) := by rw [IntKind.wrap_u32]; have := HA.out; omega
        have hw8 : IntKind.u32.wrap ((A : Int) + 8) = ((A + 8 : Nat) : Int) := by rw [IntKind.wrap_u32]; have := HA.out; omega
        have hw12 : IntKind.u32.wrap ((A : Int) + 12) = ((A + 12 : Nat) : Int) := by rw [IntKind.wrap_u32]; have := HA.out; omega
        have hw14 : IntKind.u32.wrap ((A : Int) + 14) = ((A + 14 : Nat) : Int) := by rw [IntKind.wrap_u32]; have := HA.out; omega
        by_cases hin : descIn m A
        · obtain ⟨x0, x1, x2, mk, nx, hbd, r0, r1, r2, r3, r4, hrd⟩ := rdesc_half hin
          have HRD : Hid (rdesc m ((de + 16 * i) % 4294967296) = if x1 = 0 ∧ mk < 4 ∧ x2 ≤ 1048576 ∧ lies m x0 x2 then some (⟨x0, x2, decide (mk / 2 = 1)⟩, if mk % 2 = 1 then (nx : Int) else -1) else none) := Lib.hid (by rw [← HAE.out]; exact hrd)
          have HRL := Lib.hid (And.intro (show rload m (A + 0) 4 = some x0 from r0) (And.intro r1 (And.intro r2 (And.intro r3 r4))))
          have HBD := Lib.hid hbd
          clear hrd r0 r1 r2 r3 r4 hbd hin
          have HL0 := Lib.hid (HLD.out wr HW.out.low A 0 4 ((A : Int)) 4 (by simp) rfl (by have := HA.out; omega) (.inr rfl) (by have := HA.out; omega))
          rw [show rloadN m.f (4096 * m.n) (A + 0) 4 = _ from HRL.out.1, loadB_some] at HL0
          go_wp2_with (first | go_skip | (refine wpList_load_row rfl 65 _ rfl (w.heap.size + 1) rfl 65 rc (0, 0) _ HW.out.k1 Tryd.underlying65 rfl HIR.out ?_))
          refine (HL0.out).mono ?_
          rintro e w2 ⟨rfl, hb⟩
          have H2 := Lib.hid (HW.out.below hb)
          have HO2 := Lib.hid (ownsRow_keep HOW.out (fun q hq => hb.block q (ownsRow_lt HOW.out hq).2))
          clear hb HL0
          have HL1 := Lib.hid (HLD.out w2 H2.out.low A 4 4 (((A + 4 : Nat) : Int)) 4 rfl rfl (by have := HA.out; omega) (.inr rfl) (by have := HA.out; omega))
          rw [show rloadN m.f (4096 * m.n) (A + 4) 4 = _ from HRL.out.2.1, loadB_some] at HL1
          go_wp2_with (first | go_skip | (refine wpList_load_row rfl 65 _ rfl (w.heap.size + 1) rfl 65 rc (0, 0) _ H2.out.k1 Tryd.underlying65 rfl HIR.out ?_))
          refine (HL1.out).mono ?_
          rintro e w3 ⟨rfl, hb⟩
          have H3 := Lib.hid (H2.out.below hb)
          have HO3 := Lib.hid (ownsRow_keep HO2.out (fun q hq => hb.block q (ownsRow_lt HO2.out hq).2))
          clear hb HL1 H2 HO2
          have HL2 := Lib.hid (HLD.out w3 H3.out.low A 8 4 (((A + 8 : Nat) : Int)) 4 rfl rfl (by have := HA.out; omega) (.inr rfl) (by have := HA.out; omega))
          rw [show rloadN m.f (4096 * m.n) (A + 8) 4 = _ from HRL.out.2.2.1, loadB_some] at HL2
          go_wp2_with (first | go_skip | (refine wpList_load_row rfl 65 _ rfl (w.heap.size + 1) rfl 65 rc (0, 0) _ H3.out.k1 Tryd.underlying65 rfl HIR.out ?_))
          refine (HL2.out).mono ?_
          rintro e w4 ⟨rfl, hb⟩
          have H4 := Lib.hid (H3.out.below hb)
          have HO4 := Lib.hid (ownsRow_keep HO3.out (fun q hq => hb.block q (ownsRow_lt HO3.out hq).2))
          clear hb HL2 H3 HO3
          have HL3 := Lib.hid (HLD.out w4 H4.out.low A 12 2 (((A + 12 : Nat) : Int)) 2 rfl rfl (by have := HA.out; omega) (.inl rfl) (by have := HA.out; omega))
          rw [show rloadN m.f (4096 * m.n) (A + 12) 2 = _ from HRL.out.2.2.2.1, loadB_some] at HL3
          go_wp2_with (first | go_skip | (refine wpList_load_row rfl 65 _ rfl (w.heap.size + 1) rfl 65 rc (0, 0) _ H4.out.k1 Tryd.underlying65 rfl HIR.out ?_))
          refine (HL3.out).mono ?_
          rintro e w5 ⟨rfl, hb⟩
          have H5 := Lib.hid (H4.out.below hb)
          have HO5 := Lib.hid (ownsRow_keep HO4.out (fun q hq => hb.block q (ownsRow_lt HO4.out hq).2))
          clear hb HL3 H4 HO4
          have HL4 := Lib.hid (HLD.out w5 H5.out.low A 14 2 (((A + 14 : Nat) : Int)) 2 rfl rfl (by have := HA.out; omega) (.inl rfl) (by have := HA.out; omega))
          rw [show rloadN m.f (4096 * m.n) (A + 14) 2 = _ from HRL.out.2.2.2.2, loadB_some] at HL4
          go_wp2_with (first | go_skip | (refine wpList_load_row rfl 65 _ rfl (w.heap.size + 1) rfl 65 rc (0, 0) _ H5.out.k1 Tryd.underlying65 rfl HIR.out ?_))
          refine (HL4.out).mono ?_
          rintro e w6 ⟨rfl, hb⟩
          have H6 := Lib.hid (H5.out.below hb)
          have HO6 := Lib.hid (ownsRow_keep HO5.out (fun q hq => hb.block q (ownsRow_lt HO5.out hq).2))
          clear hb HL4 H5 HO5
          clear hw4 hw8 hw12 hw14 HRL
          by_cases h1 : x1 = 0
          · subst h1
            by_cases h2 : mk < 4
            · have h2' : decide ((3 : Int) < (mk : Int)) = false := by simp; omega
              have hmk0 : (0 : Int) ≤ (mk : Int) := by omega
              by_cases h3 : x2 ≤ 1048576
              · have e3 : decide ((1048576 : Int) < (x2 : Int)) = false := by simp; omega
                have hcv : IntKind.i64.wrap (x2 : Int) = (x2 : Int) := by rw [IntKind.wrap_i64]; omega
                have HT := Lib.hid (fun W => HTH.out W x0 x2 HBD.out.1 h3)
                have hx20 : (0 : Int) ≤ (x2 : Int) := by omega
                by_cases h4 : lies m x0 x2
                · have HN : Hid (rdesc m ((de + 16 * i) % 4294967296) = some (⟨x0, x2, decide (mk / 2 = 1)⟩, if mk % 2 = 1 then (nx : Int) else -1)) := Lib.hid (HRD.out.trans (if_pos ⟨rfl, h2, h3, h4⟩))
                  rw [show decide (x2 = 0 ∨ (2147483648 ≤ x0 ∧ x0 - 2147483648 + x2 ≤ 4096 * m.n)) = true from decide_eq_true h4] at HT
                  have HX := Lib.hid (And.intro h2 (And.intro h3 h4))
                  clear h2 h3 h4 HRD
                  go_wp2_with (first | go_skip | (refine load_rowW rfl 65 _ rfl (w.heap.size + 1) rfl 65 rc (0, 0) _ H6.out.k1 Tryd.underlying65 rfl HIR.out ?_))
                  refine (HT.out _).mono ?_
                  rintro e w7 ⟨rfl, hb⟩
                  have H7 := Lib.hid (H6.out.below hb)
                  have HO7 := Lib.hid (ownsRow_keep HO6.out (fun q hq => hb.block q (ownsRow_lt HO6.out hq).2))
                  clear hb HT H6 HO6
                  obtain ⟨ws, hws⟩ : ∃ ws : Bool, ws = decide (mk / 2 = 1) := ⟨_, rfl⟩
                  rw [← hws] at HN
                  have hq1 : (((mk : Int) / 2) == 1) = ws := by rw [hws, Bool.eq_iff_iff]; simp; omega
                  have hq3 : (((mk : Int) / 2) % 4294967296 == 1) = ws := by rw [hws, Bool.eq_iff_iff]; have := HX.out.1; simp; omega
                  obtain ⟨mo, hmo⟩ : ∃ mo : Bool, mo = decide (mk % 2 = 1) := ⟨_, rfl⟩
                  have hq2 : (((mk : Int) % 2) == 0) = !mo := by rw [hmo, Bool.eq_iff_iff]; simp; omega
                  have hq4 : (((mk : Int) % 2) % 4294967296 == 0) = !mo := by rw [hmo, Bool.eq_iff_iff]; simp; omega
                  have HNX : Hid ((if mk % 2 = 1 then (nx : Int) else -1) = if mo = true then (nx : Int) else -1) := Lib.hid (by rw [hmo]; simp)
                  rw [HNX.out] at HN
                  have hsm : IntKind.i64.wrap ((s : Int) + (x2 : Int)) = ((s + x2 : Nat) : Int) := by rw [IntKind.wrap_i64]; have := HSS.out; have := HX.out.2.1; omega
                  clear hws hmo HNX
                  obtain ⟨S, hS⟩ : ∃ S, S = s + x2 := ⟨_, rfl⟩
                  rw [← hS] at hsm
                  have HSE := Lib.hid hS
                  clear hS
                  go_upto_region 20 with fail
                  clear hq1 hq3 hsm
                  obtain ⟨bad, hbad⟩ : ∃ bad : Bool, bad = ((b && !ws) || !decide (S ≤ 1048576)) := ⟨_, rfl⟩
                  have HBAD := Lib.hid hbad
                  clear hbad
                  go_cut [11, 136] from 29 to 154 (fun v t wx => v = .bool b ∧ t = .bool bad ∧ w7 = wx)
                  case first =>
                    by_cases hsum : S ≤ 1048576
                    · have es : decide ((1048576 : Int) < (S : Int)) = false := by simp; omega
                      have HSD : Hid (decide (S ≤ 1048576) = true) := Lib.hid (decide_eq_true hsum)
                      clear hsum
                      cases b <;> cases ws
                      all_goals
                        go_wp2_with fail
                        go_meet
                        case rel => exact ⟨rfl, by rw [HBAD.out, HSD.out]; rfl, rfl⟩
                    · have es : decide ((1048576 : Int) < (S : Int)) = true := by simp; omega
                      have HSD : Hid (decide (S ≤ 1048576) = false) := Lib.hid (decide_eq_false hsum)
                      clear hsum
                      cases b <;> cases ws
                      all_goals
                        go_wp2_with fail
                        go_meet
                        case rel => exact ⟨rfl, by rw [HBAD.out, HSD.out]; rfl, rfl⟩
                  case rest =>
                    obtain ⟨rfl, rfl, rfl⟩ := hcut
                    have HBE : Hid (bad = false → (b = true → ws = true) ∧ S ≤ 1048576) := Lib.hid (fun h => by have := HBAD.out; rw [h] at this; revert this; cases b <;> cases ws <;> simp)
                    have HBT : Hid (bad = true → ¬ (s + x2 ≤ 1048576 ∧ (b = true → ws = true))) := Lib.hid (fun h => by have := HBAD.out; rw [h] at this; rw [← HSE.out]; revert this; cases b <;> cases ws <;> simp)
                    clear HBAD
                    cases bad
                    case true =>
                      have HRN := Lib.hid (HRES.out.symm.trans (rwalkF_odd (acc := acc) HI.out HN.out (HBT.out rfl)))
                      go_wp2_with fail
                      go_ret2
                      rw [HRN.out]
                      exact H7.out.bad
                    have hgd := (HBE.out rfl).1
                    have hsum := (HBE.out rfl).2
                    clear HBE HBT
                    have HGD := Lib.hid hgd
                    have HSM2 := Lib.hid hsum
                    clear hgd hsum
                    go_upto_region 22 with fail
                    go_cut [11] from 29 to 154 (fun v wx => v = .bool ws ∧ w7 = wx)
                    case first =>
                      cases b
                      · cases ws
                        all_goals
                          go_wp2_with fail
                          go_meet
                          case rel => exact ⟨rfl, rfl⟩
                      · cases ws
                        · exact absurd (HGD.out rfl) (by simp)
                        · go_wp2_with fail
                          go_meet
                          case rel => exact ⟨rfl, rfl⟩
                    case rest =>
                      obtain ⟨rfl, rfl⟩ := hcut
                      have hsum := HSM2.out
                      obtain ⟨ii, hi1', hi2', hi3', hi4'⟩ := info_seg13
                      have hgood : s + (⟨x0, x2, ws⟩ : Sg).n ≤ 1048576 ∧ (b = true → (⟨x0, x2, ws⟩ : Sg).wr = true) := ⟨by show s + x2 ≤ _; rw [← HSE.out]; exact hsum, HGD.out⟩
                      have HGOOD := Lib.hid hgood
                      have HSUM := Lib.hid hsum
                      clear hgood
                      go_upto_region 23 with fail
                      have HBL := Lib.hid ((Below.refl w7.heap.size w7).alloc (Nat.le_refl _) (.cells #[.int .u32 x0, .int .i64 x2, .bool ws] 205))
                      have H8 := Lib.hid (H7.out.below HBL.out)
                      have HOW8 := Lib.hid (ownsRow_keep HO7.out (fun q hq => HBL.out.block q (ownsRow_lt HO7.out hq).2))
                      have HLT := Lib.hid (fun q hq => ownsRow_lt HOW8.out (b := q) hq)
                      have HSZ := Lib.hid (And.intro H7.out.low.size (lt_heap H7.out.k1))
                      have HXO := Lib.hid (show ∀ u ∈ (#[.int .u32 x0, .int .i64 x2, .bool ws] : Array Value).toList, u.oneCell' = true by simp [Value.oneCell'])
                      clear hsum
                      go_wp2_with (first | go_skip | (refine wpList_append_own_at (w := w7.alloc (.cells #[.int .u32 x0, .int .i64 x2, .bool ws] 205)) rfl _ _ 127 rfl (w.heap.size + 1 + 1) 205 ii _ 3 24 Tryd.underlying127 hi1' hi2' hi3' hi4' rfl (by omega) (.slice av0 n cv) n (flatS acc) rfl HOW8.out ⟨w7.heap.size, 0, none⟩ 1 1 (#[.int .u32 x0, .int .i64 x2, .bool ws] : Array Value).toList rfl rfl ?hc0 HXO.out (by simp only [maxLen]; omega) (by omega) ?hb0 ?hK0))
                      case hb0 => have := HSZ.out; simp; omega
                      intro v' w9 hown hgr _ hvb
                      obtain ⟨av', cv', rfl⟩ := ownsRow_form hown
                      have hne0 : ∀ k, k = w.heap.size ∨ k = w.heap.size + 1 → (Value.slice av0 n cv).ownBlock ≠ some k := fun k hk e => by have := HLT.out _ e; omega
                      have hlen : (acc ++ [(⟨x0, x2, ws⟩ : Sg)]).length = n + 1 := by rw [List.length_append, ← HNL.out]; rfl
                      have H9 : Hid (W13 w w9 #[.int .i64 size, .int .u32 de, .int .u32 av, .int .u32 us, .int .u16 la, .int .u16 pu] rc (.slice av' (acc ++ [(⟨x0, x2, ws⟩ : Sg)]).length cv') (acc ++ [(⟨x0, x2, ws⟩ : Sg)])) := Lib.hid ⟨below_grown H8.out.low hgr (fun k hk => by have := HLT.out _ hk; omega), (hgr.block _ (lt_heap H8.out.k0) (fun e => hne0 _ (.inl rfl) e.symm)).trans H8.out.k0, (hgr.block _ (lt_heap H8.out.k1) (fun e => hne0 _ (.inr rfl) e.symm)).trans H8.out.k1, by rw [hlen, flatS_snoc]; exact hown⟩
                      have HLEN := Lib.hid hlen
                      clear hown hgr hvb hi1' hi2' hi3' hi4' hne0 hlen
                      cases mo
                      · have HFIN := Lib.hid (HRES.out.symm.trans (rwalkF_last (acc := acc) HI.out HN.out HGOOD.out (by simp)))
                        rw [show (!false) = true from rfl] at hq2 hq4
                        go_wp2_with fail
                        go_ret2
                        rw [HFIN.out]
                        have := H9.out.fin
                        rw [HLEN.out] at this
                        exact this
                      · have HFIN := Lib.hid (rwalkF_on (k := k) (acc := acc) HI.out HN.out HGOOD.out (by simp))
                        rw [show (!true) = false from rfl] at hq2 hq4
                        have hnx : IntKind.i64.wrap (nx : Int) = (nx : Int) := by rw [IntKind.wrap_i64]; have := HBD.out; omega
                        go_wp2_with fail
                        go_roundw
                        case rel => exact ⟨acc ++ [(⟨x0, x2, ws⟩ : Sg)], S, (nx : Int), ws, av', cv', by rw [HLEN.out], rfl, rfl, by first | rfl | simp, by rw [HLEN.out]; first | rfl | go_num, by rw [HLEN.out]; omega, HSUM.out, by rw [HLEN.out, show size - (n + 1) = k by have := HK.out; omega, HSE.out]; exact (HFIN.out.symm.trans HRES.out), H9.out⟩
                        case measure => simp [intOf]; omega
                · have HN : Hid (rdesc m ((de + 16 * i) % 4294967296) = none) := Lib.hid (HRD.out.trans (if_neg (fun h => h4 h.2.2.2)))
                  have HRN := Lib.hid (HRES.out.symm.trans (rwalkF_bad HI.out HN.out))
                  rw [show decide (x2 = 0 ∨ (2147483648 ≤ x0 ∧ x0 - 2147483648 + x2 ≤ 4096 * m.n)) = false from decide_eq_false h4] at HT
                  clear h2 h3 h4 HRD
                  go_wp2_with (first | go_skip | (refine load_rowW rfl 65 _ rfl (w.heap.size + 1) rfl 65 rc (0, 0) _ H6.out.k1 Tryd.underlying65 rfl HIR.out ?_))
                  refine (HT.out _).mono ?_
                  rintro e w7 ⟨rfl, hb⟩
                  have H7 := Lib.hid (H6.out.below hb)
                  clear hb HT H6
                  go_wp2_with fail
                  go_ret2
                  rw [HRN.out]
                  exact H7.out.bad
              · have e3 : decide ((1048576 : Int) < (x2 : Int)) = true := by simp; omega
                have HN : Hid (rdesc m ((de + 16 * i) % 4294967296) = none) := Lib.hid (HRD.out.trans (if_neg (fun h => h3 h.2.2.1)))
                have HRN := Lib.hid (HRES.out.symm.trans (rwalkF_bad HI.out HN.out))
                go_wp2_with (first | go_skip | (refine load_rowW rfl 65 _ rfl (w.heap.size + 1) rfl 65 rc (0, 0) _ H6.out.k1 Tryd.underlying65 rfl HIR.out ?_))
                go_ret2
                rw [HRN.out]
                exact H6.out.bad
            · have h2' : decide ((3 : Int) < (mk : Int)) = true := by simp; omega
              have HN : Hid (rdesc m ((de + 16 * i) % 4294967296) = none) := Lib.hid (HRD.out.trans (if_neg (fun h => h2 h.2.1)))
              have HRN := Lib.hid (HRES.out.symm.trans (rwalkF_bad HI.out HN.out))
              go_wp2_with (first | go_skip | (refine load_rowW rfl 65 _ rfl (w.heap.size + 1) rfl 65 rc (0, 0) _ H6.out.k1 Tryd.underlying65 rfl HIR.out ?_))
              go_ret2
              rw [HRN.out]
              exact H6.out.bad
          · have h1' : ((x1 : Int) != 0) = true := by simp; omega
            have HN : Hid (rdesc m ((de + 16 * i) % 4294967296) = none) := Lib.hid (HRD.out.trans (if_neg (fun h => h1 h.1)))
            have HRN := Lib.hid (HRES.out.symm.trans (rwalkF_bad HI.out HN.out))
            go_wp2_with (first | go_skip | (refine load_rowW rfl 65 _ rfl (w.heap.size + 1) rfl 65 rc (0, 0) _ H6.out.k1 Tryd.underlying65 rfl HIR.out ?_))
            go_ret2
            rw [HRN.out]
            exact H6.out.bad
        · have HRN := Lib.hid (HRES.out.symm.trans (rwalkF_bad HI.out (show rdesc m ((de + 16 * i) % 4294967296) = none by rw [← HAE.out]; exact rdesc_off hin HA.out.1)))
          have HIN := Lib.hid hin
          clear hin
          have HL0 := Lib.hid (HLD.out wr HW.out.low A 0 4 ((A : Int)) 4 (by simp) rfl (by have := HA.out; omega) (.inr rfl) (by have := HA.out; omega))
          rw [show rloadN m.f (4096 * m.n) (A + 0) 4 = _ from rload_off HIN.out HA.out.1 (by omega) (by omega), loadB_none] at HL0
          go_wp2_with (first | go_skip | (refine wpList_load_row rfl 65 _ rfl (w.heap.size + 1) rfl 65 rc (0, 0) _ HW.out.k1 Tryd.underlying65 rfl HIR.out ?_))
          refine (HL0.out).mono ?_
          rintro e w2 ⟨rfl, hb⟩
          have H2 := Lib.hid (HW.out.below hb)
          have HO2 := Lib.hid (ownsRow_keep HOW.out (fun q hq => hb.block q (ownsRow_lt HOW.out hq).2))
          clear hb HL0
          have HL1 := Lib.hid (HLD.out w2 H2.out.low A 4 4 (((A + 4 : Nat) : Int)) 4 rfl rfl (by have := HA.out; omega) (.inr rfl) (by have := HA.out; omega))
          rw [show rloadN m.f (4096 * m.n) (A + 4) 4 = _ from rload_off HIN.out HA.out.1 (by omega) (by omega), loadB_none] at HL1
          go_wp2_with (first | go_skip | (refine wpList_load_row rfl 65 _ rfl (w.heap.size + 1) rfl 65 rc (0, 0) _ H2.out.k1 Tryd.underlying65 rfl HIR.out ?_))
          refine (HL1.out).mono ?_
          rintro e w3 ⟨rfl, hb⟩
          have H3 := Lib.hid (H2.out.below hb)
          have HO3 := Lib.hid (ownsRow_keep HO2.out (fun q hq => hb.block q (ownsRow_lt HO2.out hq).2))
          clear hb HL1 H2 HO2
          have HL2 := Lib.hid (HLD.out w3 H3.out.low A 8 4 (((A + 8 : Nat) : Int)) 4 rfl rfl (by have := HA.out; omega) (.inr rfl) (by have := HA.out; omega))
          rw [show rloadN m.f (4096 * m.n) (A + 8) 4 = _ from rload_off HIN.out HA.out.1 (by omega) (by omega), loadB_none] at HL2
          go_wp2_with (first | go_skip | (refine wpList_load_row rfl 65 _ rfl (w.heap.size + 1) rfl 65 rc (0, 0) _ H3.out.k1 Tryd.underlying65 rfl HIR.out ?_))
          refine (HL2.out).mono ?_
          rintro e w4 ⟨rfl, hb⟩
          have H4 := Lib.hid (H3.out.below hb)
          have HO4 := Lib.hid (ownsRow_keep HO3.out (fun q hq => hb.block q (ownsRow_lt HO3.out hq).2))
          clear hb HL2 H3 HO3
          have HL3 := Lib.hid (HLD.out w4 H4.out.low A 12 2 (((A + 12 : Nat) : Int)) 2 rfl rfl (by have := HA.out; omega) (.inl rfl) (by have := HA.out; omega))
          rw [show rloadN m.f (4096 * m.n) (A + 12) 2 = _ from rload_off HIN.out HA.out.1 (by omega) (by omega), loadB_none] at HL3
          go_wp2_with (first | go_skip | (refine wpList_load_row rfl 65 _ rfl (w.heap.size + 1) rfl 65 rc (0, 0) _ H4.out.k1 Tryd.underlying65 rfl HIR.out ?_))
          refine (HL3.out).mono ?_
          rintro e w5 ⟨rfl, hb⟩
          have H5 := Lib.hid (H4.out.below hb)
          have HO5 := Lib.hid (ownsRow_keep HO4.out (fun q hq => hb.block q (ownsRow_lt HO4.out hq).2))
          clear hb HL3 H4 HO4
          have HL4 := Lib.hid (HLD.out w5 H5.out.low A 14 2 (((A + 14 : Nat) : Int)) 2 rfl rfl (by have := HA.out; omega) (.inl rfl) (by have := HA.out; omega))
          rw [show rloadN m.f (4096 * m.n) (A + 14) 2 = _ from rload_off HIN.out HA.out.1 (by omega) (by omega), loadB_none] at HL4
          go_wp2_with (first | go_skip | (refine wpList_load_row rfl 65 _ rfl (w.heap.size + 1) rfl 65 rc (0, 0) _ H5.out.k1 Tryd.underlying65 rfl HIR.out ?_))
          refine (HL4.out).mono ?_
          rintro e w6 ⟨rfl, hb⟩
          have H6 := Lib.hid (H5.out.below hb)
          have HO6 := Lib.hid (ownsRow_keep HO5.out (fun q hq => hb.block q (ownsRow_lt HO5.out hq).2))
          clear hb HL4 H5 HO5
          go_wp2_with fail
          go_ret2
          rw [HRN.out]
          exact H6.out.bad
      · have HRN := Lib.hid (HRES.out.symm.trans (rwalkF_range hr))
        by_cases h0 : at_ < 0
        · go_wp2_with fail
          go_ret2
          rw [HRN.out]
          exact HW.out.bad
        · have h1 : ¬ at_ < (size : Int) := by omega
          have h1' : (size : Int) ≤ at_ := by omega
          have h0' : (0 : Int) ≤ at_ := by omega
          go_wp2_with fail
          go_ret2
          rw [HRN.out]
          exact HW.out.bad
    · obtain rfl : n = size := by omega
      rw [Nat.sub_self] at HRES
      have HRN := Lib.hid (HRES.out.symm.trans rwalkF_stop)
      go_wp2_with fail
      go_ret2
      rw [HRN.out]
      exact HW.out.bad
end Go.Proofs.YtcmbnkmbaghkdaaDoor
