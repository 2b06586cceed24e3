/-
The plain law of NicBack: a frame laid into a chain of two parts is sent as it was.
No condition.
-/
import Derived.Test.YtcbjlpkkebcmjaaDoorNicOk
import Derived.Test.YtcbjlpkkebcmjaaDoorLive16
import Derived.Test.YtcbjlpkkebcmjaaDoorG5
namespace Go.Proofs.YtcbjlpkkebcmjaaDoor
open Go.RowKit
set_option linter.unusedVariables false

/-- A chain of two parts is offered. -/
structure ChainAt (m : Mm) (c e f1 f2 : Nat) : Prop where
  n : m.n = 2
  a0 : gp m.f 0 4 = 2147487744
  h0 : gp m.f 4 4 = 0
  n0 : gp m.f 8 4 = c
  k0 : gp m.f 12 4 = f1
  a1 : gp m.f 16 4 = 2147489792
  h1 : gp m.f 20 4 = 0
  n1 : gp m.f 24 4 = e
  k1 : gp m.f 28 4 = f2
  av : gp m.f 258 2 = 1
  hd : gp m.f 260 2 = 0
theorem ChainAt.congr {m m' : Mm} {c e f1 f2 : Nat} (h : ChainAt m c e f1 f2) (hn : m'.n = m.n) (hf : ∀ x, x < 512 → m'.f x = m.f x) : ChainAt m' c e f1 f2 := by
  have g : ∀ a k, a + k ≤ 512 → gp m'.f a k = gp m.f a k := fun a k hk => gp_congr k (fun i hi => hf _ (by omega))
  exact ⟨hn.trans h.n, (g _ _ (by omega)).trans h.a0, (g _ _ (by omega)).trans h.h0, (g _ _ (by omega)).trans h.n0, (g _ _ (by omega)).trans h.k0, (g _ _ (by omega)).trans h.a1, (g _ _ (by omega)).trans h.h1, (g _ _ (by omega)).trans h.n1, (g _ _ (by omega)).trans h.k1, (g _ _ (by omega)).trans h.av, (g _ _ (by omega)).trans h.hd⟩
def nbW (c e : Nat) : List (Nat × Nat) := [(0, 2147487744), (8, c), (12, 65539), (16, 2147489792), (24, e), (28, 2), (256, 65536)]
theorem nbW_take (c e : Nat) : (nbW c e).take 80 = nbW c e := rfl
theorem nb_lay (c e : Nat) : layL (nbW c e) = ((((((((Mm.new 2).store 0 4 2147487744).store 8 4 c).store 12 4 65539).store 16 4 2147489792).store 24 4 e).store 28 4 2).store 256 4 65536) := by unfold layL nbW; simp only [List.foldl_cons, List.foldl_nil, lay1, Nat.reduceMod, Nat.reduceDiv, Nat.reduceMul]
theorem gp_new (n a k : Nat) : gp (Mm.new n).f a k = 0 := by
  induction k with
  | zero => rfl
  | succ k ih => show gp (Mm.new n).f a k + (0 : UInt8).toNat * 256 ^ k = 0; rw [ih]; simp
theorem gp_store4 (m : Mm) (a v : Nat) (hv : v < 4294967296) : gp (m.store a 4 v).f a 4 = v := gp_put4 _ _ _ hv
theorem gp_half (f : Nat → UInt8) (a : Nat) : gp f a 4 = gp f a 2 + 65536 * gp f (a + 2) 2 := by
  simp [gp, Nat.add_assoc]
  omega
theorem gp_halves {f : Nat → UInt8} {a v : Nat} (h : gp f a 4 = v) : gp f a 2 = v % 65536 ∧ gp f (a + 2) 2 = v / 65536 := by
  have := gp_half f a
  have h1 := gp_lt2 f a
  omega
theorem nb_chain (c e : Nat) (hc : c < 4294967296) (he : e < 4294967296) : ChainAt (layL (nbW c e)) c e 65539 2 := by
  rw [nb_lay]
  have hh : gp (((((((((Mm.new 2).store 0 4 2147487744).store 8 4 c).store 12 4 65539).store 16 4 2147489792).store 24 4 e).store 28 4 2).store 256 4 65536)).f 256 4 = 65536 := gp_store4 _ _ _ (by omega)
  have h2 : gp (((((((((Mm.new 2).store 0 4 2147487744).store 8 4 c).store 12 4 65539).store 16 4 2147489792).store 24 4 e).store 28 4 2).store 256 4 65536)).f 260 4 = 0 := by
    rw [gp_store_out _ _ _ _ _ _ (by omega), gp_store_out _ _ _ _ _ _ (by omega), gp_store_out _ _ _ _ _ _ (by omega), gp_store_out _ _ _ _ _ _ (by omega), gp_store_out _ _ _ _ _ _ (by omega), gp_store_out _ _ _ _ _ _ (by omega), gp_store_out _ _ _ _ _ _ (by omega)]
    exact gp_new _ _ _
  refine ⟨by rw [← nb_lay]; exact layL_n _, ?_, ?_, ?_, ?_, ?_, ?_, ?_, ?_, (gp_halves hh).2, (gp_halves h2).1⟩
  · rw [gp_store_out _ _ _ _ _ _ (by omega), gp_store_out _ _ _ _ _ _ (by omega), gp_store_out _ _ _ _ _ _ (by omega), gp_store_out _ _ _ _ _ _ (by omega), gp_store_out _ _ _ _ _ _ (by omega), gp_store_out _ _ _ _ _ _ (by omega)]; exact gp_store4 _ _ _ (by omega)
  · rw [gp_store_out _ _ _ _ _ _ (by omega), gp_store_out _ _ _ _ _ _ (by omega), gp_store_out _ _ _ _ _ _ (by omega), gp_store_out _ _ _ _ _ _ (by omega), gp_store_out _ _ _ _ _ _ (by omega), gp_store_out _ _ _ _ _ _ (by omega), gp_store_out _ _ _ _ _ _ (by omega)]; exact gp_new _ _ _
  · rw [gp_store_out _ _ _ _ _ _ (by omega), gp_store_out _ _ _ _ _ _ (by omega), gp_store_out _ _ _ _ _ _ (by omega), gp_store_out _ _ _ _ _ _ (by omega), gp_store_out _ _ _ _ _ _ (by omega)]; exact gp_store4 _ _ _ (by omega)
  · rw [gp_store_out _ _ _ _ _ _ (by omega), gp_store_out _ _ _ _ _ _ (by omega), gp_store_out _ _ _ _ _ _ (by omega), gp_store_out _ _ _ _ _ _ (by omega)]; exact gp_store4 _ _ _ (by omega)
  · rw [gp_store_out _ _ _ _ _ _ (by omega), gp_store_out _ _ _ _ _ _ (by omega), gp_store_out _ _ _ _ _ _ (by omega)]; exact gp_store4 _ _ _ (by omega)
  · rw [gp_store_out _ _ _ _ _ _ (by omega), gp_store_out _ _ _ _ _ _ (by omega), gp_store_out _ _ _ _ _ _ (by omega), gp_store_out _ _ _ _ _ _ (by omega), gp_store_out _ _ _ _ _ _ (by omega), gp_store_out _ _ _ _ _ _ (by omega), gp_store_out _ _ _ _ _ _ (by omega)]; exact gp_new _ _ _
  · rw [gp_store_out _ _ _ _ _ _ (by omega), gp_store_out _ _ _ _ _ _ (by omega)]; exact gp_store4 _ _ _ (by omega)
  · rw [gp_store_out _ _ _ _ _ _ (by omega)]; exact gp_store4 _ _ _ (by omega)
theorem lq_ok (la pu : Nat) : (⟨4, 2147483648, 2147483904, 2147484160, la, pu⟩ : Rg).okP := lrg_ok la pu
theorem nb_next0 {m : Mm} {c e f1 f2 pu : Nat} (h : ChainAt m c e f1 f2) : rnext ⟨4, 2147483648, 2147483904, 2147484160, 0, pu⟩ m = some (some 0) := by
  have e1 : rload m 2147483906 2 = some 1 := by rw [rload_in m 2147483906 258 2 rfl (by omega) h.n, h.av]
  have e2 : rload m 2147483908 2 = some 0 := by rw [rload_in m 2147483908 260 2 rfl (by omega) h.n, h.hd]
  unfold rnext
  rw [if_pos (lq_ok _ _)]
  simp [e1, e2]
theorem nb_next1 {m : Mm} {c e f1 f2 pu : Nat} (h : ChainAt m c e f1 f2) : rnext ⟨4, 2147483648, 2147483904, 2147484160, 1, pu⟩ m = some none := by
  have e1 : rload m 2147483906 2 = some 1 := by rw [rload_in m 2147483906 258 2 rfl (by omega) h.n, h.av]
  unfold rnext
  rw [if_pos (lq_ok _ _)]
  simp [e1]
def nbL (c e : Nat) (wr : Bool) : List Sg := [⟨2147487744, c, wr⟩, ⟨2147489792, e, wr⟩]
theorem rdesc_of {m : Mm} {a b x0 x2 x3 : Nat} (hn : m.n = 2) (hab : a = 2147483648 + b) (hb : b + 16 ≤ 8192) (h0 : gp m.f b 4 = x0) (h1 : gp m.f (b + 4) 4 = 0) (h2 : gp m.f (b + 8) 4 = x2) (h3 : gp m.f (b + 12) 4 = x3) (hm : x3 % 65536 < 4) (hs : x2 ≤ 1048576) (hl : lies m x0 x2) :
    rdesc m a = some (⟨x0, x2, decide (x3 / 2 % 2 = 1)⟩, if x3 % 2 = 1 then ((x3 / 65536 : Nat) : Int) else -1) := by
  unfold rdesc
  rw [rload_in m (a + 4 * 0) b 4 (by omega) (by omega) hn, rload_in m (a + 4 * 1) (b + 4) 4 (by omega) (by omega) hn, rload_in m (a + 4 * 2) (b + 8) 4 (by omega) (by omega) hn, rload_in m (a + 4 * 3) (b + 12) 4 (by omega) (by omega) hn, h0, h1, h2, h3]
  simp only
  rw [if_pos ⟨trivial, hm, hs, hl⟩]
theorem nb_walk {m : Mm} {c e f1 f2 : Nat} {wr : Bool} (h : ChainAt m c e f1 f2) (hce : c + e ≤ 1012) (h1 : f1 = 65539 ∧ f2 = 2 ∧ wr = true ∨ f1 = 65537 ∧ f2 = 0 ∧ wr = false) : rwalk 2147483648 4 m 0 = some (nbL c e wr) := by
  have l0 : lies m 2147487744 c := .inr ⟨by decide, by rw [h.n]; omega⟩
  have l1 : lies m 2147489792 e := .inr ⟨by decide, by rw [h.n]; omega⟩
  have d0 := rdesc_of (a := 2147483648) (b := 0) h.n rfl (by omega) h.a0 h.h0 h.n0 h.k0 (by rcases h1 with ⟨rfl, _⟩ | ⟨rfl, _⟩ <;> decide) (by omega) l0
  have d1 := rdesc_of (a := 2147483664) (b := 16) h.n rfl (by omega) h.a1 h.h1 h.n1 h.k1 (by rcases h1 with ⟨_, rfl, _⟩ | ⟨_, rfl, _⟩ <;> decide) (by omega) l1
  rcases h1 with ⟨rfl, rfl, rfl⟩ | ⟨rfl, rfl, rfl⟩
  · have d0' : rdesc m 2147483648 = some (⟨2147487744, c, true⟩, 1) := d0.trans (by rfl)
    have d1' : rdesc m 2147483664 = some (⟨2147489792, e, true⟩, -1) := d1.trans (by rfl)
    unfold rwalk rwalkF
    rw [if_pos (by decide), show (2147483648 + 16 * (0 : Int).toNat) % 4294967296 = 2147483648 from rfl, d0']
    simp only
    rw [if_pos ⟨by omega, by first | trivial | (intro h; first | rfl | trivial | exact Bool.noConfusion h)⟩, if_neg (by decide)]
    unfold rwalkF
    rw [if_pos (by decide), show (2147483648 + 16 * (1 : Int).toNat) % 4294967296 = 2147483664 from rfl, d1']
    simp only
    rw [if_pos ⟨by omega, by first | trivial | (intro h; first | rfl | trivial | exact Bool.noConfusion h)⟩, if_pos (by decide)]
    rfl
  · have d0' : rdesc m 2147483648 = some (⟨2147487744, c, false⟩, 1) := d0.trans (by rfl)
    have d1' : rdesc m 2147483664 = some (⟨2147489792, e, false⟩, -1) := d1.trans (by rfl)
    unfold rwalk rwalkF
    rw [if_pos (by decide), show (2147483648 + 16 * (0 : Int).toNat) % 4294967296 = 2147483648 from rfl, d0']
    simp only
    rw [if_pos ⟨by omega, by first | trivial | (intro h; first | rfl | trivial | exact Bool.noConfusion h)⟩, if_neg (by decide)]
    unfold rwalkF
    rw [if_pos (by decide), show (2147483648 + 16 * (1 : Int).toNat) % 4294967296 = 2147483664 from rfl, d1']
    simp only
    rw [if_pos ⟨by omega, by first | trivial | (intro h; first | rfl | trivial | exact Bool.noConfusion h)⟩, if_pos (by decide)]
    rfl
theorem nb_room (c e : Nat) : roomW (nbL c e true) = c + e := by simp [nbL, roomW]
theorem rstore_in {m : Mm} {a b k v : Nat} (hab : a = 2147483648 + b) (hb : b + k ≤ 8192) (hn : m.n = 2) : rstore m a k v = some (m.store b k v) := by
  unfold rstore
  rw [if_pos ⟨by omega, by rw [hn]; omega⟩, show a - 2147483648 = b by omega]
theorem rgive_of {sz : Int} {de av us la pu : Nat} {m m1 m2 m3 : Mm} {hd n a b c d : Nat} (ha : (us + 4 + 8 * (pu % sz.toNat)) % 4294967296 = a) (hb : (a + 4) % 4294967296 = b) (hc : (us + 2) % 4294967296 = c) (hd' : (pu + 1) % 65536 = d)
    (e1 : rstore m a 4 hd = some m1) (e2 : rstore m1 b 4 n = some m2) (e3 : rstore m2 c 2 d = some m3) : rgive ⟨sz, de, av, us, la, pu⟩ m hd n = (true, m3) := by
  subst ha hb hc hd'
  unfold rgive
  simp only
  rw [e1]
  simp only
  rw [e2]
  simp only
  rw [e3]
theorem nb_give {m : Mm} (la n : Nat) (hn : m.n = 2) : rgive ⟨4, 2147483648, 2147483904, 2147484160, la, 0⟩ m 0 n = (true, ((m.store 516 4 0).store 520 4 n).store 514 2 1) :=
  rgive_of (a := 2147484164) (b := 2147484168) (c := 2147484162) (d := 1) rfl rfl rfl rfl (rstore_in (b := 516) rfl (by omega) hn) (rstore_in (b := 520) rfl (by omega) ((store_nG _ _ _ _).trans hn)) (rstore_in (b := 514) rfl (by omega) (((store_nG _ _ _ _).trans (store_nG _ _ _ _)).trans hn))
theorem store_outF (m : Mm) (a k v x : Nat) (h : x < a ∨ a + k ≤ x) : (m.store a k v).f x = m.f x := putR_out _ _ _ _ (by rw [leB_length]; exact h)
theorem rscat_cons (m : Mm) (a n a0 : Nat) (t : List Sg) (b : List UInt8) (hb : b ≠ [] ∧ n ≠ 0) (h : a - 2147483648 = a0) : rscat m (⟨a, n, true⟩ :: t) b = rscat (m.write a0 (b.take n)) t (b.drop n) := by
  subst h
  conv => lhs; unfold rscat
  rw [if_pos ⟨rfl, hb⟩]
theorem rscat_pass (m : Mm) (s : Sg) (t : List Sg) (b : List UInt8) (h : ¬ (b ≠ [] ∧ s.n ≠ 0)) : rscat m (s :: t) b = rscat m t b := by
  conv => lhs; unfold rscat
  rw [if_neg (fun x => h x.2)]
theorem gath_two (m : Mm) (a1 n1 a2 n2 b1 b2 : Nat) (h1 : a1 - 2147483648 = b1) (h2 : a2 - 2147483648 = b2) : gath m [⟨a1, n1, false⟩, ⟨a2, n2, false⟩] = cut m.f b1 n1 ++ cut m.f b2 n2 := by
  subst h1 h2
  simp [gath]
/-- Bytes laid into the two parts. -/
theorem nb_scat (m : Mm) (c e : Nat) (b : List UInt8) (hb : b.length = c + e) (hce : c + e ≤ 1012) : (rscat m (nbL c e true) b).n = m.n ∧ (∀ x, x < 4096 → (rscat m (nbL c e true) b).f x = m.f x) ∧ cut (rscat m (nbL c e true) b).f 4096 c ++ cut (rscat m (nbL c e true) b).f 6144 e = b := by
  have key : ∀ (m : Mm) (b1 : List UInt8), b1.length = e → rscat m [⟨2147489792, e, true⟩] b1 = if b1 = [] then m else m.write 6144 b1 := fun m b1 h1 => by
    by_cases hb1 : b1 = []
    · rw [if_pos hb1, hb1, rscat_none]
    · have he : e ≠ 0 := fun h => hb1 (List.eq_nil_of_length_eq_zero (by omega))
      rw [if_neg hb1, rscat_cons m 2147489792 e 6144 [] b1 ⟨hb1, he⟩ rfl, List.take_of_length_le (by omega)]
      rfl
  have kf : ∀ (m : Mm) (b1 : List UInt8), b1.length = e → (∀ x, x < 6144 → (rscat m [⟨2147489792, e, true⟩] b1).f x = m.f x) ∧ cut (rscat m [⟨2147489792, e, true⟩] b1).f 6144 e = b1 := fun m b1 h1 => by
    rw [key m b1 h1]
    by_cases hb1 : b1 = []
    · rw [if_pos hb1]
      refine ⟨fun _ _ => rfl, ?_⟩
      rw [hb1] at h1
      obtain rfl : e = 0 := h1.symm
      rw [hb1]; rfl
    · rw [if_neg hb1, write_fR]
      exact ⟨fun x hx => putR_out _ _ _ _ (by omega), by rw [← h1]; exact cut_putR _ _ _⟩
  refine ⟨rscat_n _ _ _, ?_⟩
  by_cases hc : b ≠ [] ∧ c ≠ 0
  · have hs : rscat m (nbL c e true) b = rscat (m.write 4096 (b.take c)) [⟨2147489792, e, true⟩] (b.drop c) := rscat_cons m 2147487744 c 4096 _ b hc rfl
    rw [hs]
    obtain ⟨k1, k2⟩ := kf (m.write 4096 (b.take c)) (b.drop c) (by rw [List.length_drop]; omega)
    have hl : (b.take c).length = c := by rw [List.length_take]; omega
    refine ⟨fun x hx => (k1 x (by omega)).trans ?_, ?_⟩
    · rw [write_fR]
      exact putR_out _ _ _ _ (by omega)
    · rw [k2]
      have : cut (rscat (m.write 4096 (b.take c)) [⟨2147489792, e, true⟩] (b.drop c)).f 4096 c = b.take c := by
        have e1 : cut (rscat (m.write 4096 (b.take c)) [⟨2147489792, e, true⟩] (b.drop c)).f 4096 c = cut (putL m.f 4096 (b.take c)) 4096 c := by
          apply List.ext_getElem (by rw [cut_length, cut_length])
          intro i h1 h2
          rw [cut_length] at h1
          have := k1 (4096 + i) (by omega)
          rw [write_fR] at this
          simp [cut, this]
        rw [e1]
        conv => lhs; arg 3; rw [← hl]
        exact cut_putR _ _ _
      rw [this, List.take_append_drop]
  · have hs : rscat m (nbL c e true) b = rscat m [⟨2147489792, e, true⟩] b := rscat_pass m _ _ b hc
    rw [hs]
    by_cases hb0 : b = []
    · subst hb0
      have hc0 : c = 0 := by simp at hb; omega
      have he0 : e = 0 := by simp at hb; omega
      subst hc0; subst he0
      rw [rscat_none]
      exact ⟨fun _ _ => rfl, rfl⟩
    · obtain rfl : c = 0 := Classical.byContradiction fun h => hc ⟨hb0, h⟩
      obtain ⟨k1, k2⟩ := kf m b (by omega)
      exact ⟨fun x hx => k1 x (by omega), by rw [k2]; rfl⟩
theorem ntake_of {s : NS} {m m2 : Mm} {fr : List UInt8} {hd : Nat} {l : List Sg} {q : Rg} {de sz : Nat} (h1 : 1 ≤ fr.length ∧ fr.length ≤ 1514) (hw : s.works false) (hq : s.p.a.rg = q) (hde : s.p.a.de = de) (hsz : s.p.a.size.toNat = sz) (hx : rnext q m = some (some hd)) (hl : rwalk de sz m hd = some l)
    (hr : ¬ roomW l < 12 + fr.length) (hg : rgive q.took (rscat m l (nicHead ++ fr)) hd (12 + fr.length) = (true, m2)) : ntake s m fr = ((s.setR false q.took).gave false true, m2, true, 0) := by
  subst hq hde hsz
  unfold ntake
  rw [if_neg (by omega), if_neg (fun h => h hw), hx]
  simp only
  rw [hl]
  simp only
  rw [if_neg hr, hg]
theorem after_give {m1 : Mm} {n : Nat} {x : Nat} (hx : x < 512 ∨ 524 ≤ x) : (((m1.store 516 4 0).store 520 4 n).store 514 2 1).f x = m1.f x := by
  rw [store_outF _ _ _ _ _ (by omega), store_outF _ _ _ _ _ (by omega), store_outF _ _ _ _ _ (by omega)]
theorem cut_congr {f h : Nat → UInt8} {a n : Nat} (e : ∀ i, i < n → f (a + i) = h (a + i)) : cut f a n = cut h a n := by
  apply List.ext_getElem (by rw [cut_length, cut_length])
  intro i h1 h2
  rw [cut_length] at h1
  simp [cut, e i h1]
/-- The memory behind Take. -/
theorem nb_take (fr : List UInt8) (c e : Nat) (hl : 1 ≤ fr.length) (hl2 : fr.length ≤ 1000) (hce : c + e = 12 + fr.length) :
    ∃ (s : NS) (m : Mm), ntake (liveS false) (layL (nbW c e)) fr = (s, m, true, 0) ∧ s.p.irq = 1 ∧ ChainAt m c e 65539 2 ∧ cut m.f 4096 c ++ cut m.f 6144 e = nicHead ++ fr := by
  have h := nb_chain c e (by omega) (by omega)
  generalize layL (nbW c e) = m0 at h
  have hw := nb_walk h (by omega) (.inl ⟨rfl, rfl, rfl⟩)
  have hbl : (nicHead ++ fr).length = c + e := by rw [List.length_append, hce]; rfl
  obtain ⟨s1, s2, s3⟩ := nb_scat m0 c e (nicHead ++ fr) hbl (by omega)
  have hg := nb_give (m := rscat m0 (nbL c e true) (nicHead ++ fr)) 1 (12 + fr.length) (s1.trans h.n)
  have ht := ntake_of (s := liveS false) (q := ⟨4, 2147483648, 2147483904, 2147484160, 0, 0⟩) (de := 2147483648) (sz := 4) ⟨hl, by omega⟩ (by decide) rfl rfl rfl (nb_next0 h) hw (by rw [nb_room]; omega) hg
  generalize rscat m0 (nbL c e true) (nicHead ++ fr) = m1 at s1 s2 s3 ht
  refine ⟨_, _, ht, rfl, h.congr s1 (fun x hx => (after_give (.inl hx)).trans (s2 x (by omega))), ?_⟩
  rw [← s3, cut_congr (fun i _ => after_give (m1 := m1) (n := 12 + fr.length) (x := 4096 + i) (.inr (by omega))), cut_congr (fun i _ => after_give (m1 := m1) (n := 12 + fr.length) (x := 6144 + i) (.inr (by omega)))]
theorem nb_gath (m : Mm) (c e : Nat) : gath m (nbL c e false) = cut m.f 4096 c ++ cut m.f 6144 e := gath_two m _ _ _ _ _ _ rfl rfl
theorem sendF_end (k : Nat) (s : NS) (m : Mm) (acc : List (List UInt8)) (hx : rnext s.p.b.rg m = some none) : sendF (k + 1) s m acc = ({ s with bell := false }, m, acc) := by
  unfold sendF
  rw [hx]
theorem nsend_of {s : NS} {m m2 : Mm} {hd : Nat} {l : List Sg} {q : Rg} {de sz : Nat} (hb : s.bell = true) (hw : s.works true) (hq : s.p.b.rg = q) (hde : s.p.b.de = de) (hsz : s.p.b.size.toNat = sz) (hx : rnext q m = some (some hd)) (hl : rwalk de sz m hd = some l)
    (hr : ¬ ((gath m l).length ≤ 12 ∨ 1526 < (gath m l).length)) (hg : rgive q.took m hd 0 = (true, m2)) {q2 : Rg} (hq2 : ((s.setR true q.took).gave true true).p.b.rg = q2) (hn : rnext q2 m2 = some none) :
    nsend s m = ({ (s.setR true q.took).gave true true with bell := false }, m2, [(gath m l).drop 12]) := by
  subst hq hde hsz hq2
  unfold nsend
  rw [if_pos ⟨hb, hw⟩, sendF_step 3 s m [] hx hl hr, hg, if_pos rfl, sendF_end 2 _ _ _ hn]
  rfl
theorem nb_anew {m : Mm} {c e : Nat} (h : ChainAt m c e 65539 2) : ChainAt ((m.store 12 4 65537).store 28 4 0) c e 65537 0 := by
  refine ⟨((store_nG _ _ _ _).trans (store_nG _ _ _ _)).trans h.n, ?_, ?_, ?_, ?_, ?_, ?_, ?_, gp_store4 _ _ _ (by omega), ?_, ?_⟩
  · rw [gp_store_out _ _ _ _ _ _ (by omega), gp_store_out _ _ _ _ _ _ (by omega)]; exact h.a0
  · rw [gp_store_out _ _ _ _ _ _ (by omega), gp_store_out _ _ _ _ _ _ (by omega)]; exact h.h0
  · rw [gp_store_out _ _ _ _ _ _ (by omega), gp_store_out _ _ _ _ _ _ (by omega)]; exact h.n0
  · rw [gp_store_out _ _ _ _ _ _ (by omega)]; exact gp_store4 _ _ _ (by omega)
  · rw [gp_store_out _ _ _ _ _ _ (by omega), gp_store_out _ _ _ _ _ _ (by omega)]; exact h.a1
  · rw [gp_store_out _ _ _ _ _ _ (by omega), gp_store_out _ _ _ _ _ _ (by omega)]; exact h.h1
  · rw [gp_store_out _ _ _ _ _ _ (by omega), gp_store_out _ _ _ _ _ _ (by omega)]; exact h.n1
  · rw [gp_store_out _ _ _ _ _ _ (by omega), gp_store_out _ _ _ _ _ _ (by omega)]; exact h.av
  · rw [gp_store_out _ _ _ _ _ _ (by omega), gp_store_out _ _ _ _ _ _ (by omega)]; exact h.hd
theorem nb_anew_f {m : Mm} {x : Nat} (hx : 32 ≤ x) : ((m.store 12 4 65537).store 28 4 0).f x = m.f x := by
  rw [store_outF _ _ _ _ _ (by omega), store_outF _ _ _ _ _ (by omega)]
/-- What is sent behind the two stores. -/
theorem nb_send {m : Mm} {fr : List UInt8} {c e : Nat} (h : ChainAt m c e 65539 2) (hl : 1 ≤ fr.length) (hl2 : fr.length ≤ 1000) (hce : c + e = 12 + fr.length) (hcut : cut m.f 4096 c ++ cut m.f 6144 e = nicHead ++ fr) :
    ∃ (s : NS) (m' : Mm), nsend (liveS true) ((m.store 12 4 65537).store 28 4 0) = (s, m', [fr]) ∧ s.p.irq = 1 := by
  have h2 := nb_anew h
  have hg : gath ((m.store 12 4 65537).store 28 4 0) (nbL c e false) = nicHead ++ fr := by
    rw [nb_gath, ← hcut, cut_congr (fun i _ => nb_anew_f (m := m) (x := 4096 + i) (by omega)), cut_congr (fun i _ => nb_anew_f (m := m) (x := 6144 + i) (by omega))]
  generalize (m.store 12 4 65537).store 28 4 0 = m2 at h2 hg
  have hw := nb_walk h2 (by omega) (.inr ⟨rfl, rfl, rfl⟩)
  have hgl : (gath m2 (nbL c e false)).length = 12 + fr.length := by rw [hg, List.length_append]; rfl
  have hd : (gath m2 (nbL c e false)).drop 12 = fr := by rw [hg]; rfl
  have hgi := nb_give (m := m2) 1 0 h2.n
  have h3 : ChainAt (((m2.store 516 4 0).store 520 4 0).store 514 2 1) c e 65537 0 := h2.congr (((store_nG _ _ _ _).trans (store_nG _ _ _ _)).trans (store_nG _ _ _ _)) (fun x hx => after_give (.inl hx))
  have hs := nsend_of (s := liveS true) (q := ⟨4, 2147483648, 2147483904, 2147484160, 0, 0⟩) (de := 2147483648) (sz := 4) rfl (by decide) rfl rfl rfl (nb_next0 h2) hw (by omega) hgi (q2 := ⟨4, 2147483648, 2147483904, 2147484160, 1, 1⟩) rfl (nb_next1 h3)
  rw [hd] at hs
  exact ⟨_, _, hs, rfl⟩
end Go.Proofs.YtcbjlpkkebcmjaaDoor
