/-
Write of package mem, walked: bytes written at a place, or the error.
No condition.
-/
import Derived.Test.YtcakcfeipfjmpaaDoorMemRead
import Derived.Laws.CopyOwn
namespace Go.Proofs.YtcakcfeipfjmpaaDoor
open Go.RowKit

theorem putL_append (f : Nat → UInt8) (a : Nat) (l k : List UInt8) : putL (putL f a l) (a + l.length) k = putL f a (l ++ k) := by
  funext j
  show (if a + l.length ≤ j then (k[j - (a + l.length)]?).getD (if a ≤ j then (l[j - a]?).getD (f j) else f j) else (if a ≤ j then (l[j - a]?).getD (f j) else f j)) = if a ≤ j then ((l ++ k)[j - a]?).getD (f j) else f j
  by_cases h : a + l.length ≤ j
  · rw [if_pos h, if_pos (by omega), if_pos (by omega), List.getElem?_append_right (by omega), show j - (a + l.length) = j - a - l.length by omega, List.getElem?_eq_none (l := l) (by omega)]
    rfl
  · rw [if_neg h]
    by_cases h2 : a ≤ j
    · rw [if_pos h2, if_pos h2, List.getElem?_append_left (by omega)]
    · rw [if_neg h2, if_neg h2]
def markL (d : Nat → Bool) (a c : Nat) : Nat → Bool := fun i => d i || decide (0 < c ∧ a / 4096 ≤ i ∧ i ≤ (a + c - 1) / 4096)
theorem markL_zero (d : Nat → Bool) (a : Nat) : markL d a 0 = d := by funext i; simp [markL]
theorem markL_step (d : Nat → Bool) (a c q : Nat) (hq : 0 < q) (h : (a + c) % 4096 + q ≤ 4096) : updD (markL d a c) ((a + c) / 4096) = markL d a (c + q) := by
  funext i
  show (if i = (a + c) / 4096 then true else (d i || decide (0 < c ∧ a / 4096 ≤ i ∧ i ≤ (a + c - 1) / 4096))) = (d i || decide (0 < c + q ∧ a / 4096 ≤ i ∧ i ≤ (a + (c + q) - 1) / 4096))
  by_cases e : i = (a + c) / 4096
  · rw [if_pos e, decide_eq_true (by omega), Bool.or_true]
  · rw [if_neg e]
    congr 1
    apply decide_eq_decide.2
    omega
/-- Bytes at a place of a page are laid. -/
theorem RamAt.lay {W : World} {g gp gd : Nat} {pg : Nat → Option Nat} {bl : Option Nat} {m : Mm} (h : RamAt W g gp gd pg bl m) {i k o : Nat} (hi : i < m.n) (hk : pg i = some k) (l : List UInt8) (ho : o + l.length ≤ 4096) {c : Array Value} (hc : W.heap[k]? = some (.cells c 5 (0, 0))) :
    RamAt (W.setRow k (c.toList.take o ++ (l.map B8 ++ c.toList.drop (o + (l.map B8).length))).toArray) g gp gd pg bl { m with f := putL m.f (4096 * i + o) l } := by
  obtain ⟨n1, n2, n3, n4, n5⟩ := h.foot_ne
  obtain ⟨k1, k2, k3⟩ := n4 i k hi hk
  obtain ⟨c', hc', hs, h2⟩ := h.pb i k hi hk
  obtain rfl : c = c' := by rw [hc] at hc'; injection hc' with hc'; injection hc'
  have hll : (l.map B8).length = l.length := List.length_map _
  generalize hR : (c.toList.take o ++ (l.map B8 ++ c.toList.drop (o + (l.map B8).length))).toArray = R
  have hRs : 4096 ≤ R.size := by
    rw [← hR]
    simp only [List.size_toArray, List.length_append, List.length_take, List.length_drop, hll, Array.length_toList]
    omega
  have ho' : ∀ k', k' ≠ k → (W.setRow k R).heap[k']? = W.heap[k']? := fun k' hk => heap_row_other hk
  have hRg : ∀ y, y < 4096 → R[y]? = some (B8 (putL m.f (4096 * i + o) l (4096 * i + y))) := fun y hy => by
    have e : putL m.f (4096 * i + o) l (4096 * i + y) = if o ≤ y then (l[y - o]?).getD (m.f (4096 * i + y)) else m.f (4096 * i + y) := by
      unfold putL
      by_cases hoy : o ≤ y
      · rw [if_pos hoy, if_pos (by omega), show 4096 * i + y - (4096 * i + o) = y - o by omega]
      · rw [if_neg hoy, if_neg (by omega)]
    rw [e, ← hR, List.getElem?_toArray]
    have hcy := h2 y hy
    by_cases h1 : y < o
    · rw [List.getElem?_append_left (by simp; omega), List.getElem?_take_of_lt h1, Array.getElem?_toList, hcy, if_neg (by omega)]
    · rw [if_pos (by omega), List.getElem?_append_right (by simp; omega)]
      have ht : (c.toList.take o).length = o := by simp; omega
      rw [ht]
      by_cases h3 : y - o < l.length
      · rw [List.getElem?_append_left (by rw [hll]; exact h3), List.getElem?_map, List.getElem?_eq_getElem h3]
        rfl
      · rw [List.getElem?_append_right (by rw [hll]; omega), hll, List.getElem?_drop, Array.getElem?_toList, show o + l.length + (y - o - l.length) = y by omega, hcy, List.getElem?_eq_none (by omega)]
        rfl
  exact {
    n1 := h.n1
    n2 := h.n2
    r := (ho' g (Ne.symm k1)).trans h.r
    p := by
      obtain ⟨c, hc, h2⟩ := h.p
      exact ⟨c, (ho' gp (Ne.symm k2)).trans hc, h2⟩
    q := by
      obtain ⟨c, hc, h2⟩ := h.q
      exact ⟨c, (ho' gd (Ne.symm k3)).trans hc, h2⟩
    pb := fun i' k' hi' hk' => by
      by_cases e : i' = i
      · subst e
        obtain rfl : k = k' := Option.some.inj (hk.symm.trans hk')
        exact ⟨R, setRow_heap _ _ _ _ _ _ hc, hRs, hRg⟩
      · have hne : k' ≠ k := fun e' => e (h.inj i' i k' hi' hi hk' (e' ▸ hk))
        obtain ⟨c, hc, hs, h2⟩ := (h.pb i' k' hi' hk').keep (ho' k' hne)
        refine ⟨c, hc, hs, fun y hy => ?_⟩
        rw [h2 y hy]
        show _ = some (B8 (putL m.f (4096 * i + o) l (4096 * i' + y)))
        unfold putL
        by_cases h1 : 4096 * i + o ≤ 4096 * i' + y
        · rw [if_pos h1, List.getElem?_eq_none (by omega)]; rfl
        · rw [if_neg h1]
    pz := fun i' hi' hp y hy => by
      show putL m.f (4096 * i + o) l (4096 * i' + y) = 0
      have hne : i' ≠ i := fun e => by subst e; rw [hk] at hp; cases hp
      unfold putL
      by_cases h1 : 4096 * i + o ≤ 4096 * i' + y
      · rw [if_pos h1, List.getElem?_eq_none (by omega)]; exact h.pz i' hi' hp y hy
      · rw [if_neg h1]; exact h.pz i' hi' hp y hy
    bz := fun k' hk' => (h.bz k' hk').keep (ho' k' (fun e => h.nb i k hi hk (e ▸ hk')))
    inj := h.inj
    nb := h.nb
    dl := h.dl
    pl := h.pl
    pn := h.pn }
/-- Bytes that lie elsewhere. -/
def BytesAt (w : World) (ao : Option Addr) (l : List UInt8) (F : Nat → Prop) : Prop := l ≠ [] → ∃ b o, ao = some ⟨b, o, none⟩ ∧ b < w.heap.size ∧ ¬ F b ∧ ∀ j x, l[j]? = some x → w.cell? ⟨b, o + j, none⟩ = some (B8 x)
def Mm.write (m : Mm) (a : Nat) (l : List UInt8) : Mm := { m with f := putL m.f a l, d := markL m.d a l.length, wr := if l = [] then m.wr else wrap64 (m.wr + 1) }

theorem wpList_copy_to {P : Program} {w : World} {ops : Array Oper} {rest : List Oper} {o : Oper} {a : Act} {Q : Exit → Act → World → Prop} (hgd : o.guard = none) (d s : Operand) (dT sT : TypeId)
    (ho : o.op = .call { callee := .builtin .copy, args := #[d, s], argTypes := #[dT, sT] }) (elem : TypeId) (hu : P.underlying dT = some (.slice elem)) (hsz : (P.info? elem).map (·.size) = some 1)
    (g off dLen dCap : Nat) (ad : Addr) (sLen sCap : Nat) (hd : a.eval d = .slice (some ⟨g, off, none⟩) dLen dCap) (hs : a.eval s = .slice (some ad) sLen sCap)
    (cur : Array Value) (t : TypeId) (hg : w.heap[g]? = some (.cells cur t (0, 0))) (cs : List Value) (q : Nat) (hq : cs.length = q) (hn : q = Nat.min sLen dLen)
    (hsrc : ∀ j v, cs[j]? = some v → w.cell? (ad.add j) = some v) (hfit : off + q ≤ cur.size) (h1 : ∀ v ∈ cs, v.oneCell' = true)
    (h : ∀ w', Hid (w' = w.setRow g (cur.toList.take off ++ (cs ++ cur.toList.drop (off + cs.length))).toArray) → wpList P ops Q rest (a.put o.dst (goInt q)) w') : wpList P ops Q (o :: rest) a w := by
  subst hq
  exact wpList_copy_own hgd d s dT sT ho elem hu hsz g off dLen dCap ad sLen sCap hd hs cur t hg cs hn hsrc hfit h1 (h _ (Lib.hid rfl))
theorem RamIs.count {w : World} {g : Nat} {m : Mm} {F : Nat → Prop} (h : RamIs w g m F) : w.cell? ⟨g, 2, none⟩ = some (.int .i64 m.wr) ∧ w.frozen? ⟨g, 2, none⟩ = false ∧ ∀ v, RamIs (w.setCell ⟨g, 2, none⟩ (.int .i64 v)) g { m with wr := v } F ∧ MemStep F F w (w.setCell ⟨g, 2, none⟩ (.int .i64 v)) := by
  obtain ⟨gp, gd, pg, bl, h, hf, hl⟩ := h
  exact ⟨h.c2, h.fz 2, fun v => ⟨⟨gp, gd, pg, bl, h.count v, hf, fun k hk => by simpa [World.setCell] using hl k hk⟩, ⟨(KX.refl F w).setCell (p := ⟨g, 2, none⟩) (.inl (hf _ (.inl rfl))) _, fun _ h => .inl h⟩⟩⟩
theorem BytesAt.kx {w w' : World} {ao : Option Addr} {l : List UInt8} {F F' : Nat → Prop} (h : BytesAt w ao l F) (hs : MemStep F F' w w') : BytesAt w' ao l F' := fun hne => by
  obtain ⟨b, o, h1, h2, h3, h4⟩ := h hne
  exact ⟨b, o, h1, Nat.lt_of_lt_of_le h2 hs.kx.size, hs.off h2 h3, fun j x hj => (hs.kx.cell (p := ⟨b, o + j, none⟩) h2 h3).trans (h4 j x hj)⟩
theorem BytesAt.cells {w : World} {b o : Nat} {l : List UInt8} {F : Nat → Prop} (h : BytesAt w (some ⟨b, o, none⟩) l F) (q : Nat) : ∀ j v, ((l.take q).map B8)[j]? = some v → w.cell? ((⟨b, o, none⟩ : Addr).add j) = some v := fun j v hj => by
  rw [List.getElem?_map] at hj
  have hjq : j < (l.take q).length := by
    rcases Nat.lt_or_ge j (l.take q).length with h1 | h1
    · exact h1
    · rw [List.getElem?_eq_none h1] at hj; cases hj
  have hlt := hjq
  simp only [List.length_take] at hlt
  obtain ⟨b', o', h1, h2, h3, h4⟩ := h (fun e => by subst e; simp at hlt)
  obtain ⟨rfl, rfl⟩ : b = b' ∧ o = o' := by simpa using h1
  rw [List.getElem?_take_of_lt (by omega), List.getElem?_eq_getElem (by omega)] at hj
  rw [Addr.add_lit, h4 j _ (List.getElem?_eq_getElem (by omega))]
  simpa using hj
theorem BytesAt.drop {w : World} {b o : Nat} {l : List UInt8} {F : Nat → Prop} (h : BytesAt w (some ⟨b, o, none⟩) l F) (q : Nat) : BytesAt w (some ⟨b, o + q, none⟩) (l.drop q) F := fun hne => by
  obtain ⟨b', o', h1, h2, h3, h4⟩ := h (fun e => hne (by rw [e]; simp))
  obtain ⟨rfl, rfl⟩ : b = b' ∧ o = o' := by simpa using h1
  exact ⟨b, o + q, rfl, h2, h3, fun j x hj => by
    rw [List.getElem?_drop] at hj
    rw [Nat.add_assoc]
    exact h4 _ _ hj⟩

set_option maxRecDepth 100000 in
set_option maxHeartbeats 1600000 in
theorem mem_Write_ok {g : Nat} {m : Mm} {F : Nat → Prop} {w : World} (h : RamIs w g m F) (a : Nat) (ao : Option Addr) (l : List UInt8) (cap : Nat) (ha : a < 4294967296) (hs : a + l.length ≤ 4096 * m.n) (hb : BytesAt w ao l F) (hcap : l.length ≤ cap) :
    Calls Tryd.prog 29 #[.pointer (some ⟨g, 0, none⟩), .int .u32 a, .slice ao l.length cap] w fun e w' => ∃ F', e = .returned .nilIface ∧ RamIs w' g (m.write a l) F' ∧ MemStep F F' w w' := by
  have HC := Lib.hid (mem_run_ok h a l.length hs)
  have HOW := Lib.hid (fun W M F (hW : RamIs W g M F) i (hi : i < M.n) => mem_own hW i hi)
  have hn2 := h.n2
  have HH := Lib.hid h
  have HB := Lib.hid hb
  obtain ⟨n, hn⟩ : ∃ n, n = l.length := ⟨_, rfl⟩
  have HN := Lib.hid hn
  rw [← hn] at HC hs hcap ⊢
  clear h hb hn
  have hn26 : n ≤ 67108864 := by omega
  by_cases h0 : n = 0
  · subst h0
    have hl : l = [] := List.eq_nil_of_length_eq_zero HN.out.symm
    go_enter Tryd.func29, Tryd.ntmps29
    go_wp2_with fail
    refine (HC.out).mono ?_
    rintro e w' ⟨rfl, rfl⟩
    go_wp2_with fail
    go_loopw [2, 8] (fun v i wr => v = .slice ao 0 cap ∧ wr = w) (fun v i _ => lenV v)
    case atStart => exact ⟨rfl, rfl⟩
    case round =>
      obtain ⟨rfl, rfl⟩ := hrel
      go_wp2_with fail
      go_ret
      refine ⟨F, rfl, ?_, MemStep.refl _ _⟩
      subst hl
      have e : m.write a [] = m := by unfold Mm.write; rw [putL_nil, List.length_nil, markL_zero]; rfl
      rw [e]
      exact HH.out
  · have hn0 : (0 : Int) < (n : Int) := by omega
    go_enter Tryd.func29, Tryd.ntmps29
    go_wp2_with fail
    refine (HC.out).mono ?_
    rintro e w' ⟨rfl, rfl⟩
    obtain ⟨c2, f2, hcnt⟩ := HH.out.count
    have HCT := Lib.hid (counter_add ⟨g, 2, none⟩ _ w c2 f2)
    have HX := Lib.hid (hcnt (wrap64 (m.wr + 1)))
    clear c2 f2 hcnt
    go_wp2_with fail
    refine (HCT.out).mono ?_
    rintro e w' ⟨rfl, rfl⟩
    generalize w.setCell ⟨g, 2, none⟩ (.int .i64 (wrap64 (m.wr + 1))) = w0 at HX
    go_wp2_with fail
    go_loopw [2, 8] (fun v i wr => ∃ (c p : Nat) (av : Option Addr) (F' : Nat → Prop), c ≤ n ∧ v = .slice av (n - c) (cap - c) ∧ i = .int .i64 p ∧ (c < n → p = a + c) ∧ p ≤ 4294967296 ∧ RamIs wr g { m with f := putL m.f a (l.take c), d := markL m.d a c, wr := wrap64 (m.wr + 1) } F' ∧ MemStep F F' w wr ∧ BytesAt wr av (l.drop c) F') (fun v i _ => lenV v)
    case atStart => exact ⟨0, a, ao, F, by omega, rfl, rfl, fun _ => rfl, by omega, by rw [List.take_zero, putL_nil, markL_zero]; exact HX.out.1, HX.out.2, HB.out.kx HX.out.2⟩
    case round =>
      obtain ⟨c, p, av, F', hc, rfl, rfl, hp, hp4, hri, hst, hby⟩ := hrel
      have HR := Lib.hid hri
      have HS := Lib.hid hst
      have HY := Lib.hid hby
      clear hri hst hby
      by_cases hlt : c < n
      · obtain rfl := hp hlt
        have hi : (a + c) / 4096 < m.n := by omega
        have HA := Lib.hid (HOW.out wr _ F' HR.out ((a + c) / 4096) hi)
        have hcn : (0 : Int) < ((n - c : Nat) : Int) := by omega
        obtain ⟨b, o, rfl, hbl, hbf, hbc⟩ := HY.out (fun e => by have := congrArg List.length e; simp at this; have := HN.out; omega)
        clear hp hbc
        go_wp2_with fail
        refine (HA.out).mono ?_
        rintro e w1 ⟨gp, gd, pg, bl, k, ck, F1, rfl, hck, hra, hpg, hf, hl1, hst1⟩
        have HRA := Lib.hid hra
        have HPG := Lib.hid hpg
        have HF := Lib.hid hf
        have HL := Lib.hid hl1
        have HS1 := Lib.hid (HS.out.trans hst1)
        have HY1 := Lib.hid (HY.out.kx hst1)
        obtain ⟨cur, hcur, hcs, _⟩ := hra.pb _ k hi hpg
        have hfk : F1 k := hf _ (.inr (.inr (.inr (.inr ⟨_, hi, hpg⟩))))
        have HCUR := Lib.hid hcur
        have HFK := Lib.hid hfk
        clear hra hpg hf hl1 hst1 hcur hfk hbl hbf
        by_cases hm : 4096 - (a + c) % 4096 ≤ n - c
        · have HQL : Hid (((l.drop c).take (4096 - (a + c) % 4096)).length = 4096 - (a + c) % 4096) := Lib.hid (by rw [List.length_take, List.length_drop, ← HN.out]; omega)
          have HQM : Hid ((((l.drop c).take (4096 - (a + c) % 4096)).map B8).length = 4096 - (a + c) % 4096) := Lib.hid (by rw [List.length_map, HQL.out])
          have HSRC := Lib.hid (HY1.out.cells (4096 - (a + c) % 4096))
          have H1C : Hid (∀ u ∈ ((l.drop c).take (4096 - (a + c) % 4096)).map B8, u.oneCell' = true) := Lib.hid (fun u hu => by
            obtain ⟨x, _, rfl⟩ := List.mem_map.1 hu
            rfl)
          have hlay := HRA.out.lay (o := (a + c) % 4096) hi HPG.out ((l.drop c).take (4096 - (a + c) % 4096)) (by rw [HQL.out]; omega) HCUR.out
          have hput : putL (putL m.f a (l.take c)) (4096 * ((a + c) / 4096) + (a + c) % 4096) ((l.drop c).take (4096 - (a + c) % 4096)) = putL m.f a (l.take (c + (4096 - (a + c) % 4096))) := by
            have e : 4096 * ((a + c) / 4096) + (a + c) % 4096 = a + (l.take c).length := by rw [List.length_take, ← HN.out]; omega
            rw [e, putL_append, List.take_add]
          have hmk := markL_step m.d a c (4096 - (a + c) % 4096) (by omega) (by omega)
          have HLAY : Hid (RamAt (w1.setRow k (cur.toList.take ((a + c) % 4096) ++ (((l.drop c).take (4096 - (a + c) % 4096)).map B8 ++ cur.toList.drop ((a + c) % 4096 + (((l.drop c).take (4096 - (a + c) % 4096)).map B8).length))).toArray) g gp gd pg bl { m with f := putL m.f a (l.take (c + (4096 - (a + c) % 4096))), d := markL m.d a (c + (4096 - (a + c) % 4096)), wr := wrap64 (m.wr + 1) }) := Lib.hid (by
            rw [← hput, ← hmk]
            exact hlay)
          have HYD := Lib.hid (HY1.out.drop (4096 - (a + c) % 4096))
          clear hlay hput hmk
          generalize ((l.drop c).take (4096 - (a + c) % 4096)).map B8 = cs at HQM HSRC H1C HLAY
          go_wp2_with (refine wpList_copy_to rfl _ _ 107 27 rfl 5 Tryd.underlying107 (by kernel_rfl) k ((a + c) % 4096) _ _ ⟨b, o, none⟩ _ _ rfl rfl cur 5 HCUR.out cs (4096 - (a + c) % 4096) HQM.out ?hn HSRC.out ?hfit H1C.out ?hK)
          case hn => simp only [Nat.min_def]; split <;> omega
          case hfit => omega
          intro w2 hw2
          rw [← hw2.out] at HLAY
          have HMS : Hid (MemStep F1 F1 w1 w2) := Lib.hid (by rw [hw2.out]; exact ⟨(KX.refl F1 w1).setRow (.inl HFK.out) _, fun _ h => .inl h⟩)
          have HSZ : Hid (w2.heap.size = w1.heap.size) := Lib.hid (by rw [hw2.out]; simp [World.setRow])
          clear hw2
          have hcq0 : (0 : Int) ≤ ((4096 - (a + c) % 4096 : Nat) : Int) := by omega
          have hcq1 : ((4096 - (a + c) % 4096 : Nat) : Int) ≤ ((n - c : Nat) : Int) := by omega
          have hcq2 : ((n - c : Nat) : Int) ≤ ((cap - c : Nat) : Int) := by omega
          by_cases hsel : cap - c = 4096 - (a + c) % 4096
          · have hsel1 : (if cap - c = 4096 - (a + c) % 4096 then some (⟨b, o, none⟩ : Addr) else some ⟨b, o + (4096 - (a + c) % 4096), none⟩) = some ⟨b, o, none⟩ := if_pos hsel
            have HE : Hid (c + (4096 - (a + c) % 4096) = n) := Lib.hid (by omega)
            clear hsel
            go_wp2_with fail
            go_roundw
            case rel => exact ⟨c + (4096 - (a + c) % 4096), ((a + c) / 4096 + 1) * 4096, _, F1, by omega, by first | rfl | (congr 1 <;> omega), by go_num, by omega, by omega, ⟨gp, gd, pg, bl, HLAY.out, HF.out, fun k hk => by rw [HSZ.out]; exact HL.out k hk⟩, HS1.out.trans HMS.out, fun hne => by exact absurd (List.drop_of_length_le (by rw [HE.out, HN.out]; exact Nat.le_refl _)) hne⟩
            case measure => simp [lenV]; omega
          · have hsel1 : (if cap - c = 4096 - (a + c) % 4096 then some (⟨b, o, none⟩ : Addr) else some ⟨b, o + (4096 - (a + c) % 4096), none⟩) = some ⟨b, o + (4096 - (a + c) % 4096), none⟩ := if_neg hsel
            clear hsel
            go_wp2_with fail
            go_roundw
            case rel => exact ⟨c + (4096 - (a + c) % 4096), ((a + c) / 4096 + 1) * 4096, _, F1, by omega, by first | rfl | (congr 1 <;> omega), by go_num, by omega, by omega, ⟨gp, gd, pg, bl, HLAY.out, HF.out, fun k hk => by rw [HSZ.out]; exact HL.out k hk⟩, HS1.out.trans HMS.out, by have h := HYD.out.kx HMS.out; rw [List.drop_drop] at h; exact h⟩
            case measure => simp [lenV]; omega
        · have HQL : Hid (((l.drop c).take (n - c)).length = n - c) := Lib.hid (by rw [List.length_take, List.length_drop, ← HN.out]; omega)
          have HQM : Hid ((((l.drop c).take (n - c)).map B8).length = n - c) := Lib.hid (by rw [List.length_map, HQL.out])
          have HSRC := Lib.hid (HY1.out.cells (n - c))
          have H1C : Hid (∀ u ∈ ((l.drop c).take (n - c)).map B8, u.oneCell' = true) := Lib.hid (fun u hu => by
            obtain ⟨x, _, rfl⟩ := List.mem_map.1 hu
            rfl)
          have hlay := HRA.out.lay (o := (a + c) % 4096) hi HPG.out ((l.drop c).take (n - c)) (by rw [HQL.out]; omega) HCUR.out
          have hput : putL (putL m.f a (l.take c)) (4096 * ((a + c) / 4096) + (a + c) % 4096) ((l.drop c).take (n - c)) = putL m.f a (l.take (c + (n - c))) := by
            have e : 4096 * ((a + c) / 4096) + (a + c) % 4096 = a + (l.take c).length := by rw [List.length_take, ← HN.out]; omega
            rw [e, putL_append, List.take_add]
          have hmk := markL_step m.d a c (n - c) (by omega) (by omega)
          have HLAY : Hid (RamAt (w1.setRow k (cur.toList.take ((a + c) % 4096) ++ (((l.drop c).take (n - c)).map B8 ++ cur.toList.drop ((a + c) % 4096 + (((l.drop c).take (n - c)).map B8).length))).toArray) g gp gd pg bl { m with f := putL m.f a (l.take (c + (n - c))), d := markL m.d a (c + (n - c)), wr := wrap64 (m.wr + 1) }) := Lib.hid (by
            rw [← hput, ← hmk]
            exact hlay)
          have HYD := Lib.hid (HY1.out.drop (n - c))
          clear hlay hput hmk
          generalize ((l.drop c).take (n - c)).map B8 = cs at HQM HSRC H1C HLAY
          go_wp2_with (refine wpList_copy_to rfl _ _ 107 27 rfl 5 Tryd.underlying107 (by kernel_rfl) k ((a + c) % 4096) _ _ ⟨b, o, none⟩ _ _ rfl rfl cur 5 HCUR.out cs (n - c) HQM.out ?hnn HSRC.out ?hfitn H1C.out ?hKn)
          case hnn => simp only [Nat.min_def]; split <;> omega
          case hfitn => omega
          intro w2 hw2
          rw [← hw2.out] at HLAY
          have HMS : Hid (MemStep F1 F1 w1 w2) := Lib.hid (by rw [hw2.out]; exact ⟨(KX.refl F1 w1).setRow (.inl HFK.out) _, fun _ h => .inl h⟩)
          have HSZ : Hid (w2.heap.size = w1.heap.size) := Lib.hid (by rw [hw2.out]; simp [World.setRow])
          clear hw2
          have hcq0 : (0 : Int) ≤ ((n - c : Nat) : Int) := by omega
          have hcq1 : ((n - c : Nat) : Int) ≤ ((n - c : Nat) : Int) := by omega
          have hcq2 : ((n - c : Nat) : Int) ≤ ((cap - c : Nat) : Int) := by omega
          by_cases hsel : cap - c = n - c
          · have hsel1 : (if cap - c = n - c then some (⟨b, o, none⟩ : Addr) else some ⟨b, o + (n - c), none⟩) = some ⟨b, o, none⟩ := if_pos hsel
            have HE : Hid (c + (n - c) = n) := Lib.hid (by omega)
            clear hsel
            go_wp2_with fail
            go_roundw
            case rel => exact ⟨c + (n - c), ((a + c) / 4096 + 1) * 4096, _, F1, by omega, by first | rfl | (congr 1 <;> omega), by go_num, by omega, by omega, ⟨gp, gd, pg, bl, HLAY.out, HF.out, fun k hk => by rw [HSZ.out]; exact HL.out k hk⟩, HS1.out.trans HMS.out, fun hne => by exact absurd (List.drop_of_length_le (by rw [HE.out, HN.out]; exact Nat.le_refl _)) hne⟩
            case measure => simp [lenV]; omega
          · have hsel1 : (if cap - c = n - c then some (⟨b, o, none⟩ : Addr) else some ⟨b, o + (n - c), none⟩) = some ⟨b, o + (n - c), none⟩ := if_neg hsel
            clear hsel
            go_wp2_with fail
            go_roundw
            case rel => exact ⟨c + (n - c), ((a + c) / 4096 + 1) * 4096, _, F1, by omega, by first | rfl | (congr 1 <;> omega), by go_num, by omega, by omega, ⟨gp, gd, pg, bl, HLAY.out, HF.out, fun k hk => by rw [HSZ.out]; exact HL.out k hk⟩, HS1.out.trans HMS.out, by have h := HYD.out.kx HMS.out; rw [List.drop_drop] at h; exact h⟩
            case measure => simp [lenV]; omega
      · obtain rfl : n = c := by omega
        clear hp
        go_wp2_with fail
        go_ret
        refine ⟨F', rfl, ?_, HS.out⟩
        have h1 := HR.out
        rw [List.take_of_length_le (by rw [HN.out]; exact Nat.le_refl _), HN.out] at h1
        have e : m.write a l = { m with f := putL m.f a l, d := markL m.d a l.length, wr := wrap64 (m.wr + 1) } := by
          unfold Mm.write
          rw [if_neg (fun e => h0 (by rw [HN.out, e]; rfl))]
        rw [e]
        exact h1
end Go.Proofs.YtcakcfeipfjmpaaDoor
