/-
pinnacelaw07's give and same, walked: a queue as the program's; whether a queue is the document's.
No condition.
-/
import Derived.Test.YtcmbnkmbaghkdaaDoorRef7Pop
import Derived.Test.YtcmbnkmbaghkdaaDoorOrdLaw
namespace Go.Proofs.YtcmbnkmbaghkdaaDoor
open Go.RowKit
set_option linter.unusedVariables false

theorem wp_append_ownG {P : Program} (w : World) {o : Oper} {a : Act} {K : Act → World → Prop} {Q : Exit → Act → World → Prop}
    (s x : Operand) (t : TypeId) (hop : o.op = Op.call { callee := Callee.builtin Builtin.append, args := #[s, x], argTypes := #[t, t] })
    (base : Nat) (e : TypeId) (i : TypeInfo) (z : Value) (size bytes : Nat) (h1 : P.underlying t = some (.slice e)) (h2 : P.info? e = some i) (h3 : i.zero = some z) (h4 : i.size = size) (h5 : i.bytes = bytes) (h6 : z.cells.size = size) (h7 : 0 < size)
    (v : Value) (n : Nat) (xs : List Value) (hs : a.eval s = v) (hown : w.ownsRow base e size v n xs)
    (ad : Addr) (m c : Nat) (news : List Value) (hx : a.eval x = .slice (some ad) m c) (hn : news.length = m * size) (hc : ∀ j u, news[j]? = some u → w.cell? (ad.add j) = some u) (h1c : ∀ u ∈ news, u.oneCell' = true)
    (b1 : n + m ≤ maxLen) (b2 : (n + m) * bytes ≤ 140737488355328) (hb : base ≤ w.heap.size)
    (hK : ∀ v' w', w'.ownsRow base e size v' (n + m) (xs ++ news) → w.grownBy w' v.ownBlock → K (a.put o.dst v') w') :
    Oper.wp P o a w K Q := by
  obtain ⟨v', w', hrun, r1, r2, _⟩ := run_append_own (P := P) w base t o.type e i z size bytes h1 h2 h3 h4 h5 h6 h7 v n xs hown ad m c news hn hc h1c b1 b2 hb
  unfold Oper.wp
  simp [execOp, hop, resolve, invoke, builtin, hs, hx, hrun, Result.andThen]
  exact hK v' w' r1 r2
theorem ownsRow_formG {w : World} {base e size n : Nat} {v : Value} {xs : List Value} (h : w.ownsRow base e size v n xs) : ∃ a c, v = .slice a n c := by
  rcases h.2 with ⟨rfl, rfl⟩ | ⟨g, cap, cur, rfl, _⟩
  · exact ⟨none, 0, rfl⟩
  · exact ⟨some ⟨g, 0, none⟩, cap, rfl⟩
theorem flat_take {l : List Pst} {k : Nat} {p : Pst} (h : l[k]? = some p) : flat (l.take k) ++ p.c.toList = flat (l.take (k + 1)) := by
  rw [List.take_add_one, h]
  simp [flat]
/-- What a round of give holds. -/
structure GV (w W : World) (q : Value) (v : Value) (k : Nat) (xs : List Value) : Prop where
  low : Below w.heap.size w W
  k0 : W.heap[w.heap.size]? = some (.cells #[q] 24 (0, 0))
  k1 : W.heap[w.heap.size + 1]? = some (.cells #[.slice none 0 0] 31 (0, 0))
  k2 : W.heap[w.heap.size + 1 + 1]? = some (.cells #[v] 31 (0, 0))
  ow : W.ownsRow (w.heap.size + 3) 37 4 v k xs
set_option maxRecDepth 100000 in
set_option maxHeartbeats 8000000 in
theorem law7_give (ao : Option Addr) (l : List Pst) (cap : Nat) (w : World) (hp : PostsAt w ao l) (hl : l.length ≤ 200) :
    Calls Tryd.prog 8 #[.agg #[.slice ao l.length cap]] w fun e w' => (∃ ao' cap', e = .returned (.agg #[.slice ao' l.length cap']) ∧ l.length ≤ cap' ∧ (ao' = none → l.length = 0 ∧ cap' = 0) ∧ PostsAt w' ao' l) ∧ Below w.heap.size w w' := by
  obtain ⟨k0, k1, k2, hb0⟩ := new3 w (.cells #[.slice ao l.length cap] 24) (.cells #[.slice none 0 0] 31) (.cells #[.slice none 0 0] 31)
  obtain ⟨n, hn⟩ : ∃ n, n = l.length := ⟨_, rfl⟩
  rw [← hn] at k0 k1 k2 hb0 hl ⊢
  have HN := Lib.hid hn
  have HP := Lib.hid hp
  have HG0 : Hid (GV w (((w.alloc (.cells #[.slice ao n cap] 24)).alloc (.cells #[.slice none 0 0] 31)).alloc (.cells #[.slice none 0 0] 31)) (.slice ao n cap) (.slice none 0 0) 0 []) := Lib.hid ⟨hb0, k0, k1, k2, World.ownsRow_nil _ _ _ _⟩
  have hni : (n : Int) ≤ 200 := by omega
  clear k0 k1 k2 hb0 hn hp hl
  go_enter Tryd.func8, Tryd.ntmps8
  go_upto_region 2 with fail
  change Code.wp _ _ _ _ (((w.alloc (.cells #[.slice ao n cap] 24)).alloc (.cells #[.slice none 0 0] 31)).alloc (.cells #[.slice none 0 0] 31))
  generalize (((w.alloc (.cells #[.slice ao n cap] 24)).alloc (.cells #[.slice none 0 0] 31)).alloc (.cells #[.slice none 0 0] 31)) = w1 at HG0 ⊢
  go_wp2_with fail
  go_loopw [4] (fun i wr => ∃ (k : Nat) (av : Option Addr) (cv : Nat), i = .int .i64 k ∧ k ≤ n ∧ GV w wr (.slice ao n cap) (.slice av k cv) k (flat (l.take k))) (fun i _ => n - (intOf i).toNat)
  case atStart => exact ⟨0, none, 0, rfl, Nat.zero_le _, HG0.out⟩
  case round =>
    obtain ⟨k, av, cv, rfl, hk, hg⟩ := hrel
    have HG := Lib.hid hg
    have s0 := (cell_of_row _ _ 0 _ _ _ hg.k0).trans (rfl : _ = some (.slice ao n cap : Value))
    have hk0 : (0 : Int) ≤ (k : Int) := by omega
    clear hg HG0
    by_cases hlt : k < n
    · have hk1 : (k : Int) < (n : Int) := by omega
      obtain ⟨p, hpk⟩ : ∃ p, l[k]? = some p := ⟨l[k]'(by have := HN.out; omega), List.getElem?_eq_getElem (by have := HN.out; omega)⟩
      obtain ⟨b, o, rfl, hbw, c0, c1, c2, c3⟩ := HP.out k p hpk
      have HPK := Lib.hid hpk
      have HBW := Lib.hid hbw
      have HRG : Hid (w.rangeAt b (o + k * 4) [.int .i64 p.dev, .int .u32 p.at_, .int .i64 p.n, .int .u32 p.val]) := Lib.hid (fun j v hj => by
        match j, hj with
        | 0, hj => exact c0.trans hj
        | 1, hj => exact c1.trans hj
        | 2, hj => exact c2.trans hj
        | 3, hj => exact c3.trans hj
        | j + 4, hj => simp at hj)
      clear hpk hbw c0 c1 c2 c3
      go_upto_region 5 with fail
      clear s0
      refine wp_region_held_drew (S := KX (fun k => w.heap.size + 2 ≤ k) wr) (by kernel_rfl) ((KX.refl (fun k => w.heap.size + 2 ≤ k) wr).drew) (fun hH0 => ?_)
      have HGd : Hid (GV w wr.drew (.slice (some ⟨b, o, none⟩) n cap) (.slice av k cv) k (flat (l.take k))) := Lib.hid ⟨HG.out.low.drew, HG.out.k0, HG.out.k1, HG.out.k2, HG.out.ow⟩
      generalize wr.drew = wd at hH0 HGd ⊢
      refine wpAnyH_take (i := 0) (v := ?v0) rfl (by kernel_rfl) (by kernel_rfl) (by kernel_rfl) (fun _ _ _ h => h) (Or.inl ⟨by rfl, ?hy0⟩) (by assumption) ?rest0
      case hy0 => (intro W hSw; go_simp; first | done | with_reducible rfl)
      simp only [Act.put, List.getElem_toArray, List.getElem_cons_zero, List.setIfInBounds_toArray, List.set_cons_zero, List.set_cons_succ]
      refine wpAnyH_take (i := 2) (v := ?v2) rfl (by kernel_rfl) (by kernel_rfl) (by kernel_rfl) (fun _ _ _ h => h) (Or.inl ⟨by rfl, ?hy2⟩) (by assumption) ?rest2
      case hy2 => (intro W hSw; go_simp; first | done | with_reducible rfl)
      simp only [Act.put, List.getElem_toArray, List.getElem_cons_zero, List.getElem_cons_succ, List.setIfInBounds_toArray, List.set_cons_zero, List.set_cons_succ]
      refine wpAnyH_take (i := 3) (v := ?v3) rfl (by kernel_rfl) (by kernel_rfl) (by kernel_rfl) (fun _ _ _ h => h) (Or.inl ⟨by rfl, ?hy3⟩) (by assumption) ?rest3
      case hy3 => (intro W hSw; have cj := (cell_of_row _ _ 0 _ _ _ (hSw.heap HG.out.k0 (by omega))).trans (rfl : _ = some (.slice (some ⟨b, o, none⟩) n cap : Value)); go_simp; first | done | with_reducible rfl)
      simp only [Act.put, List.getElem_toArray, List.getElem_cons_zero, List.getElem_cons_succ, List.setIfInBounds_toArray, List.set_cons_zero, List.set_cons_succ]
      refine wpAnyH_take (i := 4) (v := ?v4) rfl (by kernel_rfl) (by kernel_rfl) (by kernel_rfl) (fun _ _ _ h => h) (Or.inl ⟨by rfl, ?hy4⟩) (by assumption) ?rest4
      case hy4 => (intro W hSw; go_simp; first | done | with_reducible rfl)
      simp only [Act.put, List.getElem_toArray, List.getElem_cons_zero, List.getElem_cons_succ, List.setIfInBounds_toArray, List.set_cons_zero, List.set_cons_succ]
      refine wpAnyH_take (i := 5) (v := ?v5) rfl (by kernel_rfl) (by kernel_rfl) (by kernel_rfl) (fun _ _ _ h => h) (Or.inl ⟨by rfl, ?hy5⟩) (by assumption) ?rest5
      case hy5 => (intro W hSw; go_simp; first | done | with_reducible rfl)
      simp only [Act.put, List.getElem_toArray, List.getElem_cons_zero, List.getElem_cons_succ, List.setIfInBounds_toArray, List.set_cons_zero, List.set_cons_succ]
      refine wpAnyH_take (i := 6) rfl (by kernel_rfl) (by kernel_rfl) (by kernel_rfl) (fun _ _ _ h => h) (yieldsIf_load_mid (by rfl) 27 _ rfl b (o + k * 4) rfl [.int .i64 p.dev, .int .u32 p.at_, .int .i64 p.n, .int .u32 p.val] _ (fun W hSw => fun j v hj => (World.cell?_of_block (w := w) (a := ⟨b, o + k * 4 + j, none⟩) ((hSw.block b (Nat.lt_of_lt_of_le HBW.out HG.out.low.size) (by have := HBW.out; omega)).trans (HG.out.low.block b HBW.out))).trans (HRG.out j v hj)) Tryd.underlying27 rfl ?hi6) (by assumption) ?rest6
      case hi6 => kernel_rfl
      simp only [Act.put, List.getElem_toArray, List.getElem_cons_zero, List.getElem_cons_succ, List.setIfInBounds_toArray, List.set_cons_zero, List.set_cons_succ]
      refine wpAnyH_ready (rs := [1, 7]) (by kernel_rfl) (by simp) ?_
      refine AllReadyH.cons (o := _) rfl (fun K hK => ?_) (AllReadyH.cons (o := _) rfl (fun K hK => ?_) AllReadyH.nil)
      · simp only [List.getElem_toArray, List.getElem_cons_zero, List.getElem_cons_succ]
        have cj := (cell_of_row _ _ 0 _ _ _ HGd.out.k2).trans (rfl : _ = some (.slice av k cv : Value))
        go_simp
        refine hK.out _ _ hH0 (fun hH1 => ?_)
        clear hK K cj
        try simp only [Act.put, List.setIfInBounds_toArray, List.set_cons_zero, List.set_cons_succ]
        refine wpAnyH_ready (rs := [7]) (by kernel_rfl) (by simp) ?_
        refine AllReadyH.cons (o := _) rfl (fun K hK => ?_) AllReadyH.nil
        simp only [List.getElem_toArray, List.getElem_cons_zero, List.getElem_cons_succ]
        go_simp
        refine hK.out _ _ (hH1.alloc _) (fun hH2 => ?_)
        clear hK K
        try simp only [Act.put, List.setIfInBounds_toArray, List.set_cons_zero, List.set_cons_succ]
        have HBA := Lib.hid ((Below.refl wd.heap.size wd).alloc (Nat.le_refl _) (.cells #[.int .i64 p.dev, .int .u32 p.at_, .int .i64 p.n, .int .u32 p.val] 37))
        have HNW := Lib.hid (heap_alloc_new wd (.cells #[.int .i64 p.dev, .int .u32 p.at_, .int .i64 p.n, .int .u32 p.val] 37))
        have HSZ := Lib.hid (show wd.heap.size < (wd.alloc (.cells #[.int .i64 p.dev, .int .u32 p.at_, .int .i64 p.n, .int .u32 p.val] 37)).heap.size ∧ w.heap.size + 3 ≤ wd.heap.size by have := lt_heap HGd.out.k2; simp; omega)
        have HGa : Hid (GV w (wd.alloc (.cells #[.int .i64 p.dev, .int .u32 p.at_, .int .i64 p.n, .int .u32 p.val] 37)) (.slice (some ⟨b, o, none⟩) n cap) (.slice av k cv) k (flat (l.take k))) := Lib.hid ⟨HGd.out.low.trans (HBA.out.mono HGd.out.low.size), keepB HGd.out.k0 HBA.out, keepB HGd.out.k1 HBA.out, keepB HGd.out.k2 HBA.out, owns_below HGd.out.ow HBA.out⟩
        generalize wd.alloc (.cells #[.int .i64 p.dev, .int .u32 p.at_, .int .i64 p.n, .int .u32 p.val] 37) = wa at hH2 HNW HSZ HGa ⊢
        generalize wd.heap.size = ba at HNW HSZ ⊢
        refine wpAnyH_ready (rs := [8]) (by kernel_rfl) (by simp) ?_
        refine AllReadyH.cons (o := _) rfl (fun K hK => ?_) (AllReadyH.nil)
        simp only [List.getElem_toArray, List.getElem_cons_zero, List.getElem_cons_succ]
        rw [if_pos (by rfl)]
        obtain ⟨ii, hi1, hi2, hi3, hi4⟩ := info_post
        refine wp_append_ownG _ _ _ 29 rfl (w.heap.size + 3) 37 ii _ 4 32 Tryd.underlying29 hi1 hi2 hi3 hi4 rfl (by omega) (.slice av k cv) k (flat (l.take k)) rfl HGa.out.ow ⟨ba, 0, none⟩ 1 1 p.c.toList rfl rfl (fun j u hj => ?_) (fun u hu => ?_) (by simp only [maxLen]; omega) (by omega) (by have := HSZ.out; omega) ?_
        · rw [Addr.add_lit, Nat.zero_add]
          exact (cell_of_row _ _ j _ _ _ HNW.out).trans (by rw [← hj]; show p.c[j]? = _; rw [← Array.getElem?_toList])
        · exact Array.all_eq_true_iff_forall_mem.1 p.c_one u (by simpa using hu)
        intro v' wg hown hgr
        rw [flat_take HPK.out] at hown
        have hlt1 := fun q hq => (ownsRow_lt HGa.out.ow (b := q) hq)
        have hlow : Below w.heap.size w wg := Below.grown HGa.out.low hgr HGa.out.low.size (fun q hq => by have := (hlt1 q hq).1; omega)
        have hsg : KX (fun k => w.heap.size + 2 ≤ k) wr wg := hH2.trans (X := fun k => w.heap.size + 2 ≤ k) (KX.mono (Y := fun k => w.heap.size + 2 ≤ k) (⟨hgr.os, hgr.tape, hgr.output, hgr.size, fun k hk hn => hgr.block k hk (fun e => hn e.symm)⟩ : KX (fun q => (Value.slice av k cv).ownBlock = some q) wa wg) (fun q _ hq => by have := (hlt1 q hq).1; omega)) (fun _ _ h => h)
        have g0 := (hgr.block _ (lt_heap HGa.out.k0) (fun e => by have := (hlt1 _ e.symm).1; omega)).trans HGa.out.k0
        have g1 := (hgr.block _ (lt_heap HGa.out.k1) (fun e => by have := (hlt1 _ e.symm).1; omega)).trans HGa.out.k1
        have g2 := (hgr.block _ (lt_heap HGa.out.k2) (fun e => by have := (hlt1 _ e.symm).1; omega)).trans HGa.out.k2
        obtain ⟨av', cv', rfl⟩ := ownsRow_formG hown
        have HGG : Hid (GV w wg (.slice (some ⟨b, o, none⟩) n cap) (.slice av k cv) (k + 1) (flat (l.take (k + 1))) ∨ True) := Lib.hid (.inr trivial)
        have HOWN := Lib.hid hown
        have HLW := Lib.hid hlow
        have G0 := Lib.hid g0
        have G1 := Lib.hid g1
        have G2 := Lib.hid g2
        refine hK.out _ _ hsg (fun hH3 => ?_)
        clear hK K hown hgr hlt1 hlow hsg g0 g1 g2 hi1 hi2 hi3 hi4 HGG
        try simp only [Act.put, List.setIfInBounds_toArray, List.set_cons_zero, List.set_cons_succ]
        refine wpAnyH_take (i := 9) (v := ?v9t1) rfl (by kernel_rfl) (by kernel_rfl) (by kernel_rfl) (fun _ _ _ h => h) (Or.inl ⟨by rfl, ?hy9t1⟩) (by assumption) ?rest9t1
        case hy9t1 => (intro W hSw; go_simp; first | done | with_reducible rfl)
        simp only [Act.put, List.getElem_toArray, List.getElem_cons_zero, List.getElem_cons_succ, List.setIfInBounds_toArray, List.set_cons_zero, List.set_cons_succ]
        refine wpAnyH_ready (rs := [10]) (by kernel_rfl) (by simp) ?_
        refine AllReadyH.cons (o := _) rfl (fun K hK => ?_) (AllReadyH.nil)
        simp only [List.getElem_toArray, List.getElem_cons_zero, List.getElem_cons_succ]
        have cz0 := (cell_of_row _ _ 0 _ _ _ G2.out).trans (rfl : _ = some (.slice av k cv : Value))
        have fz0 := frozen_of_row _ _ 0 _ _ G2.out
        go_simp
        refine hK.out _ _ (hH3.setCell (p := ⟨w.heap.size + 1 + 1, 0, none⟩) (.inl (by show w.heap.size + 2 ≤ w.heap.size + 1 + 1; omega)) _) (fun hH4 => ?_)
        clear hK K cz0 fz0
        refine wpAnyH_done (by kernel_rfl) ?_ _
        have HGN : Hid (GV w (wg.setCell ⟨w.heap.size + 1 + 1, 0, none⟩ (.slice av' (k + 1) cv')) (.slice (some ⟨b, o, none⟩) n cap) (.slice av' (k + 1) cv') (k + 1) (flat (l.take (k + 1)))) := Lib.hid ⟨HLW.out.setCell (p := ⟨w.heap.size + 1 + 1, 0, none⟩) (by show w.heap.size ≤ w.heap.size + 1 + 1; omega) _, (heap_cell_other (by show w.heap.size ≠ w.heap.size + 1 + 1; omega)).trans G0.out, (heap_cell_other (by show w.heap.size + 1 ≠ w.heap.size + 1 + 1; omega)).trans G1.out, (set_cells G2.out).trans rfl, ownsRow_keep HOWN.out (fun q hq => heap_cell_other (by have := (ownsRow_lt HOWN.out hq).1; show q ≠ w.heap.size + 1 + 1; omega))⟩
        clear hH4 hH3 HOWN HLW G0 G1 G2
        generalize wg.setCell ⟨w.heap.size + 1 + 1, 0, none⟩ (.slice av' (k + 1) cv') = wn at HGN ⊢
        clear hk1
        have hk2 : (k : Int) < 200 := by omega
        go_wp2_with fail
        go_roundw
        case rel => exact ⟨k + 1, av', cv', by go_num, by omega, HGN.out⟩
        case measure => simp [intOf]; omega
      · simp only [List.getElem_toArray, List.getElem_cons_zero, List.getElem_cons_succ]
        go_simp
        refine hK.out _ _ (hH0.alloc _) (fun hH2 => ?_)
        clear hK K
        try simp only [Act.put, List.setIfInBounds_toArray, List.set_cons_zero, List.set_cons_succ]
        have HBA := Lib.hid ((Below.refl wd.heap.size wd).alloc (Nat.le_refl _) (.cells #[.int .i64 p.dev, .int .u32 p.at_, .int .i64 p.n, .int .u32 p.val] 37))
        have HNW := Lib.hid (heap_alloc_new wd (.cells #[.int .i64 p.dev, .int .u32 p.at_, .int .i64 p.n, .int .u32 p.val] 37))
        have HSZ := Lib.hid (show wd.heap.size < (wd.alloc (.cells #[.int .i64 p.dev, .int .u32 p.at_, .int .i64 p.n, .int .u32 p.val] 37)).heap.size ∧ w.heap.size + 3 ≤ wd.heap.size by have := lt_heap HGd.out.k2; simp; omega)
        have HGa : Hid (GV w (wd.alloc (.cells #[.int .i64 p.dev, .int .u32 p.at_, .int .i64 p.n, .int .u32 p.val] 37)) (.slice (some ⟨b, o, none⟩) n cap) (.slice av k cv) k (flat (l.take k))) := Lib.hid ⟨HGd.out.low.trans (HBA.out.mono HGd.out.low.size), keepB HGd.out.k0 HBA.out, keepB HGd.out.k1 HBA.out, keepB HGd.out.k2 HBA.out, owns_below HGd.out.ow HBA.out⟩
        generalize wd.alloc (.cells #[.int .i64 p.dev, .int .u32 p.at_, .int .i64 p.n, .int .u32 p.val] 37) = wa at hH2 HNW HSZ HGa ⊢
        generalize wd.heap.size = ba at HNW HSZ ⊢
        refine wpAnyH_ready (rs := [1]) (by kernel_rfl) (by simp) ?_
        refine AllReadyH.cons (o := _) rfl (fun K hK => ?_) AllReadyH.nil
        simp only [List.getElem_toArray, List.getElem_cons_zero, List.getElem_cons_succ]
        have cj := (cell_of_row _ _ 0 _ _ _ HGa.out.k2).trans (rfl : _ = some (.slice av k cv : Value))
        go_simp
        refine hK.out _ _ hH2 (fun hH1 => ?_)
        clear hK K cj
        try simp only [Act.put, List.setIfInBounds_toArray, List.set_cons_zero, List.set_cons_succ]
        refine wpAnyH_ready (rs := [8]) (by kernel_rfl) (by simp) ?_
        refine AllReadyH.cons (o := _) rfl (fun K hK => ?_) (AllReadyH.nil)
        simp only [List.getElem_toArray, List.getElem_cons_zero, List.getElem_cons_succ]
        rw [if_pos (by rfl)]
        obtain ⟨ii, hi1, hi2, hi3, hi4⟩ := info_post
        refine wp_append_ownG _ _ _ 29 rfl (w.heap.size + 3) 37 ii _ 4 32 Tryd.underlying29 hi1 hi2 hi3 hi4 rfl (by omega) (.slice av k cv) k (flat (l.take k)) rfl HGa.out.ow ⟨ba, 0, none⟩ 1 1 p.c.toList rfl rfl (fun j u hj => ?_) (fun u hu => ?_) (by simp only [maxLen]; omega) (by omega) (by have := HSZ.out; omega) ?_
        · rw [Addr.add_lit, Nat.zero_add]
          exact (cell_of_row _ _ j _ _ _ HNW.out).trans (by rw [← hj]; show p.c[j]? = _; rw [← Array.getElem?_toList])
        · exact Array.all_eq_true_iff_forall_mem.1 p.c_one u (by simpa using hu)
        intro v' wg hown hgr
        rw [flat_take HPK.out] at hown
        have hlt1 := fun q hq => (ownsRow_lt HGa.out.ow (b := q) hq)
        have hlow : Below w.heap.size w wg := Below.grown HGa.out.low hgr HGa.out.low.size (fun q hq => by have := (hlt1 q hq).1; omega)
        have hsg : KX (fun k => w.heap.size + 2 ≤ k) wr wg := hH1.trans (X := fun k => w.heap.size + 2 ≤ k) (KX.mono (Y := fun k => w.heap.size + 2 ≤ k) (⟨hgr.os, hgr.tape, hgr.output, hgr.size, fun k hk hn => hgr.block k hk (fun e => hn e.symm)⟩ : KX (fun q => (Value.slice av k cv).ownBlock = some q) wa wg) (fun q _ hq => by have := (hlt1 q hq).1; omega)) (fun _ _ h => h)
        have g0 := (hgr.block _ (lt_heap HGa.out.k0) (fun e => by have := (hlt1 _ e.symm).1; omega)).trans HGa.out.k0
        have g1 := (hgr.block _ (lt_heap HGa.out.k1) (fun e => by have := (hlt1 _ e.symm).1; omega)).trans HGa.out.k1
        have g2 := (hgr.block _ (lt_heap HGa.out.k2) (fun e => by have := (hlt1 _ e.symm).1; omega)).trans HGa.out.k2
        obtain ⟨av', cv', rfl⟩ := ownsRow_formG hown
        have HGG : Hid (GV w wg (.slice (some ⟨b, o, none⟩) n cap) (.slice av k cv) (k + 1) (flat (l.take (k + 1))) ∨ True) := Lib.hid (.inr trivial)
        have HOWN := Lib.hid hown
        have HLW := Lib.hid hlow
        have G0 := Lib.hid g0
        have G1 := Lib.hid g1
        have G2 := Lib.hid g2
        refine hK.out _ _ hsg (fun hH3 => ?_)
        clear hK K hown hgr hlt1 hlow hsg g0 g1 g2 hi1 hi2 hi3 hi4 HGG
        try simp only [Act.put, List.setIfInBounds_toArray, List.set_cons_zero, List.set_cons_succ]
        refine wpAnyH_take (i := 9) (v := ?v9t2) rfl (by kernel_rfl) (by kernel_rfl) (by kernel_rfl) (fun _ _ _ h => h) (Or.inl ⟨by rfl, ?hy9t2⟩) (by assumption) ?rest9t2
        case hy9t2 => (intro W hSw; go_simp; first | done | with_reducible rfl)
        simp only [Act.put, List.getElem_toArray, List.getElem_cons_zero, List.getElem_cons_succ, List.setIfInBounds_toArray, List.set_cons_zero, List.set_cons_succ]
        refine wpAnyH_ready (rs := [10]) (by kernel_rfl) (by simp) ?_
        refine AllReadyH.cons (o := _) rfl (fun K hK => ?_) (AllReadyH.nil)
        simp only [List.getElem_toArray, List.getElem_cons_zero, List.getElem_cons_succ]
        have cz0 := (cell_of_row _ _ 0 _ _ _ G2.out).trans (rfl : _ = some (.slice av k cv : Value))
        have fz0 := frozen_of_row _ _ 0 _ _ G2.out
        go_simp
        refine hK.out _ _ (hH3.setCell (p := ⟨w.heap.size + 1 + 1, 0, none⟩) (.inl (by show w.heap.size + 2 ≤ w.heap.size + 1 + 1; omega)) _) (fun hH4 => ?_)
        clear hK K cz0 fz0
        refine wpAnyH_done (by kernel_rfl) ?_ _
        have HGN : Hid (GV w (wg.setCell ⟨w.heap.size + 1 + 1, 0, none⟩ (.slice av' (k + 1) cv')) (.slice (some ⟨b, o, none⟩) n cap) (.slice av' (k + 1) cv') (k + 1) (flat (l.take (k + 1)))) := Lib.hid ⟨HLW.out.setCell (p := ⟨w.heap.size + 1 + 1, 0, none⟩) (by show w.heap.size ≤ w.heap.size + 1 + 1; omega) _, (heap_cell_other (by show w.heap.size ≠ w.heap.size + 1 + 1; omega)).trans G0.out, (heap_cell_other (by show w.heap.size + 1 ≠ w.heap.size + 1 + 1; omega)).trans G1.out, (set_cells G2.out).trans rfl, ownsRow_keep HOWN.out (fun q hq => heap_cell_other (by have := (ownsRow_lt HOWN.out hq).1; show q ≠ w.heap.size + 1 + 1; omega))⟩
        clear hH4 hH3 HOWN HLW G0 G1 G2
        generalize wg.setCell ⟨w.heap.size + 1 + 1, 0, none⟩ (.slice av' (k + 1) cv') = wn at HGN ⊢
        clear hk1
        have hk2 : (k : Int) < 200 := by omega
        go_wp2_with fail
        go_roundw
        case rel => exact ⟨k + 1, av', cv', by go_num, by omega, HGN.out⟩
        case measure => simp [intOf]; omega
    · obtain rfl : k = n := by omega
      have HGF := Lib.hid (show l.take k = l from List.take_of_length_le (by have := HN.out; omega))
      rw [HGF.out] at HG
      have HO1 := Lib.hid (show (#[.slice av k cv] : Array Value).all (·.oneCell') = true by simp [Value.oneCell'])
      go_wp2_with (first | go_skip | (refine wpList_load_row rfl 31 _ rfl (w.heap.size + 1 + 1) rfl 31 #[.slice av k cv] (0, 0) _ HG.out.k2 Tryd.underlying31 rfl (by kernel_rfl) ?_) | (refine wpList_store_to rfl 31 _ _ rfl (w.heap.size + 1) #[.slice av k cv] rfl rfl 31 #[.slice none 0 0] HG.out.k1 (by kernel_rfl) rfl HO1.out ?_))
      intro wz hx hk
      have HZ := Lib.hid hk
      have HOZ := Lib.hid (ownsRow_keep HG.out.ow (fun q hq => hx.out.block q (ownsRow_lt HG.out.ow hq).2 (by have := (ownsRow_lt HG.out.ow hq).1; omega)))
      have HLZ := Lib.hid (HG.out.low.trans (hx.out.below (B := w.heap.size) (fun k hk e => by omega) HG.out.low.size))
      clear hx hk HG
      go_wp2_with fail
      refine bodyPost_ret (v := .agg #[.slice av k cv]) (results_cell_row Tryd.results8 _ _ (w.heap.size + 1) 31 #[.slice av k cv] (0, 0) _ rfl HZ.out Tryd.underlying31 rfl (by kernel_rfl)) rfl ⟨?_, HLZ.out⟩
      have h := HOZ.out
      have h2 := h
      rcases h2.2 with ⟨he, h0⟩ | ⟨gv, c, cur, he, _, _, hcc, _⟩
      · obtain ⟨rfl, rfl⟩ : av = none ∧ cv = 0 := by
          have : (Value.slice av k cv) = .slice none 0 0 := he
          simp at this
          exact ⟨this.1, this.2.2⟩
        exact ⟨none, 0, rfl, by omega, fun _ => ⟨h0, rfl⟩, fun j p hj => by have := (List.getElem?_eq_some_iff.1 hj).1; have := HN.out; omega⟩
      · obtain ⟨rfl, rfl⟩ : av = some ⟨gv, 0, none⟩ ∧ cv = c := by simpa using he
        exact ⟨_, _, rfl, hcc, (fun e => by cases e), posts_of_owns h HN.out⟩
end Go.Proofs.YtcmbnkmbaghkdaaDoor
