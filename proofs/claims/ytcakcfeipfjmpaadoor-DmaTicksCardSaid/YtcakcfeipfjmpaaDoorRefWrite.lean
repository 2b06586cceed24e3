/-
pinnaceref06.Write, walked where it does not fail.
No condition.
-/
import Derived.Test.YtcakcfeipfjmpaaDoorRefMem
import Derived.Test.YtcakcfeipfjmpaaDoorMemWrite
import Derived.Test.YtcakcfeipfjmpaaDoorWord4
namespace Go.Proofs.YtcakcfeipfjmpaaDoor
open Go.RowKit

theorem wp_append_tx {P : Program} {w : World} {o : Oper} {a : Act} {K : Act → World → Prop} {Q : Exit → Act → World → Prop} (s x : Operand) (t tx : TypeId)
    (ho : o.op = .call { callee := .builtin .append, args := #[s, x], argTypes := #[t, tx] })
    (base : Nat) (e e' : TypeId) (i : TypeInfo) (z : Value) (size bytes : Nat) (ht : P.underlying t = some (.slice e)) (htx : P.underlying tx = some (.slice e')) (hi : P.info? e = some i) (hz : i.zero = some z)
    (hsize : i.size = size) (hby : i.bytes = bytes) (hzs : z.cells.size = size) (hsz : 0 < size)
    (v : Value) (n : Nat) (xs : List Value) (hs : a.eval s = v) (hown : w.ownsRow base e size v n xs)
    (ad : Addr) (m c : Nat) (news : List Value) (hx : a.eval x = .slice (some ad) m c) (hl : news.length = m * size) (hnews : ∀ j u, news[j]? = some u → w.cell? (ad.add j) = some u) (h1 : ∀ u ∈ news, u.oneCell' = true)
    (h63 : n + m ≤ maxLen) (hbytes : (n + m) * bytes ≤ 140737488355328) (hbase : base ≤ w.heap.size)
    (h : ∀ v' w', w'.ownsRow base e size v' (n + m) (xs ++ news) → w.grownBy w' v.ownBlock → (v'.ownBlock = v.ownBlock ∨ v'.ownBlock = some w.heap.size) → K (a.put o.dst v') w') : Oper.wp P o a w K Q := by
  obtain ⟨v', w', hr, h2, h3, h4, h5⟩ := run_append_own_at (P := P) w base t o.type e i z size bytes ht hi hz hsize hby hzs hsz v n xs hown ad m c news hl hnews h1 h63 hbytes hbase
  rw [← append_types ht htx] at hr
  unfold Oper.wp execOp
  simp only [ho, resolve, invoke, builtin, Sem.run_bind, Sem.run_pure, Result.andThen_ok, List.map_toArray, List.map_cons, List.map_nil, hs, hx, hr]
  exact h v' w' h2 h3 h5
theorem grown_below2 {a b : World} {v : Value} {base : Nat} (hg : a.grownBy b v.ownBlock) (ho : ∀ g, v.ownBlock = some g → base ≤ g) (hs : base ≤ a.heap.size) : Below base a b :=
  ⟨hg.os, hg.tape, hg.output, hg.size, fun k hk => hg.block k (by omega) (fun e => by have := ho k (by first | exact e | exact e.symm); omega)⟩
theorem own_next {v v' : Value} {base s : Nat} (ho : ∀ g, v.ownBlock = some g → base ≤ g) (hs : base ≤ s) (h : v'.ownBlock = v.ownBlock ∨ v'.ownBlock = some s) : ∀ g, v'.ownBlock = some g → base ≤ g := by
  intro g hg
  rcases h with h | h
  · exact ho g (h ▸ hg)
  · rw [h] at hg
    obtain rfl := Option.some.inj hg
    exact hs
theorem Row.newsPre {W : World} {b n : Nat} {T : TypeId} {h : Nat → Value} (r : Row W b T n h) {m : Nat} (hm : m ≤ n) : ∀ j u, (rowL h m)[j]? = some u → W.cell? ((⟨b, 0, none⟩ : Addr).add j) = some u := fun j u hj => by
  have hl : j < m := by have := (List.getElem?_eq_some_iff.1 hj).1; rwa [rowL_length] at this
  exact r.news j u (by rw [rowL_get _ _ _ hl] at hj; rw [rowL_get _ _ _ (by omega)]; exact hj)
theorem Row.newsAt {W : World} {b n : Nat} {T : TypeId} {h : Nat → Value} (r : Row W b T n h) {off m : Nat} (hm : off + m ≤ n) : ∀ j u, (rowL (fun j => h (off + j)) m)[j]? = some u → W.cell? ((⟨b, off, none⟩ : Addr).add j) = some u := fun j u hj => by
  have hl : j < m := by have := (List.getElem?_eq_some_iff.1 hj).1; rwa [rowL_length] at this
  rw [rowL_get _ _ _ hl] at hj
  rw [Addr.add_lit, ← hj]
  exact r.cell (by omega)
theorem rowL_none (h : Nat → Value) (m : Nat) (hm : m = 0) : ∀ (W : World) (ad : Addr) j u, (rowL h m)[j]? = some u → W.cell? (ad.add j) = some u := fun W ad j u hj => by
  have hl : j < m := by have := (List.getElem?_eq_some_iff.1 hj).1; rwa [rowL_length] at this
  omega
theorem rowL_one (f : Nat → UInt8) (m : Nat) (off : Nat) : ∀ u ∈ rowL (fun j => cellU f (off + j)) m, u.oneCell' = true := fun u hu => by
  obtain ⟨x, _, rfl⟩ := List.mem_map.1 hu
  rfl
theorem rowL_one0 (f : Nat → UInt8) (m : Nat) : ∀ u ∈ rowL (cellU f) m, u.oneCell' = true := fun u hu => by
  obtain ⟨x, _, rfl⟩ := List.mem_map.1 hu
  rfl
theorem mapB8_one (l : List UInt8) : ∀ u ∈ l.map B8, u.oneCell' = true := fun u hu => by
  obtain ⟨x, _, rfl⟩ := List.mem_map.1 hu
  rfl
theorem parts_putL (f : Nat → UInt8) (a : Nat) (l : List UInt8) (k N i : Nat) (hk : k = l.length) (hi : i < N) (hs : a + k ≤ N) :
    (([] ++ rowL (cellU f) a ++ l.map B8) ++ rowL (fun j => cellU f (a + k + j)) (N - (a + k)))[i]? = some (cellU (putL f a l) i) := by
  subst hk
  unfold cellU
  by_cases h1 : i < a
  · rw [List.append_assoc, List.nil_append, List.getElem?_append_left (by rw [rowL_length]; exact h1), rowL_get _ _ _ h1]
    show some (B8 (f i)) = _
    rw [ putL_out f a l i (.inl h1)]
  · by_cases h2 : i < a + l.length
    · rw [List.nil_append, List.getElem?_append_left (by rw [List.length_append, rowL_length, List.length_map]; omega), List.getElem?_append_right (by rw [rowL_length]; omega), rowL_length, List.getElem?_map]
      obtain ⟨j, rfl⟩ : ∃ j, i = a + j := ⟨i - a, by omega⟩
      rw [Nat.add_sub_cancel_left, List.getElem?_eq_getElem (by omega), putL_get f a l j (by omega)]
      rfl
    · rw [List.nil_append, List.getElem?_append_right (by rw [List.length_append, rowL_length, List.length_map]; omega), List.length_append, rowL_length, List.length_map]
      obtain ⟨j, rfl⟩ : ∃ j, i = a + l.length + j := ⟨i - (a + l.length), by omega⟩
      rw [Nat.add_sub_cancel_left, rowL_get _ _ _ (by omega), putL_out f a l _ (.inr (by omega))]

set_option maxRecDepth 100000 in
set_option maxHeartbeats 4000000 in
theorem ref6_Write_row {w : World} {b1 c1 b2 n c2 : Nat} {q : Int} {f : Nat → UInt8} {d : Nat → Bool} (r1 : Row w b1 5 (4096 * n) (cellU f)) (r2 : Row w b2 4 n (cellT d)) (hn : 0 < n) (hn2 : n ≤ 16384) (hc1 : 4096 * n ≤ c1) (a : Nat) (l : List UInt8) (ad : Addr) (cs k : Nat) (hk : k = l.length) (h0 : 0 < k) (hs : a + k ≤ 4096 * n)
    (hsrc : ∀ W, Below w.heap.size w W → ∀ j u, (l.map B8)[j]? = some u → W.cell? (ad.add j) = some u) :
    Calls Tryd.prog 58 #[.agg (refC b1 (4096 * n) c1 b2 n c2 q), .int .u32 a, .slice (some ad) k cs] w fun e w' =>
      ∃ b3 c3 b4 c4, e = .returned (.tuple #[.agg (refC b3 (4096 * n) c3 b4 n c4 (wrap64 (q + 1))), .int .i64 0]) ∧ Row w' b3 5 (4096 * n) (cellU (putL f a l)) ∧ Row w' b4 4 n (cellT (markL d a k)) ∧ w.heap.size ≤ b3 ∧ w.heap.size ≤ b4 ∧ Below w.heap.size w w' ∧ 4096 * n ≤ c3 := by
  have HM := Lib.hid (fun W (r : Row W b2 4 n (cellT d)) => ref6_mark_ok (b1 := b1) (n1 := 4096 * n) (c1 := c1) (c2 := c2) (q := q) r hn hn2 a k h0 hs)
  have HSRC := Lib.hid hsrc
  have HK := Lib.hid hk
  unfold refC at *
  obtain ⟨k0, k1, hb0⟩ := two_new w (.cells #[.slice (some ⟨b1, 0, none⟩) (4096 * n) c1, .slice (some ⟨b2, 0, none⟩) n c2, .int .i64 q] 30) (.cells #[.slice none 0 0, .slice none 0 0, .int .i64 0] 30)
  have HR1 := Lib.hid (r1.below hb0)
  have HR2 := Lib.hid (r2.below hb0)
  have K0 := Lib.hid k0
  have K1 := Lib.hid k1
  have HB0 := Lib.hid hb0
  have HB1L : Hid (b1 < w.heap.size) := Lib.hid r1.lt
  obtain ⟨i0, hi0, hz0, hz1, hz2⟩ := info_of info_u8
  have HI0 := Lib.hid (And.intro hi0 (And.intro hz0 (And.intro hz1 hz2)))
  clear r1 r2 k0 k1 hb0 hsrc hk hi0 hz0 hz1 hz2
  have g1 : ¬ (4096 * (n : Int)) < (k : Int) := by omega
  have g2 : ¬ (4096 * (n : Int)) - (k : Int) < (a : Int) := by omega
  have g3 : ((k : Int) == 0) = false := by simp; omega
  have ha0 : (0 : Int) ≤ a := by omega
  have ha1 : (a : Int) ≤ 67108864 := by omega
  have hk0 : (0 : Int) ≤ k := by omega
  have hk1 : (k : Int) ≤ 67108864 := by omega
  have HNN := Lib.hid (And.intro hn (And.intro hn2 (And.intro hs (And.intro h0 hc1))))
  have hn0i : (0 : Int) ≤ n := by omega
  have hn1i : (n : Int) ≤ 16384 := by omega
  clear hn hn2 hs h0 hc1
  go_enter Tryd.func58, Tryd.ntmps58
  go_upto_region 1 with fail
  generalize ((w.alloc (.cells #[.slice (some ⟨b1, 0, none⟩) (4096 * n) c1, .slice (some ⟨b2, 0, none⟩) n c2, .int .i64 q] 30)).alloc (.cells #[.slice none 0 0, .slice none 0 0, .int .i64 0] 30)) = w1 at HR1 HR2 K0 K1 HB0 ⊢
  have cc := (cell_of_row _ _ 0 _ _ _ K0.out).trans (rfl : _ = some (.slice (some ⟨b1, 0, none⟩) (4096 * n) c1 : Value))
  have HSZ : Hid (w.heap.size + 1 < w1.heap.size) := Lib.hid (lt_heap K1.out)
  go_wp2_with (refine wpList_load_row rfl 30 _ rfl w.heap.size rfl 30 #[.slice (some ⟨b1, 0, none⟩) (4096 * n) c1, .slice (some ⟨b2, 0, none⟩) n c2, .int .i64 q] (0, 0) _ K0.out Tryd.underlying30 rfl (by kernel_rfl) ?_)
  refine (HM.out _ HR2.out).mono ?_
  rintro e w2 ⟨b4, c4, rfl, hrow, hb4, hbl⟩
  have K2 := Lib.hid (keepB K0.out hbl)
  have K3 := Lib.hid (keepB K1.out hbl)
  have R1 := Lib.hid (HR1.out.below hbl)
  have R4 := Lib.hid hrow
  have HB4 : Hid (w.heap.size + 1 < b4) := Lib.hid (Nat.lt_of_lt_of_le HSZ.out hb4)
  have HBL := Lib.hid (HB0.out.trans (hbl.mono HB0.out.size))
  clear cc HM hrow hb4 hbl K0 K1 HB0 HR1 HR2 HSZ
  have HO4 := Lib.hid (refC_one b1 (4096 * n) c1 b4 n c4 q)
  unfold refC at HO4
  go_wp2_with (refine wpList_store_to rfl 30 _ _ rfl w.heap.size #[.slice (some ⟨b1, 0, none⟩) (4096 * n) c1, .slice (some ⟨b4, 0, none⟩) n c4, .int .i64 q] rfl rfl 30 #[.slice (some ⟨b1, 0, none⟩) (4096 * n) c1, .slice (some ⟨b2, 0, none⟩) n c2, .int .i64 q] K2.out (by kernel_rfl) rfl HO4.out ?_)
  intro w3 hx hk
  have K5 := Lib.hid hk
  have K6 := Lib.hid (hx.out.heap K3.out (by omega))
  have R5 := Lib.hid (R1.out.kx hx.out (by have := HB1L.out; omega))
  have R6 := Lib.hid (R4.out.kx hx.out (by have := HB4.out; omega))
  have HB5 := Lib.hid (HBL.out.trans (hx.out.below (B := w.heap.size) (fun k hk e => by omega) HBL.out.size))
  have HSZ : Hid (w.heap.size + 1 < w3.heap.size) := Lib.hid (lt_heap K6.out)
  clear hx hk K2 K3 R1 R4 HBL HO4
  go_upto_region 7 with fail
  have HS : Hid (∀ W W' : World, (Below w.heap.size w W ∧ W.heap[w.heap.size]? = some (.cells #[.slice (some ⟨b1, 0, none⟩) (4096 * n) c1, .slice (some ⟨b4, 0, none⟩) n c4, .int .i64 q] 30 (0, 0))) → Below w3.heap.size W W' → (Below w.heap.size w W' ∧ W'.heap[w.heap.size]? = some (.cells #[.slice (some ⟨b1, 0, none⟩) (4096 * n) c1, .slice (some ⟨b4, 0, none⟩) n c4, .int .i64 q] 30 (0, 0)))) := Lib.hid (fun W W' h hb => ⟨h.1.trans (hb.mono (by have := HSZ.out; omega)), (hb.block _ (by have := HSZ.out; omega)).trans h.2⟩)
  have HWR : Hid (IntKind.i64.wrap (IntKind.i64.wrap (a : Int) + (k : Int)) = (a : Int) + (k : Int)) := Lib.hid (by simp only [IntKind.wrap_i64]; omega)
  have HWL : Hid ((a : Int) + (k : Int) ≤ 4096 * (n : Int) ∧ (0 : Int) ≤ (a : Int) + (k : Int) ∧ ((a : Int) + (k : Int)).toNat = a + k) := Lib.hid (by have := HNN.out; omega)
  have HBASE : Hid (w.heap.size ≤ w3.heap.size ∧ w.heap.size < w3.heap.size) := Lib.hid ⟨by have := HSZ.out; omega, by have := HSZ.out; omega⟩
  have hac : (a : Int) ≤ (c1 : Int) := by have := HNN.out; omega
  have hakc : (a : Int) + (k : Int) ≤ 4096 * (n : Int) := by have := HNN.out; omega
  refine wp_region_held_drew (S := fun W => Below w.heap.size w W ∧ W.heap[w.heap.size]? = some (.cells #[.slice (some ⟨b1, 0, none⟩) (4096 * n) c1, .slice (some ⟨b4, 0, none⟩) n c4, .int .i64 q] 30 (0, 0))) (by kernel_rfl) (And.intro HB5.out.drew K5.out) (fun hH0 => ?_)
  by_cases hca : c1 = a + k
  · subst hca
    have hac2 : (a : Int) ≤ (a : Int) + (k : Int) := by omega
    refine wpAnyH_take (i := 0) (v := ?v0a) rfl (by kernel_rfl) (by kernel_rfl) (by kernel_rfl) (fun _ _ _ h => h) (Or.inl ⟨by rfl, ?hy0a⟩) (by assumption) ?rest0a
    case hy0a => (intro W hSw; go_simp; first | done | with_reducible rfl)
    simp only [Act.put, List.getElem_toArray, List.getElem_cons_zero, List.setIfInBounds_toArray, List.set_cons_zero, List.set_cons_succ]
    refine wpAnyH_take (i := 1) (v := ?v1a) rfl (by kernel_rfl) (by kernel_rfl) (by kernel_rfl) (fun _ _ _ h => h) (Or.inl ⟨by rfl, ?hy1a⟩) (by assumption) ?rest1a
    case hy1a => (intro W hSw; go_simp; first | done | with_reducible rfl)
    simp only [Act.put, List.getElem_toArray, List.getElem_cons_zero, List.getElem_cons_succ, List.setIfInBounds_toArray, List.set_cons_zero, List.set_cons_succ]
    refine wpAnyH_take (i := 2) (v := ?v2a) rfl (by kernel_rfl) (by kernel_rfl) (by kernel_rfl) (fun _ _ _ h => h) (Or.inl ⟨by rfl, ?hy2a⟩) (by assumption) ?rest2a
    case hy2a => (intro W hSw; have cj := (cell_of_row _ _ 0 _ _ _ hSw.2).trans (rfl : _ = some (.slice (some ⟨b1, 0, none⟩) (4096 * n) (a + k) : Value)); go_simp; first | done | with_reducible rfl)
    simp only [Act.put, List.getElem_toArray, List.getElem_cons_zero, List.getElem_cons_succ, List.setIfInBounds_toArray, List.set_cons_zero, List.set_cons_succ]
    refine wpAnyH_take (i := 3) (v := ?v3a) rfl (by kernel_rfl) (by kernel_rfl) (by kernel_rfl) (fun _ _ _ h => h) (Or.inl ⟨by rfl, ?hy3a⟩) (by assumption) ?rest3a
    case hy3a => (intro W hSw; go_simp; first | done | with_reducible rfl)
    simp only [Act.put, List.getElem_toArray, List.getElem_cons_zero, List.getElem_cons_succ, List.setIfInBounds_toArray, List.set_cons_zero, List.set_cons_succ]
    refine wpAnyH_take (i := 4) (v := ?v4a) rfl (by kernel_rfl) (by kernel_rfl) (by kernel_rfl) (fun _ _ _ h => h) (Or.inl ⟨by rfl, ?hy4a⟩) (by assumption) ?rest4a
    case hy4a => (intro W hSw; go_simp; first | done | with_reducible rfl)
    simp only [Act.put, List.getElem_toArray, List.getElem_cons_zero, List.getElem_cons_succ, List.setIfInBounds_toArray, List.set_cons_zero, List.set_cons_succ]
    refine wpAnyH_take (i := 6) (v := ?v6a) rfl (by kernel_rfl) (by kernel_rfl) (by kernel_rfl) (fun _ _ _ h => h) (Or.inl ⟨by rfl, ?hy6a⟩) (by assumption) ?rest6a
    case hy6a => (intro W hSw; go_simp; first | done | with_reducible rfl)
    simp only [Act.put, List.getElem_toArray, List.getElem_cons_zero, List.getElem_cons_succ, List.setIfInBounds_toArray, List.set_cons_zero, List.set_cons_succ]
    refine wpAnyH_take (i := 8) (v := ?v8a) rfl (by kernel_rfl) (by kernel_rfl) (by kernel_rfl) (fun _ _ _ h => h) (Or.inl ⟨by rfl, ?hy8a⟩) (by assumption) ?rest8a
    case hy8a => (intro W hSw; go_simp; first | done | with_reducible rfl)
    simp only [Act.put, List.getElem_toArray, List.getElem_cons_zero, List.getElem_cons_succ, List.setIfInBounds_toArray, List.set_cons_zero, List.set_cons_succ]
    refine wpAnyH_take (i := 9) (v := ?v9a) rfl (by kernel_rfl) (by kernel_rfl) (by kernel_rfl) (fun _ _ _ h => h) (Or.inl ⟨by rfl, ?hy9a⟩) (by assumption) ?rest9a
    case hy9a => (intro W hSw; have cj := (cell_of_row _ _ 0 _ _ _ hSw.2).trans (rfl : _ = some (.slice (some ⟨b1, 0, none⟩) (4096 * n) (a + k) : Value)); go_simp; first | done | with_reducible rfl)
    simp only [Act.put, List.getElem_toArray, List.getElem_cons_zero, List.getElem_cons_succ, List.setIfInBounds_toArray, List.set_cons_zero, List.set_cons_succ]
    refine wpAnyH_take (i := 10) (v := ?v10a) rfl (by kernel_rfl) (by kernel_rfl) (by kernel_rfl) (fun _ _ _ h => h) (Or.inl ⟨by rfl, ?hy10a⟩) (by assumption) ?rest10a
    case hy10a => (intro W hSw; go_simp; first | done | with_reducible rfl)
    simp only [Act.put, List.getElem_toArray, List.getElem_cons_zero, List.getElem_cons_succ, List.setIfInBounds_toArray, List.set_cons_zero, List.set_cons_succ]
    refine wpAnyH_take (i := 11) (v := ?v11a) rfl (by kernel_rfl) (by kernel_rfl) (by kernel_rfl) (fun _ _ _ h => h) (Or.inl ⟨by rfl, ?hy11a⟩) (by assumption) ?rest11a
    case hy11a => (intro W hSw; go_simp; first | done | with_reducible rfl)
    simp only [Act.put, List.getElem_toArray, List.getElem_cons_zero, List.getElem_cons_succ, List.setIfInBounds_toArray, List.set_cons_zero, List.set_cons_succ]
    refine wpAnyH_take (i := 12) (v := ?v12a) rfl (by kernel_rfl) (by kernel_rfl) (by kernel_rfl) (fun _ _ _ h => h) (Or.inl ⟨by rfl, ?hy12a⟩) (by assumption) ?rest12a
    case hy12a => (intro W hSw; go_simp; first | done | with_reducible rfl)
    simp only [Act.put, List.getElem_toArray, List.getElem_cons_zero, List.getElem_cons_succ, List.setIfInBounds_toArray, List.set_cons_zero, List.set_cons_succ]
    refine wpAnyH_take (i := 13) (v := ?v13a) rfl (by kernel_rfl) (by kernel_rfl) (by kernel_rfl) (fun _ _ _ h => h) (Or.inl ⟨by rfl, ?hy13a⟩) (by assumption) ?rest13a
    case hy13a => (intro W hSw; go_simp; first | done | with_reducible rfl)
    simp only [Act.put, List.getElem_toArray, List.getElem_cons_zero, List.getElem_cons_succ, List.setIfInBounds_toArray, List.set_cons_zero, List.set_cons_succ]
    refine wpAnyH_take (i := 14) (v := ?v14a) rfl (by kernel_rfl) (by kernel_rfl) (by kernel_rfl) (fun _ _ _ h => h) (Or.inl ⟨by rfl, ?hy14a⟩) (by assumption) ?rest14a
    case hy14a => (intro W hSw; go_simp; first | done | with_reducible rfl)
    simp only [Act.put, List.getElem_toArray, List.getElem_cons_zero, List.getElem_cons_succ, List.setIfInBounds_toArray, List.set_cons_zero, List.set_cons_succ]
    refine wpAnyH_take (i := 15) (v := ?v15a) rfl (by kernel_rfl) (by kernel_rfl) (by kernel_rfl) (fun _ _ _ h => h) (Or.inl ⟨by rfl, ?hy15a⟩) (by assumption) ?rest15a
    case hy15a => (intro W hSw; have hw := HWR.out; have hw2 := HWL.out.1; have hw3 := HWL.out.2.1; have hw4 := HWL.out.2.2; go_simp; first | done | with_reducible rfl)
    simp only [Act.put, List.getElem_toArray, List.getElem_cons_zero, List.getElem_cons_succ, List.setIfInBounds_toArray, List.set_cons_zero, List.set_cons_succ]
    refine wpAnyH_ready (rs := [5]) (by kernel_rfl) (by simp) ?_
    refine AllReadyH.cons (o := _) rfl (fun K hK => ?_) (AllReadyH.nil)
    simp only [List.getElem_toArray, List.getElem_cons_zero, List.getElem_cons_succ]
    rw [if_pos (by rfl)]
    refine wp_append_tx _ _ 27 27 rfl w3.heap.size 5 5 i0 _ 1 1 Tryd.underlying27 Tryd.underlying27 HI0.out.1 HI0.out.2.1 HI0.out.2.2.1 HI0.out.2.2.2 rfl (by omega) (.slice none 0 0) (0) [] rfl (World.ownsRow_nil _ _ _ _) ⟨b1, 0, none⟩ (a) (a + k) (rowL (cellU f) a) rfl (by rw [rowL_length, Nat.mul_one]) (Row.newsPre (W := w3.drew) R5.out (by have := HNN.out; omega)) (rowL_one0 f a) (by have := HNN.out; simp only [maxLen]; omega) (by have := HNN.out; omega) (Nat.le_refl _) ?_
    intro v1 w5 hownv1 hgr hvb
    have ho1 : ∀ g, v1.ownBlock = some g → w3.heap.size ≤ g := own_next (v := .slice none 0 0) (fun g h => by cases h) (Nat.le_refl _) hvb
    have hb5 : Below w3.heap.size w3.drew w5 := grown_below2 hgr (fun g h => by cases h) (Nat.le_refl _)
    have HO1 := Lib.hid ho1
    have HB5 := Lib.hid hb5
    have HOWN1 := Lib.hid hownv1
    refine hK.out _ _ (HS.out _ _ hH0 hb5) (fun hH1 => ?_)
    clear hK K hH0 hb5 ho1 hgr hvb hownv1
    try simp only [Act.put, List.setIfInBounds_toArray, List.set_cons_zero, List.set_cons_succ]
    refine wpAnyH_ready (rs := [7]) (by kernel_rfl) (by simp) ?_
    refine AllReadyH.cons (o := _) rfl (fun K hK => ?_) (AllReadyH.nil)
    simp only [List.getElem_toArray, List.getElem_cons_zero, List.getElem_cons_succ]
    rw [if_pos (by rfl)]
    refine wp_append_tx _ _ 27 27 rfl w3.heap.size 5 5 i0 _ 1 1 Tryd.underlying27 Tryd.underlying27 HI0.out.1 HI0.out.2.1 HI0.out.2.2.1 HI0.out.2.2.2 rfl (by omega) v1 (0 + a) ([] ++ rowL (cellU f) a) rfl HOWN1.out ad (k) cs (l.map B8) rfl (by rw [List.length_map, Nat.mul_one, HK.out]) (HSRC.out w5 hH1.1) (mapB8_one l) (by have := HNN.out; simp only [maxLen]; omega) (by have := HNN.out; omega) (HB5.out.size) ?_
    intro v2 w6 hownv2 hgr hvb
    have ho2 : ∀ g, v2.ownBlock = some g → w3.heap.size ≤ g := own_next HO1.out HB5.out.size hvb
    have hb6 : Below w3.heap.size w5 w6 := grown_below2 hgr HO1.out HB5.out.size
    have HO2 := Lib.hid ho2
    have HB6 := Lib.hid (((Below.refl w3.heap.size w3).drew.trans HB5.out).trans hb6)
    have HOWN2 := Lib.hid hownv2
    refine hK.out _ _ (HS.out _ _ hH1 hb6) (fun hH2 => ?_)
    clear hK K hH1 hb6 ho2 hgr hvb hownv2 HO1 HB5 HOWN1
    try simp only [Act.put, List.setIfInBounds_toArray, List.set_cons_zero, List.set_cons_succ]
    refine wpAnyH_ready (rs := [16]) (by kernel_rfl) (by simp) ?_
    refine AllReadyH.cons (o := _) rfl (fun K hK => ?_) (AllReadyH.nil)
    simp only [List.getElem_toArray, List.getElem_cons_zero, List.getElem_cons_succ]
    rw [if_pos (by rfl)]
    refine wp_append_tx _ _ 27 27 rfl w3.heap.size 5 5 i0 _ 1 1 Tryd.underlying27 Tryd.underlying27 HI0.out.1 HI0.out.2.1 HI0.out.2.2.1 HI0.out.2.2.2 rfl (by omega) v2 (0 + a + k) ([] ++ rowL (cellU f) a ++ l.map B8) rfl HOWN2.out ⟨b1, 0, none⟩ (4096 * n - (a + k)) _ (rowL (fun j => cellU f (a + k + j)) (4096 * n - (a + k))) rfl (by rw [rowL_length, Nat.mul_one]) (rowL_none _ _ (by have := HNN.out; omega) _ _) (rowL_one f _ _) (by have := HNN.out; simp only [maxLen]; omega) (by have := HNN.out; omega) (HB6.out.size) ?_
    intro v3 w7 hownv3 hgr hvb
    have hb7 : Below w3.heap.size w6 w7 := grown_below2 hgr HO2.out HB6.out.size
    have eN : 0 + a + k + (4096 * n - (a + k)) = 4096 * n := by have := HNN.out; omega
    rw [eN] at hownv3
    obtain ⟨b3, c3, rfl, hc3, hb3, hrow⟩ := Row.of_owns hownv3 (by have := HNN.out; omega) (h := cellU (putL f a l)) (fun i hi => parts_putL f a l k _ i HK.out hi (by have := HNN.out; omega))
    have HB7 := Lib.hid (HB6.out.trans hb7)
    have R7 := Lib.hid hrow
    have HB3 := Lib.hid hb3
    have HC3 := Lib.hid hc3
    refine hK.out _ _ (HS.out _ _ hH2 hb7) (fun hH3 => ?_)
    clear hK K hH2 hb7 hgr hvb hownv3 hrow hb3 hc3 HO2 HB6 HOWN2 eN
    try simp only [Act.put, List.setIfInBounds_toArray, List.set_cons_zero, List.set_cons_succ]
    refine wpAnyH_take (i := 17) (v := ?v17a) rfl (by kernel_rfl) (by kernel_rfl) (by kernel_rfl) (fun _ _ _ h => h) (Or.inl ⟨by rfl, ?hy17a⟩) (by assumption) ?rest17a
    case hy17a => (intro W hSw; go_simp; first | done | with_reducible rfl)
    simp only [Act.put, List.getElem_toArray, List.getElem_cons_zero, List.getElem_cons_succ, List.setIfInBounds_toArray, List.set_cons_zero, List.set_cons_succ]
    refine wpAnyH_done (by kernel_rfl) ?_ _
    have K7 := Lib.hid hH3.2
    have HBW := Lib.hid hH3.1
    clear hH3
    have R8 := Lib.hid (R6.out.below HB7.out)
    have K8 := Lib.hid (keepB K6.out HB7.out)
    clear R5 R6 K5 K6 HB7
    have c11 := (cell_of_row _ _ 0 _ _ _ K7.out).trans (rfl : _ = some (.slice (some ⟨b1, 0, none⟩) (4096 * n) (a + k) : Value))
    have c12 := (cell_of_row _ _ 2 _ _ _ K7.out).trans (rfl : _ = some (.int .i64 q : Value))
    have f13 := fun j => frozen_of_row _ _ j _ _ K7.out
    have hkk : ((w7.setCell ⟨w.heap.size, 0, none⟩ (.slice (some ⟨b3, 0, none⟩) (4096 * n) c3)).setCell ⟨w.heap.size, 2, none⟩ (.int .i64 (wrap64 (q + 1)))).heap[w.heap.size]? = some (.cells #[.slice (some ⟨b3, 0, none⟩) (4096 * n) c3, .slice (some ⟨b4, 0, none⟩) n c4, .int .i64 (wrap64 (q + 1))] 30 (0, 0)) := (set_cells (set_cells K7.out)).trans rfl
    have hx15 := Lib.hid (show KX (fun k => k = w.heap.size) w7 ((w7.setCell ⟨w.heap.size, 0, none⟩ (.slice (some ⟨b3, 0, none⟩) (4096 * n) c3)).setCell ⟨w.heap.size, 2, none⟩ (.int .i64 (wrap64 (q + 1)))) from ((KX.refl (fun k => k = w.heap.size) w7).setCell (p := ⟨w.heap.size, 0, none⟩) (.inl rfl) _).setCell (p := ⟨w.heap.size, 2, none⟩) (.inl rfl) _)
    go_upto_region 10 with fail
    generalize ((w7.setCell ⟨w.heap.size, 0, none⟩ (.slice (some ⟨b3, 0, none⟩) (4096 * n) c3)).setCell ⟨w.heap.size, 2, none⟩ (.int .i64 (wrap64 (q + 1)))) = w8 at hkk hx15 ⊢
    clear c11 c12 f13
    have K9 := Lib.hid hkk
    have K10 := Lib.hid (hx15.out.heap K8.out (by omega))
    have R9 := Lib.hid (R7.out.kx hx15.out (by have := HB3.out; have := HSZ.out; omega))
    have R10 := Lib.hid (R8.out.kx hx15.out (by have := HB4.out; omega))
    have HB9 := Lib.hid (HBW.out.trans (hx15.out.below (B := w.heap.size) (fun k hk e => by omega) HBW.out.size))
    clear hkk hx15 K7 K8 R7 R8 HBW
    have HO19 := Lib.hid (refC_one b3 (4096 * n) c3 b4 n c4 (wrap64 (q + 1)))
    unfold refC at HO19
    go_wp2_with (first | (refine wpList_load_row rfl 30 _ rfl w.heap.size rfl 30 #[.slice (some ⟨b3, 0, none⟩) (4096 * n) c3, .slice (some ⟨b4, 0, none⟩) n c4, .int .i64 (wrap64 (q + 1))] (0, 0) _ K9.out Tryd.underlying30 rfl (by kernel_rfl) ?_) | (refine wpList_store_to rfl 30 _ _ rfl (w.heap.size + 1) #[.slice (some ⟨b3, 0, none⟩) (4096 * n) c3, .slice (some ⟨b4, 0, none⟩) n c4, .int .i64 (wrap64 (q + 1))] rfl rfl 30 #[.slice none 0 0, .slice none 0 0, .int .i64 0] K10.out (by kernel_rfl) rfl HO19.out ?_))
    intro w9 hx hkk
    have K11 := Lib.hid hkk
    have R11 := Lib.hid (R9.out.kx hx.out (by have := HB3.out; have := HSZ.out; omega))
    have R12 := Lib.hid (R10.out.kx hx.out (by have := HB4.out; omega))
    have HB11 := Lib.hid (HB9.out.trans (hx.out.below (B := w.heap.size) (fun k hk e => by omega) HB9.out.size))
    clear hx hkk K9 K10 R9 R10 HB9
    go_wp2_with fail
    exact bodyPost_ret (v := .tuple #[.agg #[.slice (some ⟨b3, 0, none⟩) (4096 * n) c3, .slice (some ⟨b4, 0, none⟩) n c4, .int .i64 (wrap64 (q + 1))], .int .i64 0]) (results_cell_tmp Tryd.results58 _ _ (w.heap.size + 1) 30 #[.slice (some ⟨b3, 0, none⟩) (4096 * n) c3, .slice (some ⟨b4, 0, none⟩) n c4, .int .i64 (wrap64 (q + 1))] (0, 0) _ rfl K11.out Tryd.underlying30 rfl (by kernel_rfl)) rfl ⟨b3, c3, b4, c4, rfl, R11.out, R12.out, by have := HB3.out; have := HSZ.out; omega, by have := HB4.out; omega, HB11.out, HC3.out⟩
  · skip
    have hac2 : (a : Int) ≤ (a : Int) + (k : Int) := by omega
    refine wpAnyH_take (i := 0) (v := ?v0b) rfl (by kernel_rfl) (by kernel_rfl) (by kernel_rfl) (fun _ _ _ h => h) (Or.inl ⟨by rfl, ?hy0b⟩) (by assumption) ?rest0b
    case hy0b => (intro W hSw; go_simp; first | done | with_reducible rfl)
    simp only [Act.put, List.getElem_toArray, List.getElem_cons_zero, List.setIfInBounds_toArray, List.set_cons_zero, List.set_cons_succ]
    refine wpAnyH_take (i := 1) (v := ?v1b) rfl (by kernel_rfl) (by kernel_rfl) (by kernel_rfl) (fun _ _ _ h => h) (Or.inl ⟨by rfl, ?hy1b⟩) (by assumption) ?rest1b
    case hy1b => (intro W hSw; go_simp; first | done | with_reducible rfl)
    simp only [Act.put, List.getElem_toArray, List.getElem_cons_zero, List.getElem_cons_succ, List.setIfInBounds_toArray, List.set_cons_zero, List.set_cons_succ]
    refine wpAnyH_take (i := 2) (v := ?v2b) rfl (by kernel_rfl) (by kernel_rfl) (by kernel_rfl) (fun _ _ _ h => h) (Or.inl ⟨by rfl, ?hy2b⟩) (by assumption) ?rest2b
    case hy2b => (intro W hSw; have cj := (cell_of_row _ _ 0 _ _ _ hSw.2).trans (rfl : _ = some (.slice (some ⟨b1, 0, none⟩) (4096 * n) c1 : Value)); go_simp; first | done | with_reducible rfl)
    simp only [Act.put, List.getElem_toArray, List.getElem_cons_zero, List.getElem_cons_succ, List.setIfInBounds_toArray, List.set_cons_zero, List.set_cons_succ]
    refine wpAnyH_take (i := 3) (v := ?v3b) rfl (by kernel_rfl) (by kernel_rfl) (by kernel_rfl) (fun _ _ _ h => h) (Or.inl ⟨by rfl, ?hy3b⟩) (by assumption) ?rest3b
    case hy3b => (intro W hSw; go_simp; first | done | with_reducible rfl)
    simp only [Act.put, List.getElem_toArray, List.getElem_cons_zero, List.getElem_cons_succ, List.setIfInBounds_toArray, List.set_cons_zero, List.set_cons_succ]
    refine wpAnyH_take (i := 4) (v := ?v4b) rfl (by kernel_rfl) (by kernel_rfl) (by kernel_rfl) (fun _ _ _ h => h) (Or.inl ⟨by rfl, ?hy4b⟩) (by assumption) ?rest4b
    case hy4b => (intro W hSw; go_simp; first | done | with_reducible rfl)
    simp only [Act.put, List.getElem_toArray, List.getElem_cons_zero, List.getElem_cons_succ, List.setIfInBounds_toArray, List.set_cons_zero, List.set_cons_succ]
    refine wpAnyH_take (i := 6) (v := ?v6b) rfl (by kernel_rfl) (by kernel_rfl) (by kernel_rfl) (fun _ _ _ h => h) (Or.inl ⟨by rfl, ?hy6b⟩) (by assumption) ?rest6b
    case hy6b => (intro W hSw; go_simp; first | done | with_reducible rfl)
    simp only [Act.put, List.getElem_toArray, List.getElem_cons_zero, List.getElem_cons_succ, List.setIfInBounds_toArray, List.set_cons_zero, List.set_cons_succ]
    refine wpAnyH_take (i := 8) (v := ?v8b) rfl (by kernel_rfl) (by kernel_rfl) (by kernel_rfl) (fun _ _ _ h => h) (Or.inl ⟨by rfl, ?hy8b⟩) (by assumption) ?rest8b
    case hy8b => (intro W hSw; go_simp; first | done | with_reducible rfl)
    simp only [Act.put, List.getElem_toArray, List.getElem_cons_zero, List.getElem_cons_succ, List.setIfInBounds_toArray, List.set_cons_zero, List.set_cons_succ]
    refine wpAnyH_take (i := 9) (v := ?v9b) rfl (by kernel_rfl) (by kernel_rfl) (by kernel_rfl) (fun _ _ _ h => h) (Or.inl ⟨by rfl, ?hy9b⟩) (by assumption) ?rest9b
    case hy9b => (intro W hSw; have cj := (cell_of_row _ _ 0 _ _ _ hSw.2).trans (rfl : _ = some (.slice (some ⟨b1, 0, none⟩) (4096 * n) c1 : Value)); go_simp; first | done | with_reducible rfl)
    simp only [Act.put, List.getElem_toArray, List.getElem_cons_zero, List.getElem_cons_succ, List.setIfInBounds_toArray, List.set_cons_zero, List.set_cons_succ]
    refine wpAnyH_take (i := 10) (v := ?v10b) rfl (by kernel_rfl) (by kernel_rfl) (by kernel_rfl) (fun _ _ _ h => h) (Or.inl ⟨by rfl, ?hy10b⟩) (by assumption) ?rest10b
    case hy10b => (intro W hSw; go_simp; first | done | with_reducible rfl)
    simp only [Act.put, List.getElem_toArray, List.getElem_cons_zero, List.getElem_cons_succ, List.setIfInBounds_toArray, List.set_cons_zero, List.set_cons_succ]
    refine wpAnyH_take (i := 11) (v := ?v11b) rfl (by kernel_rfl) (by kernel_rfl) (by kernel_rfl) (fun _ _ _ h => h) (Or.inl ⟨by rfl, ?hy11b⟩) (by assumption) ?rest11b
    case hy11b => (intro W hSw; go_simp; first | done | with_reducible rfl)
    simp only [Act.put, List.getElem_toArray, List.getElem_cons_zero, List.getElem_cons_succ, List.setIfInBounds_toArray, List.set_cons_zero, List.set_cons_succ]
    refine wpAnyH_take (i := 12) (v := ?v12b) rfl (by kernel_rfl) (by kernel_rfl) (by kernel_rfl) (fun _ _ _ h => h) (Or.inl ⟨by rfl, ?hy12b⟩) (by assumption) ?rest12b
    case hy12b => (intro W hSw; go_simp; first | done | with_reducible rfl)
    simp only [Act.put, List.getElem_toArray, List.getElem_cons_zero, List.getElem_cons_succ, List.setIfInBounds_toArray, List.set_cons_zero, List.set_cons_succ]
    refine wpAnyH_take (i := 13) (v := ?v13b) rfl (by kernel_rfl) (by kernel_rfl) (by kernel_rfl) (fun _ _ _ h => h) (Or.inl ⟨by rfl, ?hy13b⟩) (by assumption) ?rest13b
    case hy13b => (intro W hSw; go_simp; first | done | with_reducible rfl)
    simp only [Act.put, List.getElem_toArray, List.getElem_cons_zero, List.getElem_cons_succ, List.setIfInBounds_toArray, List.set_cons_zero, List.set_cons_succ]
    refine wpAnyH_take (i := 14) (v := ?v14b) rfl (by kernel_rfl) (by kernel_rfl) (by kernel_rfl) (fun _ _ _ h => h) (Or.inl ⟨by rfl, ?hy14b⟩) (by assumption) ?rest14b
    case hy14b => (intro W hSw; go_simp; first | done | with_reducible rfl)
    simp only [Act.put, List.getElem_toArray, List.getElem_cons_zero, List.getElem_cons_succ, List.setIfInBounds_toArray, List.set_cons_zero, List.set_cons_succ]
    refine wpAnyH_take (i := 15) (v := ?v15b) rfl (by kernel_rfl) (by kernel_rfl) (by kernel_rfl) (fun _ _ _ h => h) (Or.inl ⟨by rfl, ?hy15b⟩) (by assumption) ?rest15b
    case hy15b => (intro W hSw; have hw := HWR.out; have hw2 := HWL.out.1; have hw3 := HWL.out.2.1; have hw4 := HWL.out.2.2; go_simp; first | done | with_reducible rfl)
    simp only [Act.put, List.getElem_toArray, List.getElem_cons_zero, List.getElem_cons_succ, List.setIfInBounds_toArray, List.set_cons_zero, List.set_cons_succ]
    refine wpAnyH_ready (rs := [5]) (by kernel_rfl) (by simp) ?_
    refine AllReadyH.cons (o := _) rfl (fun K hK => ?_) (AllReadyH.nil)
    simp only [List.getElem_toArray, List.getElem_cons_zero, List.getElem_cons_succ]
    rw [if_pos (by rfl)]
    refine wp_append_tx _ _ 27 27 rfl w3.heap.size 5 5 i0 _ 1 1 Tryd.underlying27 Tryd.underlying27 HI0.out.1 HI0.out.2.1 HI0.out.2.2.1 HI0.out.2.2.2 rfl (by omega) (.slice none 0 0) (0) [] rfl (World.ownsRow_nil _ _ _ _) ⟨b1, 0, none⟩ (a) c1 (rowL (cellU f) a) rfl (by rw [rowL_length, Nat.mul_one]) (Row.newsPre (W := w3.drew) R5.out (by have := HNN.out; omega)) (rowL_one0 f a) (by have := HNN.out; simp only [maxLen]; omega) (by have := HNN.out; omega) (Nat.le_refl _) ?_
    intro v1 w5 hownv1 hgr hvb
    have ho1 : ∀ g, v1.ownBlock = some g → w3.heap.size ≤ g := own_next (v := .slice none 0 0) (fun g h => by cases h) (Nat.le_refl _) hvb
    have hb5 : Below w3.heap.size w3.drew w5 := grown_below2 hgr (fun g h => by cases h) (Nat.le_refl _)
    have HO1 := Lib.hid ho1
    have HB5 := Lib.hid hb5
    have HOWN1 := Lib.hid hownv1
    refine hK.out _ _ (HS.out _ _ hH0 hb5) (fun hH1 => ?_)
    clear hK K hH0 hb5 ho1 hgr hvb hownv1
    try simp only [Act.put, List.setIfInBounds_toArray, List.set_cons_zero, List.set_cons_succ]
    refine wpAnyH_ready (rs := [7]) (by kernel_rfl) (by simp) ?_
    refine AllReadyH.cons (o := _) rfl (fun K hK => ?_) (AllReadyH.nil)
    simp only [List.getElem_toArray, List.getElem_cons_zero, List.getElem_cons_succ]
    rw [if_pos (by rfl)]
    refine wp_append_tx _ _ 27 27 rfl w3.heap.size 5 5 i0 _ 1 1 Tryd.underlying27 Tryd.underlying27 HI0.out.1 HI0.out.2.1 HI0.out.2.2.1 HI0.out.2.2.2 rfl (by omega) v1 (0 + a) ([] ++ rowL (cellU f) a) rfl HOWN1.out ad (k) cs (l.map B8) rfl (by rw [List.length_map, Nat.mul_one, HK.out]) (HSRC.out w5 hH1.1) (mapB8_one l) (by have := HNN.out; simp only [maxLen]; omega) (by have := HNN.out; omega) (HB5.out.size) ?_
    intro v2 w6 hownv2 hgr hvb
    have ho2 : ∀ g, v2.ownBlock = some g → w3.heap.size ≤ g := own_next HO1.out HB5.out.size hvb
    have hb6 : Below w3.heap.size w5 w6 := grown_below2 hgr HO1.out HB5.out.size
    have HO2 := Lib.hid ho2
    have HB6 := Lib.hid (((Below.refl w3.heap.size w3).drew.trans HB5.out).trans hb6)
    have HOWN2 := Lib.hid hownv2
    refine hK.out _ _ (HS.out _ _ hH1 hb6) (fun hH2 => ?_)
    clear hK K hH1 hb6 ho2 hgr hvb hownv2 HO1 HB5 HOWN1
    try simp only [Act.put, List.setIfInBounds_toArray, List.set_cons_zero, List.set_cons_succ]
    refine wpAnyH_ready (rs := [16]) (by kernel_rfl) (by simp) ?_
    refine AllReadyH.cons (o := _) rfl (fun K hK => ?_) (AllReadyH.nil)
    simp only [List.getElem_toArray, List.getElem_cons_zero, List.getElem_cons_succ]
    rw [if_pos (by rfl)]
    refine wp_append_tx _ _ 27 27 rfl w3.heap.size 5 5 i0 _ 1 1 Tryd.underlying27 Tryd.underlying27 HI0.out.1 HI0.out.2.1 HI0.out.2.2.1 HI0.out.2.2.2 rfl (by omega) v2 (0 + a + k) ([] ++ rowL (cellU f) a ++ l.map B8) rfl HOWN2.out ⟨b1, a + k, none⟩ (4096 * n - (a + k)) _ (rowL (fun j => cellU f (a + k + j)) (4096 * n - (a + k))) rfl (by rw [rowL_length, Nat.mul_one]) (Row.newsAt (R5.out.below HB6.out) (by have := HNN.out; omega)) (rowL_one f _ _) (by have := HNN.out; simp only [maxLen]; omega) (by have := HNN.out; omega) (HB6.out.size) ?_
    intro v3 w7 hownv3 hgr hvb
    have hb7 : Below w3.heap.size w6 w7 := grown_below2 hgr HO2.out HB6.out.size
    have eN : 0 + a + k + (4096 * n - (a + k)) = 4096 * n := by have := HNN.out; omega
    rw [eN] at hownv3
    obtain ⟨b3, c3, rfl, hc3, hb3, hrow⟩ := Row.of_owns hownv3 (by have := HNN.out; omega) (h := cellU (putL f a l)) (fun i hi => parts_putL f a l k _ i HK.out hi (by have := HNN.out; omega))
    have HB7 := Lib.hid (HB6.out.trans hb7)
    have R7 := Lib.hid hrow
    have HB3 := Lib.hid hb3
    have HC3 := Lib.hid hc3
    refine hK.out _ _ (HS.out _ _ hH2 hb7) (fun hH3 => ?_)
    clear hK K hH2 hb7 hgr hvb hownv3 hrow hb3 hc3 HO2 HB6 HOWN2 eN
    try simp only [Act.put, List.setIfInBounds_toArray, List.set_cons_zero, List.set_cons_succ]
    refine wpAnyH_take (i := 17) (v := ?v17b) rfl (by kernel_rfl) (by kernel_rfl) (by kernel_rfl) (fun _ _ _ h => h) (Or.inl ⟨by rfl, ?hy17b⟩) (by assumption) ?rest17b
    case hy17b => (intro W hSw; go_simp; first | done | with_reducible rfl)
    simp only [Act.put, List.getElem_toArray, List.getElem_cons_zero, List.getElem_cons_succ, List.setIfInBounds_toArray, List.set_cons_zero, List.set_cons_succ]
    refine wpAnyH_done (by kernel_rfl) ?_ _
    have K7 := Lib.hid hH3.2
    have HBW := Lib.hid hH3.1
    clear hH3
    have R8 := Lib.hid (R6.out.below HB7.out)
    have K8 := Lib.hid (keepB K6.out HB7.out)
    clear R5 R6 K5 K6 HB7
    have c11 := (cell_of_row _ _ 0 _ _ _ K7.out).trans (rfl : _ = some (.slice (some ⟨b1, 0, none⟩) (4096 * n) c1 : Value))
    have c12 := (cell_of_row _ _ 2 _ _ _ K7.out).trans (rfl : _ = some (.int .i64 q : Value))
    have f13 := fun j => frozen_of_row _ _ j _ _ K7.out
    have hkk : ((w7.setCell ⟨w.heap.size, 0, none⟩ (.slice (some ⟨b3, 0, none⟩) (4096 * n) c3)).setCell ⟨w.heap.size, 2, none⟩ (.int .i64 (wrap64 (q + 1)))).heap[w.heap.size]? = some (.cells #[.slice (some ⟨b3, 0, none⟩) (4096 * n) c3, .slice (some ⟨b4, 0, none⟩) n c4, .int .i64 (wrap64 (q + 1))] 30 (0, 0)) := (set_cells (set_cells K7.out)).trans rfl
    have hx15 := Lib.hid (show KX (fun k => k = w.heap.size) w7 ((w7.setCell ⟨w.heap.size, 0, none⟩ (.slice (some ⟨b3, 0, none⟩) (4096 * n) c3)).setCell ⟨w.heap.size, 2, none⟩ (.int .i64 (wrap64 (q + 1)))) from ((KX.refl (fun k => k = w.heap.size) w7).setCell (p := ⟨w.heap.size, 0, none⟩) (.inl rfl) _).setCell (p := ⟨w.heap.size, 2, none⟩) (.inl rfl) _)
    go_upto_region 10 with fail
    generalize ((w7.setCell ⟨w.heap.size, 0, none⟩ (.slice (some ⟨b3, 0, none⟩) (4096 * n) c3)).setCell ⟨w.heap.size, 2, none⟩ (.int .i64 (wrap64 (q + 1)))) = w8 at hkk hx15 ⊢
    clear c11 c12 f13
    have K9 := Lib.hid hkk
    have K10 := Lib.hid (hx15.out.heap K8.out (by omega))
    have R9 := Lib.hid (R7.out.kx hx15.out (by have := HB3.out; have := HSZ.out; omega))
    have R10 := Lib.hid (R8.out.kx hx15.out (by have := HB4.out; omega))
    have HB9 := Lib.hid (HBW.out.trans (hx15.out.below (B := w.heap.size) (fun k hk e => by omega) HBW.out.size))
    clear hkk hx15 K7 K8 R7 R8 HBW
    have HO19 := Lib.hid (refC_one b3 (4096 * n) c3 b4 n c4 (wrap64 (q + 1)))
    unfold refC at HO19
    go_wp2_with (first | (refine wpList_load_row rfl 30 _ rfl w.heap.size rfl 30 #[.slice (some ⟨b3, 0, none⟩) (4096 * n) c3, .slice (some ⟨b4, 0, none⟩) n c4, .int .i64 (wrap64 (q + 1))] (0, 0) _ K9.out Tryd.underlying30 rfl (by kernel_rfl) ?_) | (refine wpList_store_to rfl 30 _ _ rfl (w.heap.size + 1) #[.slice (some ⟨b3, 0, none⟩) (4096 * n) c3, .slice (some ⟨b4, 0, none⟩) n c4, .int .i64 (wrap64 (q + 1))] rfl rfl 30 #[.slice none 0 0, .slice none 0 0, .int .i64 0] K10.out (by kernel_rfl) rfl HO19.out ?_))
    intro w9 hx hkk
    have K11 := Lib.hid hkk
    have R11 := Lib.hid (R9.out.kx hx.out (by have := HB3.out; have := HSZ.out; omega))
    have R12 := Lib.hid (R10.out.kx hx.out (by have := HB4.out; omega))
    have HB11 := Lib.hid (HB9.out.trans (hx.out.below (B := w.heap.size) (fun k hk e => by omega) HB9.out.size))
    clear hx hkk K9 K10 R9 R10 HB9
    go_wp2_with fail
    exact bodyPost_ret (v := .tuple #[.agg #[.slice (some ⟨b3, 0, none⟩) (4096 * n) c3, .slice (some ⟨b4, 0, none⟩) n c4, .int .i64 (wrap64 (q + 1))], .int .i64 0]) (results_cell_tmp Tryd.results58 _ _ (w.heap.size + 1) 30 #[.slice (some ⟨b3, 0, none⟩) (4096 * n) c3, .slice (some ⟨b4, 0, none⟩) n c4, .int .i64 (wrap64 (q + 1))] (0, 0) _ rfl K11.out Tryd.underlying30 rfl (by kernel_rfl)) rfl ⟨b3, c3, b4, c4, rfl, R11.out, R12.out, by have := HB3.out; have := HSZ.out; omega, by have := HB4.out; omega, HB11.out, HC3.out⟩
end Go.Proofs.YtcakcfeipfjmpaaDoor
