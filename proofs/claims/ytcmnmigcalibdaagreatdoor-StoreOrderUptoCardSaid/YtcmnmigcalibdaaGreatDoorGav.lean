import Derived.Test.YtcmnmigcalibdaaGreatDoorGau
namespace Go.Proofs.YtcmnmigcalibdaaGreatDoor
open Go.Proofs.Tryz
open Go Go.Mv
set_option maxRecDepth 8000
theorem quo_nat {a b : Nat} (h : a ≤ 1000000000) : IntKind.i64.wrap ((a : Int).tdiv (b : Int)) = ((a / b : Nat) : Int) := by
  have h1 : ((a : Int).tdiv (b : Int)) = ((a / b : Nat) : Int) := by rw [Int.tdiv_eq_ediv_of_nonneg (by omega)]; simp
  have h2 : a / b ≤ a := Nat.div_le_self a b
  rw [h1]
  generalize a / b = c at h2
  exact wrap64_id (by omega) (by omega)
def padZ (b : List UInt8) : Nat → List UInt8
  | 0 => b ++ [128]
  | k + 1 => padZ b k ++ [0]
theorem padZ_len (b : List UInt8) : ∀ k, (padZ b k).length = b.length + 1 + k
  | 0 => by simp [padZ]
  | k + 1 => by rw [padZ, List.length_append, padZ_len b k]; simp; omega
theorem padZ_eq (b : List UInt8) : ∀ k, padZ b k = b ++ 128 :: List.replicate k 0
  | 0 => rfl
  | k + 1 => by rw [padZ, padZ_eq b k, List.replicate_succ']; simp
theorem tailL_8 (l0 : List UInt8) (N : Nat) : tailL l0 N 8 = l0 ++ (List.range 8).map fun i => UInt8.ofNat (N / 2 ^ (8 * (7 - i))) := by
  simp [tailL, List.range_succ]
theorem pad_eq (b : List UInt8) {k : Nat} (h : k = (119 - b.length % 64) % 64) : tailL (padZ b k) (8 * b.length) 8 = b ++ shaTail b.length := by
  rw [tailL_8, padZ_eq, h, shaTail]
  simp
theorem wr8b {n : Nat} (h : n ≤ 1000000) : Value.int .u64 (IntKind.u64.wrap (8 * (n : Int))) = .int .u64 ((8 * n : Nat) : Int) := by
  congr 1
  rw [u64_wrap]; omega
theorem shaTail_len (n : Nat) : (shaTail n).length = 9 + (119 - n % 64) % 64 := by simp [shaTail]; omega
theorem pad_len (b : List UInt8) : (b ++ shaTail b.length).length % 64 = 0 := by
  rw [List.length_append, shaTail_len]; omega
theorem mix_doc (s t : S8) : [gt (S8.l s) 0 + t.a, gt (S8.l s) 1 + t.b, gt (S8.l s) 2 + t.c, gt (S8.l s) 3 + t.d, gt (S8.l s) 4 + t.e, gt (S8.l s) 5 + t.f, gt (S8.l s) 6 + t.g, gt (S8.l s) 7 + t.h] = S8.l (addS8 s t) := by
  show [s.a + t.a, s.b + t.b, s.c + t.c, s.d + t.d, s.e + t.e, s.f + t.f, s.g + t.g, s.h + t.h] = [t.a + s.a, t.b + s.b, t.c + s.c, t.d + s.d, t.e + s.e, t.f + s.f, t.g + s.g, t.h + s.h]
  rw [UInt32.add_comm s.a, UInt32.add_comm s.b, UInt32.add_comm s.c, UInt32.add_comm s.d, UInt32.add_comm s.e, UInt32.add_comm s.f, UInt32.add_comm s.g, UInt32.add_comm s.h]
theorem run_next {s tt : S8} {x : List UInt8} {i : Nat} (ht : tt = shaRun s x i) : shaStep tt (gt shaK i) (gt (wsL x 64) i) = shaRun s x (i + 1) := by
  rw [shaRun, wsL_64, ht]
theorem blk_next {L : List UInt8} {m : Nat} (h : 64 * m + 64 ≤ L.length) : shaMix (shaAll shaB (L.take (64 * m))) ((L.take (64 * m + 64)).drop (64 * m)) = shaAll shaB (L.take (64 * (m + 1))) := by
  have hu : (L.take (64 * m + 64)).take (64 * m) = L.take (64 * m) := by rw [List.take_take]; congr 1; omega
  have hul : (L.take (64 * m)).length = 64 * m := by rw [List.length_take]; omega
  have hvl : ((L.take (64 * m + 64)).drop (64 * m)).length = 64 := by rw [List.length_drop, List.length_take]; omega
  have hul0 : shaLeft (L.take (64 * m)) = [] := by
    unfold shaLeft
    rw [hul]
    exact List.drop_eq_nil_of_le (by rw [hul]; omega)
  have e : L.take (64 * (m + 1)) = L.take (64 * m) ++ (L.take (64 * m + 64)).drop (64 * m) := by
    rw [show 64 * (m + 1) = 64 * m + 64 by omega]
    conv => lhs; rw [← List.take_append_drop (64 * m) (L.take (64 * m + 64)), hu]
  rw [e]
  generalize (L.take (64 * m + 64)).drop (64 * m) = V at hvl
  rw [shaAll_app _ _ (L.take (64 * m)) V (Nat.le_refl _), hul0, List.nil_append, shaAll_go (l := V) (by omega), shaAll_end (l := V.drop 64) (by rw [List.length_drop]; omega), List.take_of_length_le (l := V) (i := 64) (by omega)]
def idUpB (t : S8) (i : Nat) : Nat → Int := fun j => if j < i then shaId t j else 0
theorem idUpB_0 (t : S8) : idV (idUpB t 0) = idV (fun _ => 0) := by
  have : idUpB t 0 = fun _ => 0 := by funext j; simp [idUpB]
  rw [this]
theorem idUpB_next (t : S8) {i : Nat} (h : i < 32) : (idV (upd (idUpB t i) i (((gt (S8.l t) (i / 4)) >>> UInt32.ofNat (24 - 8 * (i % 4))).toUInt8.toNat : Int))).cells = (idV (idUpB t (i + 1))).cells := by
  have : upd (idUpB t i) i (((gt (S8.l t) (i / 4)) >>> UInt32.ofNat (24 - 8 * (i % 4))).toUInt8.toNat : Int) = idUpB t (i + 1) := by
    funext j
    by_cases hj : j = i
    · subst hj; rw [upd_same, idUpB, if_pos (by omega), shaId, if_pos h]
    · rw [upd_other hj]; simp only [idUpB]
      by_cases h1 : j < i
      · rw [if_pos h1, if_pos (by omega)]
      · rw [if_neg h1, if_neg (by omega)]
  rw [this]
theorem idUpB_32 (t : S8) : idUpB t 32 = shaId t := by
  funext j
  simp only [idUpB]
  split
  · rfl
  · rw [shaId, if_neg (by omega)]
theorem id_put {f : Nat → Int} {z : Int} (k : Nat) (hz : z.toNat = k) (hk : k < 32) {n : Int} : (idV f).cells.setIfInBounds (0 + z.toNat * 1) (.int .u8 n) = (idV (upd f k n)).cells := by
  rw [hz, Nat.zero_add, Nat.mul_one]
  have e1 : ∀ g : Nat → Int, (idV g).cells.size = 32 := fun _ => rfl
  apply Array.ext
  · rw [Array.size_setIfInBounds, e1, e1]
  · intro i h1 h2
    have hi : i < 32 := by rw [e1] at h2; exact h2
    have a1 := id_at (upd f k n) hi
    have a2 := id_at f hi
    rw [Array.getElem?_eq_getElem (by rw [e1]; exact hi)] at a1 a2
    rw [Array.getElem_setIfInBounds (by rw [e1]; exact hi)]
    rw [Option.some.inj a1]
    split
    · rename_i h; subst h; rw [upd_same]
    · rename_i h
      rw [upd_other (Ne.symm h)]
      exact Option.some.inj a2
theorem id_lt {f : Nat → Int} {z : Int} (k : Nat) (hz : z.toNat = k) (hk : k < 32) : Nat.blt (0 + z.toNat * 1) (idV f).cells.size = true := by
  rw [hz, Nat.zero_add, Nat.mul_one]
  exact Nat.ble_eq_true_of_le hk

theorem c_padded (bv : Value) (b : List UInt8) (HX : Mem) (w : World) (hbb : Rdb HX bv b) (hlb : b.length ≤ 1000000) (hH : Hp HX w) : Calls Tryz.prog 141 #[bv] w (Ret w [] fun v H1 => ∃ st, BldOk 1 (byteC) (b ++ shaTail b.length) st ∧ v = bldVx (b ++ shaTail b.length) st ∧ H1 = bldMx 5 (byteC) (b ++ shaTail b.length) st) := by
 refine fn_enter (args := [_]) func141 rfl ntmps141 rfl hH (sq (pl (qa rfl (n0 (sq (pl (qa rfl (n0 (sq ?_)))))))))
 refine pl (qm rfl (qm rfl (TE_appendX (st := none) (l := []) (ys := b) HX byteC_len byteC_one rfl rfl rfl rfl trivial rfl underlying32 elByteR rfl rfl rfl BldOk.nil (Rdx.of_b hbb) sb (by simp; omega) rfl (by intro e he; cases he) ?_)))
 intro st1 hbo2 hX3 _
 have hbo4 : BldOk 1 byteC b st1 := hbo2
 have hX5 : ∀ e ∈ (bldMx 5 byteC b st1), w.heap.size ≤ e.1 ∨ e.1 ∈ [] := hX3
 refine TE_sp ((bldMx 5 byteC b st1) ++ HX) (fun a => Nat.le_refl _) ?_
 have hR7 := hbo4.rdx (u := 5) byteC_len
 refine tsp ((bldMx 5 (byteC) b st1) ++ HX) (TE_buildSlice (cells := #[.int .u8 128]) rfl runUnderlying32 sizeOf5 zeroValue5 rfl rfl rfl (by kernel_rfl) trivial rfl fun b9 hb9 => (tsp ((bldMx 5 (byteC) b st1) ++ ((b9, .cells #[.int .u8 128] 5 (0, 0)) :: HX)) (TE_appendX (st := st1) (l := b) (ys := [128]) ((b9, .cells #[.int .u8 128] 5 (0, 0)) :: HX) byteC_len byteC_one rfl rfl rfl rfl trivial rfl underlying32 elByteR rfl rfl rfl hbo4 (Rdx.of_b (Rdb.of_x (Rdx.blk (enc := byteC) (H := [(b9, .cells #[.int .u8 128] 5 (0, 0))]) (xs := [128]) (n := 1) (i := 0) (tl := []) (c := 1) byteC_len rfl rfl (Nat.le_refl _)))) sb (by simp; omega) rfl hX5 ?_)))
 intro st8 hbo9 hX10 _
 have hR12 := hbo9.rdx (u := 5) byteC_len
 refine tsp ((b9, .cells #[.int .u8 128] 5 (0, 0)) :: ((bldMx 5 (byteC) (b ++ [128]) st8) ++ HX)) (qa rfl (n0 (sq (pn_block (pn_sp ((b9, .cells #[.int .u8 128] 5 (0, 0)) :: ((bldMx 5 byteC (padZ b 0) st8) ++ HX)) (fun a => Nat.le_refl _) (lpS (σ := Nat × SnkS) (fun q => [(0, bv), (3, bldVx (padZ b q.1) q.2)]) (fun q => ((bldMx 5 byteC (padZ b q.1) q.2) ++ HX)) (fun q => (q.1 ≤ (119 - b.length % 64) % 64) ∧ (BldOk 1 byteC (padZ b q.1) q.2) ∧ (∀ e ∈ bldMx 5 byteC (padZ b q.1) q.2, w.heap.size ≤ e.1 ∨ e.1 ∈ [])) (fun q => (119 - b.length % 64) % 64 - q.1) (0, st8) ⟨(by omega), (show BldOk 1 byteC (padZ b 0) st8 from hbo9), hX10⟩ ⟨rfl, rfl, trivial⟩ ?_))))))
 rintro ⟨k0, st0⟩ ⟨hk0, hbost0, hXst0⟩
 dsimp only at hk0 hbost0 hXst0 ⊢
 have hRst0 := hbost0.rdx (u := 5) byteC_len
 have hpl := padZ_len b k0
 refine sq (sq (pn_plain [1] rfl (qm rfl (qq rfl (RD.lenX runUnderlying32 rfl hRst0) (qq rfl (RD.as (v := .int .i64 (((padZ b k0).length % 64 : Nat) : Int)) (RD.rem rfl rfl (by decide)) (congrArg (Value.int .i64) (by rw [show (((padZ b k0).length : Int) : Int) = (((padZ b k0).length : Nat) : Int) from by omega]; exact tmod_nat _ _))) (qq rfl (RD.neq rfl rfl) (n0 (pn_condN rfl (fun hc13 => ?_) (fun hc13 => ?_)))))))))
 ·refine sk (pn_block (pl (qm rfl (TE_buildSlice (cells := #[.int .u8 0]) rfl runUnderlying32 sizeOf5 zeroValue5 rfl rfl rfl (by kernel_rfl) trivial rfl fun b16 hb16 => (tsp ((bldMx 5 (byteC) (padZ b k0) st0) ++ ((b16, .cells #[.int .u8 0] 5 (0, 0)) :: HX)) (TE_appendX (st := st0) (l := (padZ b k0)) (ys := [0]) ((b16, .cells #[.int .u8 0] 5 (0, 0)) :: HX) byteC_len byteC_one rfl rfl rfl rfl trivial rfl underlying32 elByteR rfl rfl rfl hbost0 (Rdx.of_b (Rdb.of_x (Rdx.blk (enc := byteC) (H := [(b16, .cells #[.int .u8 0] 5 (0, 0))]) (xs := [0]) (n := 1) (i := 0) (tl := []) (c := 1) byteC_len rfl rfl (Nat.le_refl _)))) sb (by simp only [padZ_len, List.length_cons, List.length_nil]; omega) rfl hXst0 ?_))))))
  intro st14 hbo15 hX16 _
  have hR18 := hbo15.rdx (u := 5) byteC_len
  refine tsp ((b16, .cells #[.int .u8 0] 5 (0, 0)) :: ((bldMx 5 (byteC) ((padZ b k0) ++ [0]) st14) ++ HX)) (qa rfl (n0 ?_))
  have he19 : ((padZ b k0) ++ [0]) = (padZ b (k0 + 1)) := rfl
  exact pn_againS ((k0 + 1), st14) ⟨(by omega), (by rw [← he19]; exact hbo15), (by rw [← he19]; exact hX16)⟩ (by dsimp only; omega) ⟨rfl, (congrArg (fun l => some (bldVx l st14)) he19), trivial⟩ (fun a => by (try simp only [← he19]); simp -failIfUnchanged <;> omega)
 ·refine xt (sq (pn_plain [1, 2] rfl (qm rfl (qq rfl (RD.lenR runUnderlying32 rfl hbb) (qq rfl (RD.as (v := .int .u64 ((b.length : Nat) : Int)) (RD.conv runUnderlying3 runUnderlying128 rfl) (u64_of (by omega) (by omega))) (qq rfl (RD.as (v := .int .u64 ((8 * b.length : Nat) : Int)) (RD.mul rfl rfl) (wr8b (by omega))) (qa rfl (n0 (sq ?_)))))))))
  refine sq (plG [] (bldMx 5 byteC (padZ b k0) st0) (qa rfl (n0 (pn_block ?_))))
  have hz0 : k0 = (119 - b.length % 64) % 64 := (by omega)
  refine pn_sp (bldMx 5 byteC (tailL (padZ b k0) (8 * b.length) 0) st0) (fun a => Nat.le_refl _) (lpS (σ := Nat × SnkS) (fun q => [(4, .int .u64 ((8 * b.length : Nat) : Int)), (3, bldVx (tailL (padZ b k0) (8 * b.length) q.1) q.2), (5, .int .i64 (7 - (q.1 : Int)))]) (fun q => (bldMx 5 byteC (tailL (padZ b k0) (8 * b.length) q.1) q.2)) (fun q => (q.1 ≤ 8) ∧ (BldOk 1 byteC (tailL (padZ b k0) (8 * b.length) q.1) q.2) ∧ (∀ e ∈ bldMx 5 byteC (tailL (padZ b k0) (8 * b.length) q.1) q.2, w.heap.size ≤ e.1 ∨ e.1 ∈ [])) (fun q => 8 - q.1) (0, st0) ⟨(by omega), (show BldOk 1 byteC (tailL (padZ b k0) (8 * b.length) 0) st0 from hbost0), hXst0⟩ ⟨rfl, rfl, rfl, trivial⟩ ?_)
  rintro ⟨k, st5⟩ ⟨hk, hbost5, hXst5⟩
  dsimp only at hk hbost5 hXst5 ⊢
  have hRst5 := hbost5.rdx (u := 5) byteC_len
  refine sq (sq (pl (qm rfl (qq rfl (RD.geq rfl rfl) (n0 (pn_condD rfl (fun hc20 => ?_) (fun hc20 => ?_)))))))
  ·refine sk (sq (pn_block (pn_plain [4, 6] rfl (qm rfl (qm rfl (qm rfl (qq rfl (RD.mulI rfl rfl (by omega) (by omega)) (qq rfl (RD.as (v := .int .u64 ((56 - 8 * k : Nat) : Int)) (RD.conv runUnderlying3 runUnderlying129 rfl) (congrArg (Value.int .u64) (by rw [u64_wrap]; omega))) (qq rfl (RD.as (v := .int .u64 ((8 * b.length / 2 ^ (56 - 8 * k) : Nat) : Int)) (RD.shr rfl rfl (by omega)) (sh_u64 rfl)) ?_)))))))))
   refine qq rfl (RD.as (v := .int .u8 ((UInt8.ofNat (8 * b.length / 2 ^ (56 - 8 * k))).toNat : Int)) (RD.conv runUnderlying128 runUnderlying5 rfl) (nar_u8 _)) (TE_buildSlice (cells := #[.int .u8 ((UInt8.ofNat (8 * b.length / 2 ^ (56 - 8 * k))).toNat : Int)]) rfl runUnderlying32 sizeOf5 zeroValue5 rfl rfl rfl (by kernel_rfl) trivial rfl fun b33 hb33 => (tsp ((bldMx 5 (byteC) (tailL (padZ b k0) (8 * b.length) k) st5) ++ [(b33, .cells #[.int .u8 ((UInt8.ofNat (8 * b.length / 2 ^ (56 - 8 * k))).toNat : Int)] 5 (0, 0))]) (TE_appendX (st := st5) (l := (tailL (padZ b k0) (8 * b.length) k)) (ys := [(UInt8.ofNat (8 * b.length / 2 ^ (56 - 8 * k)))]) [(b33, .cells #[.int .u8 ((UInt8.ofNat (8 * b.length / 2 ^ (56 - 8 * k))).toNat : Int)] 5 (0, 0))] byteC_len byteC_one rfl rfl rfl rfl trivial rfl underlying32 elByteR rfl rfl rfl hbost5 (Rdx.of_b (Rdb.of_x (Rdx.blk (enc := byteC) (H := [(b33, .cells #[.int .u8 ((UInt8.ofNat (8 * b.length / 2 ^ (56 - 8 * k))).toNat : Int)] 5 (0, 0))]) (xs := [(UInt8.ofNat (8 * b.length / 2 ^ (56 - 8 * k)))]) (n := 1) (i := 0) (tl := []) (c := 1) byteC_len rfl rfl (Nat.le_refl _)))) sb (by simp only [tailL_len, padZ_len, List.length_cons, List.length_nil]; omega) rfl hXst5 ?_)))
   intro st21 hbo22 hX23 _
   have hR25 := hbo22.rdx (u := 5) byteC_len
   refine tsp ((b33, .cells #[.int .u8 ((UInt8.ofNat (8 * b.length / 2 ^ (56 - 8 * k))).toNat : Int)] 5 (0, 0)) :: (bldMx 5 (byteC) ((tailL (padZ b k0) (8 * b.length) k) ++ [(UInt8.ofNat (8 * b.length / 2 ^ (56 - 8 * k)))]) st21)) (qa rfl (n0 (plG [] (bldMx 5 byteC ((tailL (padZ b k0) (8 * b.length) k) ++ [(UInt8.ofNat (8 * b.length / 2 ^ (56 - 8 * k)))]) st21) (qm rfl (qq rfl (RD.subI rfl rfl (by omega) (by omega)) (qa rfl (n0 ?_)))))))
   have he26 : ((tailL (padZ b k0) (8 * b.length) k) ++ [(UInt8.ofNat (8 * b.length / 2 ^ (56 - 8 * k)))]) = (tailL (padZ b k0) (8 * b.length) (k + 1)) := rfl
   have he27 : ((7 - (k : Int)) - 1) = (7 - ((k + 1) : Int)) := (by omega)
   exact pn_againS ((k + 1), st21) ⟨(by omega), (by rw [← he26]; exact hbo22), (by rw [← he26]; exact hX23)⟩ (by dsimp only; omega) ⟨rfl, (congrArg (fun l => some (bldVx l st21)) he26), (congrArg (fun z => some (Value.int .i64 z)) he27), trivial⟩ (fun a => by (try simp only [← he26]); simp -failIfUnchanged <;> omega)
  ·refine xt (sq (pl (qm rfl (qa rfl (n0 (rt ?_))))))
   have he28 : (tailL (padZ b k0) (8 * b.length) k) = (b ++ shaTail b.length) := (by rw [show k = 8 by omega]; exact pad_eq b hz0)
   exact dS (bldMx 5 byteC (tailL (padZ b k0) (8 * b.length) k) st5) rfl rfl ⟨st5, (by rw [← he28]; exact hbost5), (by rw [← he28]; rfl), (by rw [← he28])⟩ hXst5
set_option maxHeartbeats 4000000 in
theorem c_turn (sv : Value) (s : S8) (xv : Value) (x : List UInt8) (kv : Value) (HX : Mem) (w : World) (hbs : Rdx 1 (wdC) HX sv (S8.l s)) (hbx : Rdb HX xv x) (h64 : x.length = 64) (hbk : Rdx 1 (wdC) HX kv shaK) (hH : Hp HX w) : Calls Tryz.prog 143 #[sv, xv, kv] w (Ret w [] fun v H1 => ∃ st, BldOk 1 (wdC) (S8.l (shaMix s x)) st ∧ v = bldVx (S8.l (shaMix s x)) st ∧ H1 = bldMx 73 (wdC) (S8.l (shaMix s x)) st) := by
 have hsl : (S8.l s).length = 8 := rfl
 refine fn_enter (args := [_, _, _]) func143 rfl ntmps143 rfl hH (sq (pl (qa rfl (n0 (sq (pl (TE_makeSliceX wdC 64 (0 : UInt32) wdC_len wdC_one rfl underlying161 sizeOf73 zeroValue73 (by kernel_rfl) rfl elWd rfl rfl rfl rfl rfl rfl trivial rfl fun b23 hb23 => ?_)))))))
 have hbo2 : BldOk 1 (wdC) (List.replicate 64 (0 : UInt32)) (some (b23, 64, [])) := mkBld wdC_len 64 (by decide)
 have hR3 := hbo2.rdx (u := 73) wdC_len
 refine TE_sp ((bldMx 73 (wdC) (List.replicate 64 (0 : UInt32)) (some (b23, 64, []))) ++ HX) (fun a => Nat.le_refl _) (tsp ((bldMx 73 (wdC) (List.replicate 64 (0 : UInt32)) (some (b23, 64, []))) ++ HX) (qa rfl (n0 (sq (sq (pl (qa rfl (n0 (pn_block ?_)))))))))
 refine pn_sp ((bldMx 73 (wdC) (wsL x 0) (some (b23, 64, []))) ++ HX) (fun a => Nat.le_refl _) (lpS (σ := Nat × SnkS) (fun q => [(0, sv), (1, xv), (2, kv), (7, bldVx (wsL x q.1) q.2), (8, .int .i64 (q.1 : Int))]) (fun q => ((bldMx 73 (wdC) (wsL x q.1) q.2) ++ HX)) (fun q => (q.1 ≤ 16) ∧ (BldOk 1 (wdC) (wsL x q.1) q.2) ∧ (∀ e ∈ bldMx 73 (wdC) (wsL x q.1) q.2, w.heap.size ≤ e.1 ∨ e.1 ∈ [])) (fun q => 16 - q.1) (0, (some (b23, 64, []))) ⟨(by omega), (show BldOk 1 (wdC) (wsL x 0) (some (b23, 64, [])) from hbo2), (mkOwn hb23)⟩ ⟨rfl, rfl, rfl, rfl, rfl, trivial⟩ ?_)
 rintro ⟨i, st7⟩ ⟨hi, hbost7, hXst7⟩
 dsimp only at hi hbost7 hXst7 ⊢
 have hRst7 := hbost7.rdx (u := 73) wdC_len
 have hwl := wsL_len x (i := i) (by omega)
 refine sq (sq (pl (qm rfl (qq rfl (RD.lss rfl rfl) (n0 (pn_condD rfl (fun hc4 => ?_) (fun hc4 => ?_)))))))
 ·refine sk (sq (pn_block (dG [6, 7, 14, 15, 23, 24, 32, 33] (bldMx 73 (wdC) (wsL x i) st7) HX (qm rfl (qm rfl (qm rfl (qm rfl (qq rfl (RD.mulI rfl rfl (by omega) (by omega)) (qq rfl (RD.idxB (i := (4 * i)) runUnderlying32 sizeOf5 rfl hbx rfl (by omega) (by omega)) ?_)))))))))
  refine qq rfl (RD.ldB (i := (4 * i)) isAgg5 rfl hbx (gt_some (by omega)) sb) (qq rfl (RD.widW (c := (gt x (4 * i))) runUnderlying5 runUnderlying73 rfl) (qq rfl (RD.mulW (a := ((gt x (4 * i))).toUInt32) (b := (16777216 : UInt32)) rfl rfl) (qm rfl (qm rfl (qq rfl (RD.mulI rfl rfl (by omega) (by omega)) (qq rfl (RD.addI rfl rfl (by omega) (by omega)) (qq rfl (RD.idxB (i := ((4 * i) + 1)) runUnderlying32 sizeOf5 rfl hbx rfl (by omega) (by omega)) (qq rfl (RD.ldB (i := ((4 * i) + 1)) isAgg5 rfl hbx (gt_some (by omega)) sb) (qq rfl (RD.widW (c := (gt x ((4 * i) + 1))) runUnderlying5 runUnderlying73 rfl) ?_)))))))))
  refine qq rfl (RD.mulW (a := ((gt x ((4 * i) + 1))).toUInt32) (b := (65536 : UInt32)) rfl rfl) (qq rfl (RD.addW (a := (((gt x (4 * i))).toUInt32 * (16777216 : UInt32))) (b := (((gt x ((4 * i) + 1))).toUInt32 * (65536 : UInt32))) rfl rfl) (qm rfl (qm rfl (qq rfl (RD.mulI rfl rfl (by omega) (by omega)) (qq rfl (RD.addI rfl rfl (by omega) (by omega)) (qq rfl (RD.idxB (i := ((4 * i) + 2)) runUnderlying32 sizeOf5 rfl hbx rfl (by omega) (by omega)) (qq rfl (RD.ldB (i := ((4 * i) + 2)) isAgg5 rfl hbx (gt_some (by omega)) sb) (qq rfl (RD.widW (c := (gt x ((4 * i) + 2))) runUnderlying5 runUnderlying73 rfl) (qq rfl (RD.mulW (a := ((gt x ((4 * i) + 2))).toUInt32) (b := (256 : UInt32)) rfl rfl) ?_)))))))))
  refine qq rfl (RD.addW (a := ((((gt x (4 * i))).toUInt32 * (16777216 : UInt32)) + (((gt x ((4 * i) + 1))).toUInt32 * (65536 : UInt32)))) (b := (((gt x ((4 * i) + 2))).toUInt32 * (256 : UInt32))) rfl rfl) (qm rfl (qm rfl (qq rfl (RD.mulI rfl rfl (by omega) (by omega)) (qq rfl (RD.addI rfl rfl (by omega) (by omega)) (qq rfl (RD.idxB (i := ((4 * i) + 3)) runUnderlying32 sizeOf5 rfl hbx rfl (by omega) (by omega)) (qq rfl (RD.ldB (i := ((4 * i) + 3)) isAgg5 rfl hbx (gt_some (by omega)) sb) (qq rfl (RD.widW (c := (gt x ((4 * i) + 3))) runUnderlying5 runUnderlying73 rfl) (qq rfl (RD.addW (a := (((((gt x (4 * i))).toUInt32 * (16777216 : UInt32)) + (((gt x ((4 * i) + 1))).toUInt32 * (65536 : UInt32))) + (((gt x ((4 * i) + 2))).toUInt32 * (256 : UInt32)))) (b := ((gt x ((4 * i) + 3))).toUInt32) rfl rfl) (qq rfl (RD.idxR (i := i) (o := (i * 1 + 0)) runUnderlying161 sizeOf73 rfl hRst7 rfl rfl (by omega) (by rfl)) ?_)))))))))
  refine TE_setG (u := 73) (st := st7) (v0 := bldVx (wsL x i) st7) (wsL x i) i 0 (gt (wsL x i) i) ((((((gt x (4 * i))).toUInt32 * (16777216 : UInt32)) + (((gt x ((4 * i) + 1))).toUInt32 * (65536 : UInt32))) + (((gt x ((4 * i) + 2))).toUInt32 * (256 : UInt32))) + ((gt x ((4 * i) + 3))).toUInt32) [] wdC_len wdC_one rfl sizeOf73 trivial (fun a => by simp -failIfUnchanged <;> omega) hbost7 rfl rfl rfl rfl (gt_some (by omega)) rfl (by omega) wd_put hXst7 ?_
  intro hbo5
  have hR6 : Rdx 1 (wdC) (bldMx 73 (wdC) ((wsL x i).set i ((((((gt x (4 * i))).toUInt32 * (16777216 : UInt32)) + (((gt x ((4 * i) + 1))).toUInt32 * (65536 : UInt32))) + (((gt x ((4 * i) + 2))).toUInt32 * (256 : UInt32))) + ((gt x ((4 * i) + 3))).toUInt32)) st7) (bldVx (wsL x i) st7) ((wsL x i).set i ((((((gt x (4 * i))).toUInt32 * (16777216 : UInt32)) + (((gt x ((4 * i) + 1))).toUInt32 * (65536 : UInt32))) + (((gt x ((4 * i) + 2))).toUInt32 * (256 : UInt32))) + ((gt x ((4 * i) + 3))).toUInt32)) := (by rw [show bldVx (wsL x i) st7 = bldVx ((wsL x i).set i ((((((gt x (4 * i))).toUInt32 * (16777216 : UInt32)) + (((gt x ((4 * i) + 1))).toUInt32 * (65536 : UInt32))) + (((gt x ((4 * i) + 2))).toUInt32 * (256 : UInt32))) + ((gt x ((4 * i) + 3))).toUInt32)) st7 from (bvx_set _ _ _ _).symm]; exact hbo5.rdx (u := 73) wdC_len)
  refine tsp (bldMx 73 (wdC) ((wsL x i).set i ((((((gt x (4 * i))).toUInt32 * (16777216 : UInt32)) + (((gt x ((4 * i) + 1))).toUInt32 * (65536 : UInt32))) + (((gt x ((4 * i) + 2))).toUInt32 * (256 : UInt32))) + ((gt x ((4 * i) + 3))).toUInt32)) st7) (TE_nil (plG [] ((bldMx 73 (wdC) ((wsL x i).set i ((((((gt x (4 * i))).toUInt32 * (16777216 : UInt32)) + (((gt x ((4 * i) + 1))).toUInt32 * (65536 : UInt32))) + (((gt x ((4 * i) + 2))).toUInt32 * (256 : UInt32))) + ((gt x ((4 * i) + 3))).toUInt32)) st7) ++ HX) (qm rfl (qq rfl (RD.addI rfl rfl (by omega) (by omega)) (qa rfl (n0 ?_))))))
  have he7 : ((wsL x i).set i ((((((gt x (4 * i))).toUInt32 * (16777216 : UInt32)) + (((gt x ((4 * i) + 1))).toUInt32 * (65536 : UInt32))) + (((gt x ((4 * i) + 2))).toUInt32 * (256 : UInt32))) + ((gt x ((4 * i) + 3))).toUInt32)) = (wsL x (i + 1)) := (wsL_next x (by omega) (by rw [shaNext, if_pos (by omega)]; exact be4_doc x i))
  exact pn_againS ((i + 1), st7) ⟨(by omega), (by rw [← he7]; exact hbo5), (by rw [← he7]; exact (bmx_own (l := (wsL x i)) (Q := fun k => w.heap.size ≤ k ∨ k ∈ []) hXst7))⟩ (by dsimp only; omega) ⟨rfl, rfl, rfl, ((congrArg some (bvx_set _ _ _ _).symm).trans (congrArg (fun l => some (bldVx l st7)) he7)), rfl, trivial⟩ (fun a => by (try simp only [← he7]); simp -failIfUnchanged <;> omega)
 ·refine xt (sq (sq (pl (qa rfl (n0 (pn_block ?_))))))
  obtain rfl : i = 16 := (by omega)
  refine lpS (σ := Nat × SnkS) (fun q => [(0, sv), (2, kv), (7, bldVx (wsL x q.1) q.2), (9, .int .i64 (q.1 : Int))]) (fun q => ((bldMx 73 (wdC) (wsL x q.1) q.2) ++ HX)) (fun q => (q.1 ≤ 64) ∧ (16 ≤ q.1) ∧ (BldOk 1 (wdC) (wsL x q.1) q.2) ∧ (∀ e ∈ bldMx 73 (wdC) (wsL x q.1) q.2, w.heap.size ≤ e.1 ∨ e.1 ∈ [])) (fun q => 64 - q.1) (16, st7) ⟨(by omega), (by omega), hbost7, hXst7⟩ ⟨rfl, rfl, rfl, rfl, trivial⟩ ?_
  rintro ⟨i1, st8⟩ ⟨hi1, h16, hbost8, hXst8⟩
  dsimp only at hi1 h16 hbost8 hXst8 ⊢
  have hRst8 := hbost8.rdx (u := 73) wdC_len
  have hwl := wsL_len x (i := i1) (by omega)
  refine sq (sq (pl (qm rfl (qq rfl (RD.lss rfl rfl) (n0 (pn_condD rfl (fun hc8 => ?_) (fun hc8 => ?_)))))))
  ·refine sk (sq (pn_block (sq (dG [4, 10, 17] [] ((bldMx 73 (wdC) (wsL x i1) st8) ++ HX) (qm rfl (qm rfl (qq rfl (RD.subI rfl rfl (by omega) (by omega)) (qq rfl (RD.idxR (i := (i1 - 15)) (o := ((i1 - 15) * 1 + 0)) runUnderlying161 sizeOf73 rfl hRst8 rfl (by omega) (by omega) (by rfl)) (qq rfl (RD.ldR (i := (i1 - 15)) (j := 0) (u := .int .u32 ((gt (wsL x i1) (i1 - 15)).toNat : Int)) isAgg73 rfl hRst8 (gt_some (by omega)) (by rfl) rfl sb) ?_)))))))))
   refine cG rfl call183 (fun w hw => c_right (gt (wsL x i1) (i1 - 15)) 7 w (by decide) (by decide) hw.s) ?_
   rintro v9 H10 ⟨rfl, rfl⟩ -
   refine qm rfl (qm rfl (qq rfl (RD.subI rfl rfl (by omega) (by omega)) (qq rfl (RD.idxR (i := (i1 - 15)) (o := ((i1 - 15) * 1 + 0)) runUnderlying161 sizeOf73 rfl hRst8 rfl (by omega) (by omega) (by rfl)) (qq rfl (RD.ldR (i := (i1 - 15)) (j := 0) (u := .int .u32 ((gt (wsL x i1) (i1 - 15)).toNat : Int)) isAgg73 rfl hRst8 (gt_some (by omega)) (by rfl) rfl sb) (cG rfl call183 (fun w hw => c_right (gt (wsL x i1) (i1 - 15)) 18 w (by decide) (by decide) hw.s) ?_)))))
   rintro v11 H12 ⟨rfl, rfl⟩ -
   refine qq rfl (RD.xorW (a := (rotr (gt (wsL x i1) (i1 - 15)) 7)) (b := (rotr (gt (wsL x i1) (i1 - 15)) 18)) rfl rfl) (qm rfl (qm rfl (qq rfl (RD.subI rfl rfl (by omega) (by omega)) (qq rfl (RD.idxR (i := (i1 - 15)) (o := ((i1 - 15) * 1 + 0)) runUnderlying161 sizeOf73 rfl hRst8 rfl (by omega) (by omega) (by rfl)) (qq rfl (RD.ldR (i := (i1 - 15)) (j := 0) (u := .int .u32 ((gt (wsL x i1) (i1 - 15)).toNat : Int)) isAgg73 rfl hRst8 (gt_some (by omega)) (by rfl) rfl sb) (qq rfl (RD.shrW (a := (gt (wsL x i1) (i1 - 15))) (n := 3) rfl rfl (by decide)) (qq rfl (RD.xorW (a := ((rotr (gt (wsL x i1) (i1 - 15)) 7) ^^^ (rotr (gt (wsL x i1) (i1 - 15)) 18))) (b := ((gt (wsL x i1) (i1 - 15)) >>> UInt32.ofNat 3)) rfl rfl) (qa rfl (TE_nil ?_)))))))))
   refine sq (dG [4, 10, 17] [] ((bldMx 73 (wdC) (wsL x i1) st8) ++ HX) (qm rfl (qm rfl (qq rfl (RD.subI rfl rfl (by omega) (by omega)) (qq rfl (RD.idxR (i := (i1 - 2)) (o := ((i1 - 2) * 1 + 0)) runUnderlying161 sizeOf73 rfl hRst8 rfl (by omega) (by omega) (by rfl)) (qq rfl (RD.ldR (i := (i1 - 2)) (j := 0) (u := .int .u32 ((gt (wsL x i1) (i1 - 2)).toNat : Int)) isAgg73 rfl hRst8 (gt_some (by omega)) (by rfl) rfl sb) (cG rfl call183 (fun w hw => c_right (gt (wsL x i1) (i1 - 2)) 17 w (by decide) (by decide) hw.s) ?_)))))))
   rintro v13 H14 ⟨rfl, rfl⟩ -
   refine qm rfl (qm rfl (qq rfl (RD.subI rfl rfl (by omega) (by omega)) (qq rfl (RD.idxR (i := (i1 - 2)) (o := ((i1 - 2) * 1 + 0)) runUnderlying161 sizeOf73 rfl hRst8 rfl (by omega) (by omega) (by rfl)) (qq rfl (RD.ldR (i := (i1 - 2)) (j := 0) (u := .int .u32 ((gt (wsL x i1) (i1 - 2)).toNat : Int)) isAgg73 rfl hRst8 (gt_some (by omega)) (by rfl) rfl sb) (cG rfl call183 (fun w hw => c_right (gt (wsL x i1) (i1 - 2)) 19 w (by decide) (by decide) hw.s) ?_)))))
   rintro v15 H16 ⟨rfl, rfl⟩ -
   refine qq rfl (RD.xorW (a := (rotr (gt (wsL x i1) (i1 - 2)) 17)) (b := (rotr (gt (wsL x i1) (i1 - 2)) 19)) rfl rfl) (qm rfl (qm rfl (qq rfl (RD.subI rfl rfl (by omega) (by omega)) (qq rfl (RD.idxR (i := (i1 - 2)) (o := ((i1 - 2) * 1 + 0)) runUnderlying161 sizeOf73 rfl hRst8 rfl (by omega) (by omega) (by rfl)) (qq rfl (RD.ldR (i := (i1 - 2)) (j := 0) (u := .int .u32 ((gt (wsL x i1) (i1 - 2)).toNat : Int)) isAgg73 rfl hRst8 (gt_some (by omega)) (by rfl) rfl sb) (qq rfl (RD.shrW (a := (gt (wsL x i1) (i1 - 2))) (n := 10) rfl rfl (by decide)) (qq rfl (RD.xorW (a := ((rotr (gt (wsL x i1) (i1 - 2)) 17) ^^^ (rotr (gt (wsL x i1) (i1 - 2)) 19))) (b := ((gt (wsL x i1) (i1 - 2)) >>> UInt32.ofNat 10)) rfl rfl) (qa rfl (TE_nil ?_)))))))))
   refine pn_drawGG [] (bldMx 73 (wdC) (wsL x i1) st8) HX rfl rfl (by kernel_rfl) (fun a => by simp -failIfUnchanged <;> omega) (qm rfl (qm rfl (qm rfl (qm rfl (qq rfl (RD.subI rfl rfl (by omega) (by omega)) (qq rfl (RD.idxR (i := (i1 - 16)) (o := ((i1 - 16) * 1 + 0)) runUnderlying161 sizeOf73 rfl hRst8 rfl (by omega) (by omega) (by rfl)) (ql rfl (RD.ldR (i := (i1 - 16)) (j := 0) (u := .int .u32 ((gt (wsL x i1) (i1 - 16)).toNat : Int)) isAgg73 rfl hRst8 (gt_some (by omega)) (by rfl) rfl sb) (qm rfl (qq rfl (RD.addW (a := (gt (wsL x i1) (i1 - 16))) (b := (((rotr (gt (wsL x i1) (i1 - 15)) 7) ^^^ (rotr (gt (wsL x i1) (i1 - 15)) 18)) ^^^ ((gt (wsL x i1) (i1 - 15)) >>> UInt32.ofNat 3))) rfl rfl) ?_)))))))))
   refine qm rfl (qm rfl (qq rfl (RD.subI rfl rfl (by omega) (by omega)) (qq rfl (RD.idxR (i := (i1 - 7)) (o := ((i1 - 7) * 1 + 0)) runUnderlying161 sizeOf73 rfl hRst8 rfl (by omega) (by omega) (by rfl)) (ql rfl (RD.ldR (i := (i1 - 7)) (j := 0) (u := .int .u32 ((gt (wsL x i1) (i1 - 7)).toNat : Int)) isAgg73 rfl hRst8 (gt_some (by omega)) (by rfl) rfl sb) (qq rfl (RD.addW (a := ((gt (wsL x i1) (i1 - 16)) + (((rotr (gt (wsL x i1) (i1 - 15)) 7) ^^^ (rotr (gt (wsL x i1) (i1 - 15)) 18)) ^^^ ((gt (wsL x i1) (i1 - 15)) >>> UInt32.ofNat 3)))) (b := (gt (wsL x i1) (i1 - 7))) rfl rfl) (qm rfl (qq rfl (RD.addW (a := (((gt (wsL x i1) (i1 - 16)) + (((rotr (gt (wsL x i1) (i1 - 15)) 7) ^^^ (rotr (gt (wsL x i1) (i1 - 15)) 18)) ^^^ ((gt (wsL x i1) (i1 - 15)) >>> UInt32.ofNat 3))) + (gt (wsL x i1) (i1 - 7)))) (b := (((rotr (gt (wsL x i1) (i1 - 2)) 17) ^^^ (rotr (gt (wsL x i1) (i1 - 2)) 19)) ^^^ ((gt (wsL x i1) (i1 - 2)) >>> UInt32.ofNat 10))) rfl rfl) (qq rfl (RD.idxR (i := i1) (o := (i1 * 1 + 0)) runUnderlying161 sizeOf73 rfl hRst8 rfl rfl (by omega) (by rfl)) (TE_setG (u := 73) (st := st8) (v0 := bldVx (wsL x i1) st8) (wsL x i1) i1 0 (gt (wsL x i1) i1) ((((gt (wsL x i1) (i1 - 16)) + (((rotr (gt (wsL x i1) (i1 - 15)) 7) ^^^ (rotr (gt (wsL x i1) (i1 - 15)) 18)) ^^^ ((gt (wsL x i1) (i1 - 15)) >>> UInt32.ofNat 3))) + (gt (wsL x i1) (i1 - 7))) + (((rotr (gt (wsL x i1) (i1 - 2)) 17) ^^^ (rotr (gt (wsL x i1) (i1 - 2)) 19)) ^^^ ((gt (wsL x i1) (i1 - 2)) >>> UInt32.ofNat 10))) [] wdC_len wdC_one rfl sizeOf73 trivial (fun a => by simp -failIfUnchanged <;> omega) hbost8 rfl rfl rfl rfl (gt_some (by omega)) rfl (by omega) wd_put hXst8 ?_)))))))))
   intro hbo17
   have hR18 : Rdx 1 (wdC) (bldMx 73 (wdC) ((wsL x i1).set i1 ((((gt (wsL x i1) (i1 - 16)) + (((rotr (gt (wsL x i1) (i1 - 15)) 7) ^^^ (rotr (gt (wsL x i1) (i1 - 15)) 18)) ^^^ ((gt (wsL x i1) (i1 - 15)) >>> UInt32.ofNat 3))) + (gt (wsL x i1) (i1 - 7))) + (((rotr (gt (wsL x i1) (i1 - 2)) 17) ^^^ (rotr (gt (wsL x i1) (i1 - 2)) 19)) ^^^ ((gt (wsL x i1) (i1 - 2)) >>> UInt32.ofNat 10)))) st8) (bldVx (wsL x i1) st8) ((wsL x i1).set i1 ((((gt (wsL x i1) (i1 - 16)) + (((rotr (gt (wsL x i1) (i1 - 15)) 7) ^^^ (rotr (gt (wsL x i1) (i1 - 15)) 18)) ^^^ ((gt (wsL x i1) (i1 - 15)) >>> UInt32.ofNat 3))) + (gt (wsL x i1) (i1 - 7))) + (((rotr (gt (wsL x i1) (i1 - 2)) 17) ^^^ (rotr (gt (wsL x i1) (i1 - 2)) 19)) ^^^ ((gt (wsL x i1) (i1 - 2)) >>> UInt32.ofNat 10)))) := (by rw [show bldVx (wsL x i1) st8 = bldVx ((wsL x i1).set i1 ((((gt (wsL x i1) (i1 - 16)) + (((rotr (gt (wsL x i1) (i1 - 15)) 7) ^^^ (rotr (gt (wsL x i1) (i1 - 15)) 18)) ^^^ ((gt (wsL x i1) (i1 - 15)) >>> UInt32.ofNat 3))) + (gt (wsL x i1) (i1 - 7))) + (((rotr (gt (wsL x i1) (i1 - 2)) 17) ^^^ (rotr (gt (wsL x i1) (i1 - 2)) 19)) ^^^ ((gt (wsL x i1) (i1 - 2)) >>> UInt32.ofNat 10)))) st8 from (bvx_set _ _ _ _).symm]; exact hbo17.rdx (u := 73) wdC_len)
   refine tsp (bldMx 73 (wdC) ((wsL x i1).set i1 ((((gt (wsL x i1) (i1 - 16)) + (((rotr (gt (wsL x i1) (i1 - 15)) 7) ^^^ (rotr (gt (wsL x i1) (i1 - 15)) 18)) ^^^ ((gt (wsL x i1) (i1 - 15)) >>> UInt32.ofNat 3))) + (gt (wsL x i1) (i1 - 7))) + (((rotr (gt (wsL x i1) (i1 - 2)) 17) ^^^ (rotr (gt (wsL x i1) (i1 - 2)) 19)) ^^^ ((gt (wsL x i1) (i1 - 2)) >>> UInt32.ofNat 10)))) st8) (TE_nil (plG [] ((bldMx 73 (wdC) ((wsL x i1).set i1 ((((gt (wsL x i1) (i1 - 16)) + (((rotr (gt (wsL x i1) (i1 - 15)) 7) ^^^ (rotr (gt (wsL x i1) (i1 - 15)) 18)) ^^^ ((gt (wsL x i1) (i1 - 15)) >>> UInt32.ofNat 3))) + (gt (wsL x i1) (i1 - 7))) + (((rotr (gt (wsL x i1) (i1 - 2)) 17) ^^^ (rotr (gt (wsL x i1) (i1 - 2)) 19)) ^^^ ((gt (wsL x i1) (i1 - 2)) >>> UInt32.ofNat 10)))) st8) ++ HX) (qm rfl (qq rfl (RD.addI rfl rfl (by omega) (by omega)) (qa rfl (n0 ?_))))))
   have he19 : ((wsL x i1).set i1 ((((gt (wsL x i1) (i1 - 16)) + (((rotr (gt (wsL x i1) (i1 - 15)) 7) ^^^ (rotr (gt (wsL x i1) (i1 - 15)) 18)) ^^^ ((gt (wsL x i1) (i1 - 15)) >>> UInt32.ofNat 3))) + (gt (wsL x i1) (i1 - 7))) + (((rotr (gt (wsL x i1) (i1 - 2)) 17) ^^^ (rotr (gt (wsL x i1) (i1 - 2)) 19)) ^^^ ((gt (wsL x i1) (i1 - 2)) >>> UInt32.ofNat 10)))) = (wsL x (i1 + 1)) := (wsL_next x (by omega) (by rw [shaNext, if_neg (by omega)]; simp only [wsL_at x (show i1 - 15 < i1 by omega), wsL_at x (show i1 - 16 < i1 by omega), wsL_at x (show i1 - 7 < i1 by omega), wsL_at x (show i1 - 2 < i1 by omega), shaLow, shaHigh]))
   exact pn_againS ((i1 + 1), st8) ⟨(by omega), (by omega), (by rw [← he19]; exact hbo17), (by rw [← he19]; exact (bmx_own (l := (wsL x i1)) (Q := fun k => w.heap.size ≤ k ∨ k ∈ []) hXst8))⟩ (by dsimp only; omega) ⟨rfl, rfl, ((congrArg some (bvx_set _ _ _ _).symm).trans (congrArg (fun l => some (bldVx l st8)) he19)), rfl, trivial⟩ (fun a => by (try simp only [← he19]); simp -failIfUnchanged <;> omega)
  ·refine xt (sq (dG [2, 5, 8, 11] [] ((bldMx 73 (wdC) (wsL x i1) st8) ++ HX) (qm rfl (qq rfl (RD.idxR (i := 0) (o := (0 * 1 + 0)) runUnderlying161 sizeOf73 rfl hbs rfl rfl (by omega) (by rfl)) (qq rfl (RD.ldR (i := 0) (j := 0) (u := .int .u32 ((gt (S8.l s) 0).toNat : Int)) isAgg73 rfl hbs (gt_some (by omega)) (by rfl) rfl sb) (qm rfl (qq rfl (RD.idxR (i := 1) (o := (1 * 1 + 0)) runUnderlying161 sizeOf73 rfl hbs rfl rfl (by omega) (by rfl)) (qq rfl (RD.ldR (i := 1) (j := 0) (u := .int .u32 ((gt (S8.l s) 1).toNat : Int)) isAgg73 rfl hbs (gt_some (by omega)) (by rfl) rfl sb) (qm rfl ?_)))))))))
   refine qq rfl (RD.idxR (i := 2) (o := (2 * 1 + 0)) runUnderlying161 sizeOf73 rfl hbs rfl rfl (by omega) (by rfl)) (qq rfl (RD.ldR (i := 2) (j := 0) (u := .int .u32 ((gt (S8.l s) 2).toNat : Int)) isAgg73 rfl hbs (gt_some (by omega)) (by rfl) rfl sb) (qm rfl (qq rfl (RD.idxR (i := 3) (o := (3 * 1 + 0)) runUnderlying161 sizeOf73 rfl hbs rfl rfl (by omega) (by rfl)) (qq rfl (RD.ldR (i := 3) (j := 0) (u := .int .u32 ((gt (S8.l s) 3).toNat : Int)) isAgg73 rfl hbs (gt_some (by omega)) (by rfl) rfl sb) (qa rfl (qa rfl (qa rfl (qa rfl (TE_nil ?_)))))))))
   refine sq (dG [2, 5, 8, 11] [] ((bldMx 73 (wdC) (wsL x i1) st8) ++ HX) (qm rfl (qq rfl (RD.idxR (i := 4) (o := (4 * 1 + 0)) runUnderlying161 sizeOf73 rfl hbs rfl rfl (by omega) (by rfl)) (qq rfl (RD.ldR (i := 4) (j := 0) (u := .int .u32 ((gt (S8.l s) 4).toNat : Int)) isAgg73 rfl hbs (gt_some (by omega)) (by rfl) rfl sb) (qm rfl (qq rfl (RD.idxR (i := 5) (o := (5 * 1 + 0)) runUnderlying161 sizeOf73 rfl hbs rfl rfl (by omega) (by rfl)) (qq rfl (RD.ldR (i := 5) (j := 0) (u := .int .u32 ((gt (S8.l s) 5).toNat : Int)) isAgg73 rfl hbs (gt_some (by omega)) (by rfl) rfl sb) (qm rfl (qq rfl (RD.idxR (i := 6) (o := (6 * 1 + 0)) runUnderlying161 sizeOf73 rfl hbs rfl rfl (by omega) (by rfl)) ?_)))))))))
   refine qq rfl (RD.ldR (i := 6) (j := 0) (u := .int .u32 ((gt (S8.l s) 6).toNat : Int)) isAgg73 rfl hbs (gt_some (by omega)) (by rfl) rfl sb) (qm rfl (qq rfl (RD.idxR (i := 7) (o := (7 * 1 + 0)) runUnderlying161 sizeOf73 rfl hbs rfl rfl (by omega) (by rfl)) (qq rfl (RD.ldR (i := 7) (j := 0) (u := .int .u32 ((gt (S8.l s) 7).toNat : Int)) isAgg73 rfl hbs (gt_some (by omega)) (by rfl) rfl sb) (qa rfl (qa rfl (qa rfl (qa rfl (TE_nil (sq ?_)))))))))
   refine sq (plG [] ((bldMx 73 (wdC) (wsL x i1) st8) ++ HX) (qa rfl (n0 (pn_block ?_))))
   obtain rfl : i1 = 64 := (by omega)
   refine lpS (σ := Nat × S8) (fun q => [(0, sv), (2, kv), (7, bldVx (wsL x 64) st8), (12, .int .u32 (q.2.a.toNat : Int)), (13, .int .u32 (q.2.b.toNat : Int)), (14, .int .u32 (q.2.c.toNat : Int)), (15, .int .u32 (q.2.d.toNat : Int)), (16, .int .u32 (q.2.e.toNat : Int)), (17, .int .u32 (q.2.f.toNat : Int)), (18, .int .u32 (q.2.g.toNat : Int)), (19, .int .u32 (q.2.h.toNat : Int)), (20, .int .i64 (q.1 : Int))]) (fun q => ((bldMx 73 (wdC) (wsL x 64) st8) ++ HX)) (fun q => (q.1 ≤ 64) ∧ (q.2 = shaRun s x q.1)) (fun q => 64 - q.1) (0, s) ⟨(by omega), rfl⟩ ⟨rfl, rfl, rfl, rfl, rfl, rfl, rfl, rfl, rfl, rfl, rfl, rfl, trivial⟩ ?_
   rintro ⟨i2, tt⟩ ⟨hi2, ht⟩
   dsimp only at hi2 ht ⊢
   have hwl := wsL_len x (i := 64) (by omega)
   have hkl : shaK.length = 64 := rfl
   refine sq (sq (pl (qm rfl (qq rfl (RD.lss rfl rfl) (n0 (pn_condD rfl (fun hc20 => ?_) (fun hc20 => ?_)))))))
   ·refine sk (sq (pn_block (sq (dG [22, 27] [] ((bldMx 73 (wdC) (wsL x 64) st8) ++ HX) (qm rfl (qm rfl (cG rfl call183 (fun w hw => c_right tt.e 6 w (by decide) (by decide) hw.s) ?_)))))))
    rintro v21 H22 ⟨rfl, rfl⟩ -
    refine qm rfl (cG rfl call183 (fun w hw => c_right tt.e 11 w (by decide) (by decide) hw.s) ?_)
    rintro v23 H24 ⟨rfl, rfl⟩ -
    refine qq rfl (RD.xorW (a := (rotr tt.e 6)) (b := (rotr tt.e 11)) rfl rfl) (qm rfl (cG rfl call183 (fun w hw => c_right tt.e 25 w (by decide) (by decide) hw.s) ?_))
    rintro v25 H26 ⟨rfl, rfl⟩ -
    refine qq rfl (RD.xorW (a := ((rotr tt.e 6) ^^^ (rotr tt.e 11))) (b := (rotr tt.e 25)) rfl rfl) (qq rfl (RD.addW (a := tt.h) (b := (((rotr tt.e 6) ^^^ (rotr tt.e 11)) ^^^ (rotr tt.e 25))) rfl rfl) (qm rfl (qm rfl (qq rfl (RD.andW (a := tt.e) (b := tt.f) rfl rfl) (qm rfl (qq rfl (RD.subW (a := (4294967295 : UInt32)) (b := tt.e) rfl rfl) (qm rfl (qq rfl (RD.andW (a := ((4294967295 : UInt32) - tt.e)) (b := tt.g) rfl rfl) (qq rfl (RD.xorW (a := (tt.e &&& tt.f)) (b := (((4294967295 : UInt32) - tt.e) &&& tt.g)) rfl rfl) ?_)))))))))
    refine qq rfl (RD.addW (a := (tt.h + (((rotr tt.e 6) ^^^ (rotr tt.e 11)) ^^^ (rotr tt.e 25)))) (b := ((tt.e &&& tt.f) ^^^ (((4294967295 : UInt32) - tt.e) &&& tt.g))) rfl rfl) (qm rfl (qm rfl (qq rfl (RD.idxR (i := i2) (o := (i2 * 1 + 0)) runUnderlying161 sizeOf73 rfl hbk rfl rfl (by omega) (by rfl)) (qq rfl (RD.ldR (i := i2) (j := 0) (u := .int .u32 ((gt shaK i2).toNat : Int)) isAgg73 rfl hbk (gt_some (by omega)) (by rfl) rfl sb) (qq rfl (RD.addW (a := ((tt.h + (((rotr tt.e 6) ^^^ (rotr tt.e 11)) ^^^ (rotr tt.e 25))) + ((tt.e &&& tt.f) ^^^ (((4294967295 : UInt32) - tt.e) &&& tt.g)))) (b := (gt shaK i2)) rfl rfl) (qm rfl (qm rfl (qq rfl (RD.idxR (i := i2) (o := (i2 * 1 + 0)) runUnderlying161 sizeOf73 rfl hRst8 rfl rfl (by omega) (by rfl)) (qq rfl (RD.ldR (i := i2) (j := 0) (u := .int .u32 ((gt (wsL x 64) i2).toNat : Int)) isAgg73 rfl hRst8 (gt_some (by omega)) (by rfl) rfl sb) ?_)))))))))
    refine qq rfl (RD.addW (a := (((tt.h + (((rotr tt.e 6) ^^^ (rotr tt.e 11)) ^^^ (rotr tt.e 25))) + ((tt.e &&& tt.f) ^^^ (((4294967295 : UInt32) - tt.e) &&& tt.g))) + (gt shaK i2))) (b := (gt (wsL x 64) i2)) rfl rfl) (qa rfl (TE_nil (sq (plG [] ((bldMx 73 (wdC) (wsL x 64) st8) ++ HX) (qm rfl (cG rfl call183 (fun w hw => c_right tt.a 2 w (by decide) (by decide) hw.s) ?_))))))
    rintro v27 H28 ⟨rfl, rfl⟩ -
    refine qm rfl (cG rfl call183 (fun w hw => c_right tt.a 13 w (by decide) (by decide) hw.s) ?_)
    rintro v29 H30 ⟨rfl, rfl⟩ -
    refine qq rfl (RD.xorW (a := (rotr tt.a 2)) (b := (rotr tt.a 13)) rfl rfl) (qm rfl (cG rfl call183 (fun w hw => c_right tt.a 22 w (by decide) (by decide) hw.s) ?_))
    rintro v31 H32 ⟨rfl, rfl⟩ -
    refine qq rfl (RD.xorW (a := ((rotr tt.a 2) ^^^ (rotr tt.a 13))) (b := (rotr tt.a 22)) rfl rfl) (qm rfl (qm rfl (qq rfl (RD.andW (a := tt.a) (b := tt.b) rfl rfl) (qm rfl (qm rfl (qq rfl (RD.andW (a := tt.a) (b := tt.c) rfl rfl) (qq rfl (RD.xorW (a := (tt.a &&& tt.b)) (b := (tt.a &&& tt.c)) rfl rfl) (qm rfl (qm rfl ?_)))))))))
    refine qq rfl (RD.andW (a := tt.b) (b := tt.c) rfl rfl) (qq rfl (RD.xorW (a := ((tt.a &&& tt.b) ^^^ (tt.a &&& tt.c))) (b := (tt.b &&& tt.c)) rfl rfl) (qq rfl (RD.addW (a := (((rotr tt.a 2) ^^^ (rotr tt.a 13)) ^^^ (rotr tt.a 22))) (b := (((tt.a &&& tt.b) ^^^ (tt.a &&& tt.c)) ^^^ (tt.b &&& tt.c))) rfl rfl) (qa rfl (n0 (sq (pl (qm rfl (qa rfl (n0 ?_)))))))))
    refine sq (pl (qm rfl (qa rfl (n0 (sq (pl (qm rfl (qa rfl (n0 ?_)))))))))
    refine sq (pl (qm rfl (qm rfl (qq rfl (RD.addW (a := tt.d) (b := ((((tt.h + (((rotr tt.e 6) ^^^ (rotr tt.e 11)) ^^^ (rotr tt.e 25))) + ((tt.e &&& tt.f) ^^^ (((4294967295 : UInt32) - tt.e) &&& tt.g))) + (gt shaK i2)) + (gt (wsL x 64) i2))) rfl rfl) (qa rfl (n0 (sq (pl (qm rfl ?_)))))))))
    refine qa rfl (n0 (sq (pl (qm rfl (qa rfl (n0 (sq (pl (qm rfl ?_)))))))))
    refine qa rfl (n0 (pl (qm rfl (qm rfl (qq rfl (RD.addW (a := ((((tt.h + (((rotr tt.e 6) ^^^ (rotr tt.e 11)) ^^^ (rotr tt.e 25))) + ((tt.e &&& tt.f) ^^^ (((4294967295 : UInt32) - tt.e) &&& tt.g))) + (gt shaK i2)) + (gt (wsL x 64) i2))) (b := ((((rotr tt.a 2) ^^^ (rotr tt.a 13)) ^^^ (rotr tt.a 22)) + (((tt.a &&& tt.b) ^^^ (tt.a &&& tt.c)) ^^^ (tt.b &&& tt.c)))) rfl rfl) (qa rfl (n0 (pl (qm rfl ?_)))))))))
    refine qq rfl (RD.addI rfl rfl (by omega) (by omega)) (qa rfl (n0 ?_))
    have he33 : ((((((tt.h + (((rotr tt.e 6) ^^^ (rotr tt.e 11)) ^^^ (rotr tt.e 25))) + ((tt.e &&& tt.f) ^^^ (((4294967295 : UInt32) - tt.e) &&& tt.g))) + (gt shaK i2)) + (gt (wsL x 64) i2)) + ((((rotr tt.a 2) ^^^ (rotr tt.a 13)) ^^^ (rotr tt.a 22)) + (((tt.a &&& tt.b) ^^^ (tt.a &&& tt.c)) ^^^ (tt.b &&& tt.c)))).toNat : Int) = ((shaStep tt (gt shaK i2) (gt (wsL x 64) i2)).a.toNat : Int) := (by simp only [shaStep, shaOne, shaTwo, sub_not])
    have he34 : (tt.a.toNat : Int) = ((shaStep tt (gt shaK i2) (gt (wsL x 64) i2)).b.toNat : Int) := (by simp only [shaStep])
    have he35 : (tt.b.toNat : Int) = ((shaStep tt (gt shaK i2) (gt (wsL x 64) i2)).c.toNat : Int) := (by simp only [shaStep])
    have he36 : (tt.c.toNat : Int) = ((shaStep tt (gt shaK i2) (gt (wsL x 64) i2)).d.toNat : Int) := (by simp only [shaStep])
    have he37 : ((tt.d + ((((tt.h + (((rotr tt.e 6) ^^^ (rotr tt.e 11)) ^^^ (rotr tt.e 25))) + ((tt.e &&& tt.f) ^^^ (((4294967295 : UInt32) - tt.e) &&& tt.g))) + (gt shaK i2)) + (gt (wsL x 64) i2))).toNat : Int) = ((shaStep tt (gt shaK i2) (gt (wsL x 64) i2)).e.toNat : Int) := (by simp only [shaStep, shaOne, shaTwo, sub_not])
    have he38 : (tt.e.toNat : Int) = ((shaStep tt (gt shaK i2) (gt (wsL x 64) i2)).f.toNat : Int) := (by simp only [shaStep])
    have he39 : (tt.f.toNat : Int) = ((shaStep tt (gt shaK i2) (gt (wsL x 64) i2)).g.toNat : Int) := (by simp only [shaStep])
    have he40 : (tt.g.toNat : Int) = ((shaStep tt (gt shaK i2) (gt (wsL x 64) i2)).h.toNat : Int) := (by simp only [shaStep])
    exact agS ((i2 + 1), (shaStep tt (gt shaK i2) (gt (wsL x 64) i2))) ⟨(by omega), (run_next ht)⟩ (by dsimp only; omega) ⟨rfl, rfl, rfl, (congrArg (fun z => some (Value.int .u32 z)) he33), (congrArg (fun z => some (Value.int .u32 z)) he34), (congrArg (fun z => some (Value.int .u32 z)) he35), (congrArg (fun z => some (Value.int .u32 z)) he36), (congrArg (fun z => some (Value.int .u32 z)) he37), (congrArg (fun z => some (Value.int .u32 z)) he38), (congrArg (fun z => some (Value.int .u32 z)) he39), (congrArg (fun z => some (Value.int .u32 z)) he40), rfl, trivial⟩
   ·refine xt (sq (dG [2, 7, 12, 17, 22, 27, 32, 37] [] HX (qm rfl (qq rfl (RD.idxR (i := 0) (o := (0 * 1 + 0)) runUnderlying161 sizeOf73 rfl hbs rfl rfl (by omega) (by rfl)) (qq rfl (RD.ldR (i := 0) (j := 0) (u := .int .u32 ((gt (S8.l s) 0).toNat : Int)) isAgg73 rfl hbs (gt_some (by omega)) (by rfl) rfl sb) (qm rfl (qq rfl (RD.addW (a := (gt (S8.l s) 0)) (b := tt.a) rfl rfl) (qm rfl (qq rfl (RD.idxR (i := 1) (o := (1 * 1 + 0)) runUnderlying161 sizeOf73 rfl hbs rfl rfl (by omega) (by rfl)) ?_)))))))))
    refine qq rfl (RD.ldR (i := 1) (j := 0) (u := .int .u32 ((gt (S8.l s) 1).toNat : Int)) isAgg73 rfl hbs (gt_some (by omega)) (by rfl) rfl sb) (qm rfl (qq rfl (RD.addW (a := (gt (S8.l s) 1)) (b := tt.b) rfl rfl) (qm rfl (qq rfl (RD.idxR (i := 2) (o := (2 * 1 + 0)) runUnderlying161 sizeOf73 rfl hbs rfl rfl (by omega) (by rfl)) (qq rfl (RD.ldR (i := 2) (j := 0) (u := .int .u32 ((gt (S8.l s) 2).toNat : Int)) isAgg73 rfl hbs (gt_some (by omega)) (by rfl) rfl sb) (qm rfl (qq rfl (RD.addW (a := (gt (S8.l s) 2)) (b := tt.c) rfl rfl) (qm rfl (qq rfl (RD.idxR (i := 3) (o := (3 * 1 + 0)) runUnderlying161 sizeOf73 rfl hbs rfl rfl (by omega) (by rfl)) ?_)))))))))
    refine qq rfl (RD.ldR (i := 3) (j := 0) (u := .int .u32 ((gt (S8.l s) 3).toNat : Int)) isAgg73 rfl hbs (gt_some (by omega)) (by rfl) rfl sb) (qm rfl (qq rfl (RD.addW (a := (gt (S8.l s) 3)) (b := tt.d) rfl rfl) (qm rfl (qq rfl (RD.idxR (i := 4) (o := (4 * 1 + 0)) runUnderlying161 sizeOf73 rfl hbs rfl rfl (by omega) (by rfl)) (qq rfl (RD.ldR (i := 4) (j := 0) (u := .int .u32 ((gt (S8.l s) 4).toNat : Int)) isAgg73 rfl hbs (gt_some (by omega)) (by rfl) rfl sb) (qm rfl (qq rfl (RD.addW (a := (gt (S8.l s) 4)) (b := tt.e) rfl rfl) (qm rfl (qq rfl (RD.idxR (i := 5) (o := (5 * 1 + 0)) runUnderlying161 sizeOf73 rfl hbs rfl rfl (by omega) (by rfl)) ?_)))))))))
    refine qq rfl (RD.ldR (i := 5) (j := 0) (u := .int .u32 ((gt (S8.l s) 5).toNat : Int)) isAgg73 rfl hbs (gt_some (by omega)) (by rfl) rfl sb) (qm rfl (qq rfl (RD.addW (a := (gt (S8.l s) 5)) (b := tt.f) rfl rfl) (qm rfl (qq rfl (RD.idxR (i := 6) (o := (6 * 1 + 0)) runUnderlying161 sizeOf73 rfl hbs rfl rfl (by omega) (by rfl)) (qq rfl (RD.ldR (i := 6) (j := 0) (u := .int .u32 ((gt (S8.l s) 6).toNat : Int)) isAgg73 rfl hbs (gt_some (by omega)) (by rfl) rfl sb) (qm rfl (qq rfl (RD.addW (a := (gt (S8.l s) 6)) (b := tt.g) rfl rfl) (qm rfl (qq rfl (RD.idxR (i := 7) (o := (7 * 1 + 0)) runUnderlying161 sizeOf73 rfl hbs rfl rfl (by omega) (by rfl)) ?_)))))))))
    refine qq rfl (RD.ldR (i := 7) (j := 0) (u := .int .u32 ((gt (S8.l s) 7).toNat : Int)) isAgg73 rfl hbs (gt_some (by omega)) (by rfl) rfl sb) (qm rfl (qq rfl (RD.addW (a := (gt (S8.l s) 7)) (b := tt.h) rfl rfl) (TE_buildSlice (cells := #[.int .u32 (((gt (S8.l s) 0) + tt.a).toNat : Int), .int .u32 (((gt (S8.l s) 1) + tt.b).toNat : Int), .int .u32 (((gt (S8.l s) 2) + tt.c).toNat : Int), .int .u32 (((gt (S8.l s) 3) + tt.d).toNat : Int), .int .u32 (((gt (S8.l s) 4) + tt.e).toNat : Int), .int .u32 (((gt (S8.l s) 5) + tt.f).toNat : Int), .int .u32 (((gt (S8.l s) 6) + tt.g).toNat : Int), .int .u32 (((gt (S8.l s) 7) + tt.h).toNat : Int)]) rfl runUnderlying161 sizeOf73 zeroValue73 rfl rfl rfl (by kernel_rfl) trivial rfl fun b255 hb255 => (qa rfl (TE_nil (rt (psp ((b255, .cells #[.int .u32 (((gt (S8.l s) 0) + tt.a).toNat : Int), .int .u32 (((gt (S8.l s) 1) + tt.b).toNat : Int), .int .u32 (((gt (S8.l s) 2) + tt.c).toNat : Int), .int .u32 (((gt (S8.l s) 3) + tt.d).toNat : Int), .int .u32 (((gt (S8.l s) 4) + tt.e).toNat : Int), .int .u32 (((gt (S8.l s) 5) + tt.f).toNat : Int), .int .u32 (((gt (S8.l s) 6) + tt.g).toNat : Int), .int .u32 (((gt (S8.l s) 7) + tt.h).toNat : Int)] 73 (0, 0)) :: HX) (pn_sp ((bldMx 73 (wdC) [((gt (S8.l s) 0) + tt.a), ((gt (S8.l s) 1) + tt.b), ((gt (S8.l s) 2) + tt.c), ((gt (S8.l s) 3) + tt.d), ((gt (S8.l s) 4) + tt.e), ((gt (S8.l s) 5) + tt.f), ((gt (S8.l s) 6) + tt.g), ((gt (S8.l s) 7) + tt.h)] (some (b255, 8, []))) ++ HX) (fun a => Nat.le_refl _) ?_))))))))
    have hbo42 : BldOk 1 (wdC) [((gt (S8.l s) 0) + tt.a), ((gt (S8.l s) 1) + tt.b), ((gt (S8.l s) 2) + tt.c), ((gt (S8.l s) 3) + tt.d), ((gt (S8.l s) 4) + tt.e), ((gt (S8.l s) 5) + tt.f), ((gt (S8.l s) 6) + tt.g), ((gt (S8.l s) 7) + tt.h)] (some (b255, 8, [])) := ⟨Nat.le_refl _, by decide, by rw [List.append_nil]; exact cat_len wdC_len _⟩
    have hR43 := hbo42.rdx (u := 73) wdC_len
    have he44 : [((gt (S8.l s) 0) + tt.a), ((gt (S8.l s) 1) + tt.b), ((gt (S8.l s) 2) + tt.c), ((gt (S8.l s) 3) + tt.d), ((gt (S8.l s) 4) + tt.e), ((gt (S8.l s) 5) + tt.f), ((gt (S8.l s) 6) + tt.g), ((gt (S8.l s) 7) + tt.h)] = (S8.l (shaMix s x)) := (by obtain rfl : i2 = 64 := (by omega); rw [shaMix, ← ht]; exact mix_doc s tt)
    exact dS (bldMx 73 (wdC) [((gt (S8.l s) 0) + tt.a), ((gt (S8.l s) 1) + tt.b), ((gt (S8.l s) 2) + tt.c), ((gt (S8.l s) 3) + tt.d), ((gt (S8.l s) 4) + tt.e), ((gt (S8.l s) 5) + tt.f), ((gt (S8.l s) 6) + tt.g), ((gt (S8.l s) 7) + tt.h)] (some (b255, 8, []))) rfl rfl ⟨(some (b255, 8, [])), (by rw [← he44]; exact hbo42), (by rw [← he44]; rfl), (by rw [← he44])⟩ (bldx_all (fun k => w.heap.size ≤ k ∨ k ∈ []) (by rintro b cap tl ⟨⟩; exact .inl hb255))
end Go.Proofs.YtcmnmigcalibdaaGreatDoor
