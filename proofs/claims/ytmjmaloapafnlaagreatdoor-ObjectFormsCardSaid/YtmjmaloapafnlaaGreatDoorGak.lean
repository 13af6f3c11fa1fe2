import Derived.Test.YtmjmaloapafnlaaGreatDoorGaj
import Derived.Test.YtmjmaloapafnlaaGreatDoorSrt
import Derived.ProofKit
import Derived.OpenShut
import Derived.Deep.DeepHandedRow
import Derived.WideKeyArgs
import Derived.Lib.LaidTab
import Derived.SevenTiedAt
import Derived.ChangeSlices
namespace Go.Proofs.YtmjmaloapafnlaaGreatDoor
open Tryz
open Go Go.Mv
set_option maxRecDepth 8000
theorem elByteR : ElI Tryz.prog 5 1 1 (.int .u8 0) := by unfold ElI; kernel_rfl
theorem rem128u (m : Nat) : Value.int .u64 ((m : Int).tmod 128) = .int .u64 ((m % 128 : Nat) : Int) := by
  rw [Int.tmod_eq_emod_of_nonneg (by omega)]; simp
theorem quo128u {m : Nat} (h : m < 18446744073709551616) : Value.int .u64 (IntKind.u64.wrap ((m : Int).tdiv 128)) = .int .u64 ((m / 128 : Nat) : Int) := by
  rw [Int.tdiv_eq_ediv_of_nonneg (by omega), u64_wrap, show ((m : Int) / 128) = ((m / 128 : Nat) : Int) from by simp, Int.emod_eq_of_lt (by omega) (by omega)]
theorem u8_of {n : Nat} (h : n < 256) : Value.int .u8 (IntKind.u8.wrap (n : Int)) = bcell (UInt8.ofNat n) := by
  rw [u8_wrap, Int.emod_eq_of_lt (by omega) (by omega)]; exact bcell_of rfl h
def rsrcM (s : Nat) (v : Value) (HX : Mem) : Mem := (s, .cells #[v] 223 (0, 0)) :: HX
theorem in_rsrc {s n : Nat} {v v' : Value} {HX : Mem} : ∀ e ∈ rsrcM s v HX, e.1 ∈ keys (rsrcM s v' HX) ∨ n ≤ e.1 := fun e he => .inl (show e.1 ∈ keys (rsrcM s v HX) from mem_keys.2 ⟨e, he, rfl⟩)
/-- What the document's reading leaves. -/
def RReads {α : Type} (HX : Mem) (s : Nat) (enc : α → Value) (z : Value) (ys : List UInt8) (d : Dr α) (v : Value) (H1 : Mem) : Prop :=
  (∃ x r v', d = .ok x r ∧ v = .tuple #[enc x, .int .i64 0] ∧ H1 = rsrcM s v' HX ∧ Rdb HX v' r ∧ r.length ≤ ys.length) ∨
  (∃ e v' r, d = .err e ∧ e ≠ 0 ∧ v = .tuple #[z, .int .i64 e] ∧ H1 = rsrcM s v' HX ∧ Rdb HX v' r ∧ r.length ≤ ys.length)
def RReadsB (HX : Mem) (s : Nat) (ys : List UInt8) (d : Dr (List UInt8)) (v : Value) (H1 : Mem) : Prop :=
  (∃ b r v' x H2, d = .ok b r ∧ v = .tuple #[x, .int .i64 0] ∧ RetB 5 x H2 b ∧ H1 = H2 ++ rsrcM s v' HX ∧ Rdb HX v' r ∧ r.length ≤ ys.length) ∨
  (∃ e v' r, d = .err e ∧ e ≠ 0 ∧ v = .tuple #[.slice none 0 0, .int .i64 e] ∧ H1 = rsrcM s v' HX ∧ Rdb HX v' r ∧ r.length ≤ ys.length)
theorem bytes_ext {a b : List UInt8} : (⟨a.toArray⟩ : ByteArray) = ⟨b.toArray⟩ ↔ a = b := by
  constructor
  · intro h; have := congrArg (fun x : ByteArray => x.data.toList) h; simpa using this
  · rintro rfl; rfl
def docM (ys : List UInt8) : Nat := lowOf (ys.take (whereB ys 0)) % 18446744073709551616
theorem nd_short {ys : List UInt8} {most : Nat} (h : whereB ys 0 = 0 ∧ ys.length < 10) : numD most ys = .err 10 := by
  simp only [numD, num_doc ys, if_pos h]
theorem nd_form1 {ys : List UInt8} {most : Nat} (h1 : ¬ (whereB ys 0 = 0 ∧ ys.length < 10)) (h2 : whereB ys 0 = 0 ∨ 10 < whereB ys 0) : numD most ys = .err 11 := by
  simp only [numD, num_doc ys, if_neg h1, if_pos h2]
theorem nd_form2 {ys : List UInt8} {most : Nat} (h1 : ¬ (whereB ys 0 = 0 ∧ ys.length < 10)) (h2 : ¬ (whereB ys 0 = 0 ∨ 10 < whereB ys 0)) (h3 : ¬ lebL (docM ys) = ys.take (whereB ys 0)) : numD most ys = .err 11 := by
  have e : numR ys = .form := by rw [num_doc ys, if_neg h1, if_neg h2]; exact if_neg h3
  simp only [numD, e]
theorem nd_most {ys : List UInt8} {most : Nat} (h1 : ¬ (whereB ys 0 = 0 ∧ ys.length < 10)) (h2 : ¬ (whereB ys 0 = 0 ∨ 10 < whereB ys 0)) (h3 : lebL (docM ys) = ys.take (whereB ys 0)) (h4 : most < docM ys) : numD most ys = .err 12 := by
  have e : numR ys = .ok (docM ys) (ys.drop (whereB ys 0)) := by rw [num_doc ys, if_neg h1, if_neg h2]; exact if_pos h3
  simp only [numD, e, if_pos h4]
theorem nd_ok {ys : List UInt8} {most : Nat} (h1 : ¬ (whereB ys 0 = 0 ∧ ys.length < 10)) (h2 : ¬ (whereB ys 0 = 0 ∨ 10 < whereB ys 0)) (h3 : lebL (docM ys) = ys.take (whereB ys 0)) (h4 : ¬ most < docM ys) : numD most ys = .ok (docM ys) (ys.drop (whereB ys 0)) := by
  have e : numR ys = .ok (docM ys) (ys.drop (whereB ys 0)) := by rw [num_doc ys, if_neg h1, if_neg h2]; exact if_pos h3
  simp only [numD, e, if_neg h4]
theorem where_drop {ys : List UInt8} {i : Nat} {c : UInt8} (h : ys[i]? = some c) (hc : ¬ c.toNat < 128) : whereB (ys.drop i) i = whereB (ys.drop (i + 1)) (i + 1) := by
  obtain ⟨hlt, rfl⟩ := List.getElem?_eq_some_iff.1 h
  rw [List.drop_eq_getElem_cons hlt, whereB, if_neg hc]
theorem where_hit {ys : List UInt8} {i : Nat} {c : UInt8} (h : ys[i]? = some c) (hc : c.toNat < 128) : whereB (ys.drop i) i = i + 1 := by
  obtain ⟨hlt, rfl⟩ := List.getElem?_eq_some_iff.1 h
  rw [List.drop_eq_getElem_cons hlt, whereB, if_pos hc]

theorem c_rNum (n : Nat) (w : World) (hn : n < 18446744073709551616) : Calls Tryz.prog 134 #[.int .u64 (n : Int)] w (Ret w [] fun v H1 => RetB 5 v H1 (lebL n)) := by
 have h10 := lebL_len64 hn
 refine fn_enter (args := [_]) func134 rfl ntmps134 rfl (Hp.nil w) (sq (pl (qa rfl (n0 (sq (pl (qa rfl (n0 (sq ?_)))))))))
 refine pn_block (pn_loop (σ := List UInt8 × Nat × SnkS) (fun x => [(0, .int .u64 (x.2.1 : Int)), (3, bldV x.1 x.2.2)]) (fun x => bldM 5 x.1 x.2.2) (fun x => lebL n = x.1 ++ lebL x.2.1 ∧ x.2.1 < 18446744073709551616 ∧ SnkOk x.1 x.2.2 ∧ ∀ e ∈ bldM 5 x.1 x.2.2, w.heap.size ≤ e.1 ∨ e.1 ∈ []) (fun x => x.2.1) ([], n, none) ⟨rfl, hn, rfl, fun e he => by simp [bldM] at he⟩ ⟨rfl, rfl, trivial⟩ (List.Sublist.refl _) ?_)
 rintro ⟨l, m, st⟩ ⟨hpre, hm, hok, hX⟩; dsimp only at hpre hm hok hX ⊢; have hll : l.length + (lebL m).length ≤ 10 := (by rw [hpre, List.length_append] at h10; exact h10); have hl1 := lebL_pos m
 refine sq (sq (pl (qm rfl (qq rfl (RD.geq rfl rfl) (n0 ?_)))))
 first | refine pn_condD rfl (fun hc0 => ?_) (fun hc0 => ?_) | refine pn_condN rfl (fun hc0 => ?_) (fun hc0 => ?_) | refine pn_cond rfl (fun hc0 => ?_) (fun hc0 => ?_)
 ·refine sk (pn_block (sq (pn_plain [4] rfl (qm rfl (qm rfl (qq rfl (RD.as (RD.rem rfl rfl (by decide)) (rem128u m)) (qq rfl (RD.as (v := .int .u64 ((m % 128 + 128 : Nat) : Int)) (RD.add rfl rfl) (by rw [u64_wrap, Int.emod_eq_of_lt (by omega) (by omega)]; congr 1; omega)) (qq rfl (RD.as (RD.conv runUnderlying120 runUnderlying5 rfl) (u8_of (by omega))) (TE_buildSlice (cells := #[bcell (UInt8.ofNat (m % 128 + 128))]) rfl runUnderlying32 sizeOf5 zeroValue5 rfl rfl rfl (by kernel_rfl) trivial rfl fun bv hbv => ?_)))))))))
  refine TE_appendO (st := st) (l := l) (ys := [UInt8.ofNat (m % 128 + 128)]) [(bv, .cells #[bcell (UInt8.ofNat (m % 128 + 128))] 5 (0, 0))] [] (by simp) rfl rfl trivial rfl underlying32 elByteR rfl rfl rfl hok (BytesIn.blk' (i := 0) (tl := []) rfl rfl rfl) (by simp; omega) hX ?_
  intro st1 hok1 hX1
  refine qa rfl (n0 (pl (qm rfl (qq rfl (RD.as (RD.quo rfl rfl (by decide)) (quo128u hm)) (qa rfl (n0 ?_))))))
  (exact pn_again (l ++ [UInt8.ofNat (m % 128 + 128)], m / 128, st1) ⟨by rw [hpre, lebL_big (n := m) (by omega), List.append_assoc]; rfl, by show m / 128 < 18446744073709551616; omega, hok1, hX1⟩ (by show m / 128 < m; omega) ⟨rfl, rfl, trivial⟩ (.cons _ (by rw [List.append_nil]; exact List.Sublist.refl _)))
 ·refine xt (sq (pn_plain [2] rfl (qm rfl (qm rfl (qq rfl (RD.as (RD.conv runUnderlying120 runUnderlying5 rfl) (u8_of (by omega))) (TE_buildSlice (cells := #[bcell (UInt8.ofNat m)]) rfl runUnderlying32 sizeOf5 zeroValue5 rfl rfl rfl (by kernel_rfl) trivial rfl fun bv hbv => (TE_appendO (st := st) (l := l) (ys := [UInt8.ofNat m]) [(bv, .cells #[bcell (UInt8.ofNat m)] 5 (0, 0))] [] (by simp) rfl rfl trivial rfl underlying32 elByteR rfl rfl rfl hok (BytesIn.blk' (i := 0) (tl := []) rfl rfl rfl) (by simp; omega) hX ?_)))))))
  intro st1 hok1 hX1
  refine qa rfl (n0 (rt ?_))
  rw [lebL_small (n := m) (by omega)] at hpre; rw [hpre]; exact pn_doneF rfl ⟨_, _, rfl, rfl, rfl⟩ (RetB.of_bld hok1) (fun w h => h.sub (.cons _ (by rw [List.append_nil]; exact List.Sublist.refl _))) (where_ hX1)
theorem c_rTwin (HX : Mem) (xv : Value) (ys : List UInt8) (w : World) (hb : BytesIn HX xv ys) (hlen : ys.length ≤ 2199023255552) (hH : Hp HX w) : Calls Tryz.prog 75 #[xv] w (Ret w [] fun v H1 => RetB 5 v H1 ys) := by
 refine fn_enter (args := [_]) func75 rfl ntmps75 rfl hH (sq (pl (qa rfl (n0 (sq (pl (qa rfl (n0 (sq ?_)))))))))
 refine pl (qm rfl (qm rfl (TE_appendO (st := none) (l := []) (ys := ys) [] HX rfl rfl rfl trivial rfl underlying32 elByteR rfl rfl rfl rfl (hb.mono (fun w h => h.left)) (by simp; omega) (fun e he => by simp [bldM] at he) ?_)))
 intro st1 hok1 hX1
 exact qa rfl (n0 (rt (pn_doneF rfl ⟨_, _, rfl, rfl, rfl⟩ (RetB.of_bld hok1) (fun w h => (Hp.right (A := []) h).left) (where_ hX1))))
theorem c_rWhere (HX : Mem) (sv : Value) (ys : List UInt8) (w : World) (hb : Rdb HX sv ys) (hlen : ys.length ≤ 4611686018427387904) (hH : Hp HX w) : Calls Tryz.prog 172 #[sv] w (Ret w [] fun v H1 => v = .int .i64 (whereB ys 0 : Nat) ∧ H1 = []) := by
 refine fn_enter (args := [_]) func172 rfl ntmps172 rfl hH (sq (pl (qa rfl (n0 (sq (sq (pl (qa rfl (n0 ?_)))))))))
 refine pn_block (pn_loop (σ := Nat) (fun i => [(0, sv), (3, .int .i64 (i : Int))]) (fun _ => HX) (fun i => i ≤ ys.length ∧ whereB ys 0 = whereB (ys.drop i) i) (fun i => ys.length - i) 0 ⟨Nat.zero_le _, rfl⟩ ⟨rfl, rfl, trivial⟩ (List.Sublist.refl _) ?_)
 rintro i ⟨hi, hw⟩
 refine sq (sq (pn_plain [2] rfl (qm rfl (qm rfl (qq rfl (RD.lenR runUnderlying32 rfl hb) (qq rfl (RD.lss rfl rfl) (n0 ?_)))))))
 first | refine pn_condD rfl (fun hc0 => ?_) (fun hc0 => ?_) | refine pn_condN rfl (fun hc0 => ?_) (fun hc0 => ?_) | refine pn_cond rfl (fun hc0 => ?_) (fun hc0 => ?_)
 ·refine sk (sq (pn_block (sq (pl (qm rfl ?_)))))
  obtain ⟨c, hic⟩ : ∃ c, ys[i]? = some c := ⟨_, List.getElem?_eq_getElem (by omega)⟩; obtain ⟨bb, off, cap, rfl, hcap, hcell'⟩ := hb.at hic; have hcell : ∀ w, Hp HX w → w.cell? ⟨bb, off + (i : Int).toNat * 1, none⟩ = some (bcell c) := (by rw [Int.toNat_natCast, Nat.mul_one]; exact hcell')
  refine qm rfl (qq rfl (RD.indexAddrS runUnderlying32 sizeOf5 rfl rfl (by omega) (by omega)) (ql rfl (RD.loadC isAgg5 rfl (fun w hw => hcell w hw.left)) (qq rfl (RD.lss rfl rfl) (n0 ?_))))
  first | refine pn_condD rfl (fun hc1 => ?_) (fun hc1 => ?_) | refine pn_condN rfl (fun hc1 => ?_) (fun hc1 => ?_) | refine pn_cond rfl (fun hc1 => ?_) (fun hc1 => ?_)
  ·exact sq (pl (qm rfl (qq rfl (RD.addI rfl rfl (by omega) (by omega)) (qa rfl (n0 (rt (pn_done rfl rfl ⟨by rw [hw, where_hit hic (by omega)]; rfl, rfl⟩ (List.nil_sublist _) (by simp))))))))
  ·refine sk (pl (qm rfl (qq rfl (RD.addI rfl rfl (by omega) (by omega)) (qa rfl (n0 ?_)))))
   (exact pn_again (i + 1) ⟨by omega, by rw [hw]; exact where_drop hic (by omega)⟩ (by show ys.length - (i + 1) < ys.length - i; omega) ⟨rfl, rfl, trivial⟩ (List.Sublist.refl _))
 ·exact xt (sq (pl (qa rfl (n0 (rt (pn_done rfl rfl ⟨by rw [hw, List.drop_eq_nil_of_le (by omega)]; rfl, rfl⟩ (List.nil_sublist _) (by simp)))))))
end Go.Proofs.YtmjmaloapafnlaaGreatDoor

namespace Go.Proofs.YtmjmaloapafnlaaGreatDoor
open Tryz
open Go Go.Mv
set_option maxRecDepth 8000
theorem acc_doc {l r : List UInt8} {c : UInt8} (h : l = c :: r) : Value.int .u64 (IntKind.u64.wrap (IntKind.u64.wrap (128 * ((lowOf r % 18446744073709551616 : Nat) : Int)) + ((c.toNat % 128 : Nat) : Int))) = .int .u64 ((lowOf l % 18446744073709551616 : Nat) : Int) := by
  subst h
  simp only [u64_wrap, lowOf]
  congr 1
  omega
theorem drop_one {ys : List UInt8} {k j : Nat} (hk : k ≤ ys.length) (hj : j < k) : ∃ c, ys[j]? = some c ∧ (ys.take k).drop j = c :: (ys.take k).drop (j + 1) := by
  have hl : j < (ys.take k).length := by rw [List.length_take]; omega
  refine ⟨ys[j]'(by omega), List.getElem?_eq_getElem (by omega), ?_⟩
  rw [List.drop_eq_getElem_cons hl, List.getElem_take]

set_option maxHeartbeats 4000000 in
theorem c_rsNum (HX : Mem) (s most : Nat) (sv : Value) (ys : List UInt8) (w : World) (hb : Rdb HX sv ys) (hlen : ys.length ≤ 2199023255552) (hw : Hp (rsrcM s sv HX) w) : Calls Tryz.prog 141 #[.pointer (some ⟨s, 0, none⟩), .int .u64 (most : Int)] w (Ret w (keys (rsrcM s sv HX)) (RReads HX s (fun n : Nat => .int .u64 (n : Int)) (.int .u64 0) ys (numD most ys))) := by
 obtain ⟨a, c, rfl⟩ := hb.shape
 have hkw := where_le ys 0
 refine fn_enter (args := [_, _]) func141 rfl ntmps141 rfl hw (sq (pl (qa rfl (qa rfl (n0 (sq (pl (qm rfl (qn rfl ?_)))))))))
 refine qq rfl (RD.fieldAddr (o := 0) runUnderlying223 rfl rfl sizeOf32 rfl) (ql rfl (RD.load (i := 0) isAgg32 rfl rfl rfl) (TE_call rfl rfl trivial call172 rfl rfl rfl (fun w hs' => c_rWhere HX _ ys w hb (by omega) (hs'.hp.left.sub (List.sublist_cons_self _ _))) ?_))
 rintro v13 H4 ⟨rfl, rfl⟩ -
 refine qa rfl (n0 (sq (sq (pn_cut (σ := Unit) (fun _ => [(23, .bool (decide (whereB ys 0 = 0 ∧ ys.length < 10))), (6, .int .i64 (whereB ys 0 : Nat)), (0, .pointer (some ⟨s, 0, none⟩)), (1, .int .u64 (most : Int))]) (fun _ => rsrcM s (.slice a ys.length c) HX) (fun _ => True) ?_ ?_))))
 ·refine pn_plain [7] rfl (qm rfl (qq rfl (RD.eql rfl rfl) (qm rfl ?_)))
  (first | refine TE_isT ?_ | refine TE_isF ?_ | refine TE_dec (fun h202 => ?_) (fun h202 => ?_) | refine TE_ndec (fun h202 => ?_) (fun h202 => ?_) | refine TE_bool (fun h202 => ?_) (fun h202 => ?_))
  all_goals (first | (refine TE_s rfl rfl rfl rfl rfl ?_) | (refine TE_gq rfl rfl rfl rfl (RD.move rfl) rfl ?_))
  all_goals (first | (refine TE_s rfl rfl rfl rfl rfl ?_) | (refine TE_gq rfl rfl rfl rfl (RD.nilCheckP rfl) rfl ?_))
  all_goals (first | (refine TE_s rfl rfl rfl rfl rfl ?_) | (refine TE_gq rfl rfl rfl rfl (RD.fieldAddr (o := 0) runUnderlying223 rfl rfl sizeOf32 rfl) rfl ?_))
  all_goals (first | (refine TE_s rfl rfl rfl rfl rfl ?_) | (refine TE_l rfl rfl ⟨_, rfl, rfl⟩ rfl (RD.load (i := 0) isAgg32 rfl rfl rfl) rfl ?_))
  all_goals (first | (refine TE_s rfl rfl rfl rfl rfl ?_) | (refine TE_gq rfl rfl rfl rfl (RD.lenR runUnderlying32 rfl hb) rfl ?_))
  all_goals (first | (refine TE_s rfl rfl rfl rfl rfl ?_) | (refine TE_gq rfl rfl rfl rfl (RD.lss rfl rfl) rfl ?_))
  all_goals (first | (refine TE_q rfl rfl (RD.pickT rfl rfl) rfl ?_) | (refine TE_q rfl rfl (RD.pickF rfl rfl) rfl ?_))
  all_goals refine TE_nil0 ?_
  all_goals ((try dsimp only at *); first | (have hF : (whereB ys 0 = 0 ∧ ys.length < 10) := (by omega); exact pn_give () trivial ⟨by rw [decide_eq_true hF]; rfl, rfl, rfl, rfl, trivial⟩ (fun w h => h)) | (have hF : ¬ (whereB ys 0 = 0 ∧ ys.length < 10) := (by omega); exact pn_give () trivial ⟨by rw [decide_eq_false hF]; rfl, rfl, rfl, rfl, trivial⟩ (fun w h => h)) | (have hF : (whereB ys 0 = 0 ∧ ys.length < 10) ↔ (ys.length : Int) < 10 := (by omega); exact pn_give () trivial ⟨by rw [decide_eq_decide.2 hF]; rfl, rfl, rfl, rfl, trivial⟩ (fun w h => h)))
 rintro - -
 first | refine pn_condD rfl (fun hc0 => ?_) (fun hc0 => ?_) | refine pn_condN rfl (fun hc0 => ?_) (fun hc0 => ?_) | refine pn_cond rfl (fun hc0 => ?_) (fun hc0 => ?_)
 ·exact sq (pl (qa rfl (qa rfl (n0 (rt (pn_doneF rfl ⟨_, _, rfl, rfl, _, _, rfl, rfl, rfl⟩ (.inr ⟨10, _, ys, nd_short hc0, by decide, rfl, rfl, hb, Nat.le_refl _⟩) (fun w h => h) in_rsrc))))))
 ·refine sk (sq (sq (pn_cut (σ := Unit) (fun _ => [(29, .bool (decide (whereB ys 0 = 0 ∨ 10 < whereB ys 0))), (6, .int .i64 (whereB ys 0 : Nat)), (0, .pointer (some ⟨s, 0, none⟩)), (1, .int .u64 (most : Int))]) (fun _ => rsrcM s (.slice a ys.length c) HX) (fun _ => True) ?_ ?_)))
  ·refine pl (qm rfl (qq rfl (RD.eql rfl rfl) (qm rfl ?_)))
   (first | refine TE_isT ?_ | refine TE_isF ?_ | refine TE_dec (fun h402 => ?_) (fun h402 => ?_) | refine TE_ndec (fun h402 => ?_) (fun h402 => ?_) | refine TE_bool (fun h402 => ?_) (fun h402 => ?_))
   all_goals (first | (refine TE_s rfl rfl rfl rfl rfl ?_) | (refine TE_gq rfl rfl rfl rfl (RD.move rfl) rfl ?_))
   all_goals (first | (refine TE_s rfl rfl rfl rfl rfl ?_) | (refine TE_gq rfl rfl rfl rfl (RD.gtr rfl rfl) rfl ?_))
   all_goals (first | (refine TE_q rfl rfl (RD.pickT rfl rfl) rfl ?_) | (refine TE_q rfl rfl (RD.pickF rfl rfl) rfl ?_))
   all_goals refine TE_nil0 ?_
   all_goals ((try dsimp only at *); first | (have hF : (whereB ys 0 = 0 ∨ 10 < whereB ys 0) := (by omega); exact pn_give () trivial ⟨by rw [decide_eq_true hF]; rfl, rfl, rfl, rfl, trivial⟩ (fun w h => h)) | (have hF : ¬ (whereB ys 0 = 0 ∨ 10 < whereB ys 0) := (by omega); exact pn_give () trivial ⟨by rw [decide_eq_false hF]; rfl, rfl, rfl, rfl, trivial⟩ (fun w h => h)) | (have hF : (whereB ys 0 = 0 ∨ 10 < whereB ys 0) ↔ (10 : Int) < (whereB ys 0 : Nat) := (by omega); exact pn_give () trivial ⟨by rw [decide_eq_decide.2 hF]; rfl, rfl, rfl, rfl, trivial⟩ (fun w h => h)))
  rintro - -
  first | refine pn_condD rfl (fun hc1 => ?_) (fun hc1 => ?_) | refine pn_condN rfl (fun hc1 => ?_) (fun hc1 => ?_) | refine pn_cond rfl (fun hc1 => ?_) (fun hc1 => ?_)
  ·exact sq (pl (qa rfl (qa rfl (n0 (rt (pn_doneF rfl ⟨_, _, rfl, rfl, _, _, rfl, rfl, rfl⟩ (.inr ⟨11, _, ys, nd_form1 hc0 hc1, by decide, rfl, rfl, hb, Nat.le_refl _⟩) (fun w h => h) in_rsrc))))))
  ·refine sk (sq (pl (qa rfl (n0 (sq (sq (pl (qm rfl (qq rfl (RD.subI rfl rfl (by omega) (by omega)) ?_)))))))))
   refine qa rfl (n0 (pn_block (pn_loop (σ := Nat) (fun j => [(7, .int .u64 ((lowOf ((ys.take (whereB ys 0)).drop j) % 18446744073709551616 : Nat) : Int)), (8, .int .i64 ((j : Int) - 1)), (6, .int .i64 (whereB ys 0 : Nat)), (0, .pointer (some ⟨s, 0, none⟩)), (1, .int .u64 (most : Int))]) (fun _ => rsrcM s (.slice a ys.length c) HX) (fun j => j ≤ whereB ys 0) (fun j => j) (whereB ys 0) (Nat.le_refl _) ⟨by rw [List.drop_eq_nil_of_le (by rw [List.length_take]; omega)]; rfl, rfl, rfl, rfl, rfl, trivial⟩ (List.Sublist.refl _) ?_)))
   rintro j hj
   refine sq (sq (pl (qm rfl (qq rfl (RD.geq rfl rfl) (n0 ?_)))))
   first | refine pn_condD rfl (fun hc2 => ?_) (fun hc2 => ?_) | refine pn_condN rfl (fun hc2 => ?_) (fun hc2 => ?_) | refine pn_cond rfl (fun hc2 => ?_) (fun hc2 => ?_)
   ·refine sk (sq (pn_block (pn_plain [10] rfl (qm rfl ?_))))
    obtain ⟨i, rfl⟩ : ∃ i, j = i + 1 := ⟨j - 1, by omega⟩; obtain ⟨ch, hic, hdr⟩ := drop_one (ys := ys) (k := whereB ys 0) (j := i) (by omega) (by omega); obtain ⟨bb, off, cap, hsl, hcap, hcell'⟩ := hb.at hic; simp only [Value.slice.injEq] at hsl; obtain ⟨rfl, -, rfl⟩ := hsl; have hji : i = i + 1 - 1 := rfl; have hcell : ∀ w, Hp HX w → w.cell? ⟨bb, off + (((i + 1 : Nat) : Int) - 1).toNat * 1, none⟩ = some (bcell ch) := (by rw [show (((i + 1 : Nat) : Int) - 1).toNat * 1 = i from by omega]; exact hcell')
    refine qq rfl (RD.mul rfl rfl) (qm rfl (qn rfl (qq rfl (RD.fieldAddr (o := 0) runUnderlying223 rfl rfl sizeOf32 rfl) (ql rfl (RD.load (i := 0) isAgg32 rfl rfl rfl) (qm rfl (qq rfl (RD.indexAddrS runUnderlying32 sizeOf5 rfl rfl (by omega) (by omega)) (ql rfl (RD.loadC isAgg5 rfl (fun w hw => hcell w (hw.left.sub (List.sublist_cons_self _ _)))) (qq rfl (RD.as (RD.rem rfl rfl (by decide)) (rem128 ch.toNat)) (qq rfl (RD.as (RD.conv runUnderlying5 runUnderlying120 rfl) (u64_len (by omega))) ?_)))))))))
    refine qq rfl (RD.as (RD.add rfl rfl) (acc_doc hdr)) (qa rfl (n0 (pl (qm rfl (qq rfl (RD.as (v := .int .i64 (((i : Nat) : Int) - 1)) (RD.subI rfl rfl (by omega) (by omega)) (by congr 1; omega)) (qa rfl (n0 ?_)))))))
    (exact pn_again i (by omega) (Nat.lt_succ_self i) ⟨rfl, rfl, rfl, rfl, rfl, trivial⟩ (List.Sublist.refl _))
   ·refine xt (sq (sq (pn_drawT [6, 9] [] [0] [_] HX rfl rfl (by kernel_rfl) (by kernel_rfl) rfl rfl (qm rfl ?_))))
    obtain rfl : j = 0 := (by omega); rw [List.drop_zero, show lowOf (ys.take (whereB ys 0)) % 18446744073709551616 = docM ys from rfl]
    refine TE_call rfl rfl trivial call134 rfl rfl rfl (fun w hs' => c_rNum (docM ys) w (Nat.mod_lt _ (by decide))) ?_
    rintro v49 H1 hr hX1; obtain ⟨bn, capn, tln, rfl, rfl⟩ := retB_some hr (lebL_pos _)
    refine ql rfl (RD.str_of_bytes underlying32 underlying9 underlying5 rfl (BytesIn.blk (i := 0) (tl := tln) rfl)) (qm rfl (qn rfl (qq rfl (RD.fieldAddr (o := 0) runUnderlying223 rfl rfl sizeOf32 rfl) (qq rfl (RD.load (i := 0) isAgg32 rfl rfl rfl) (qm rfl (qq rfl (RD.sliceR (l := 0) (h := whereB ys 0) runUnderlying32 sizeOf5 rfl hb rfl ⟨_, rfl⟩ (Nat.zero_le _) (by omega)) (qq rfl (RD.str_of_bytes underlying32 underlying9 underlying5 rfl (BytesIn.mono (by have := hb.sub (Nat.zero_le (whereB ys 0)) (by omega); rw [List.drop_zero] at this; exact this.bytes) (fun w h => h.sub (List.sublist_cons_self _ _)))) (qq rfl (RD.as (v := .bool (!decide (lebL (docM ys) = ys.take (whereB ys 0)))) (RD.neq_string rfl rfl) (by congr 2; exact decide_eq_decide.2 bytes_ext)) (TE_nil ?_)))))))))
    first | refine pn_condD rfl (fun hc3 => ?_) (fun hc3 => ?_) | refine pn_condN rfl (fun hc3 => ?_) (fun hc3 => ?_) | refine pn_cond rfl (fun hc3 => ?_) (fun hc3 => ?_)
    ·exact sq (pl (qa rfl (qa rfl (n0 (rt (pn_doneF rfl ⟨_, _, rfl, rfl, _, _, rfl, rfl, rfl⟩ (.inr ⟨11, _, ys, nd_form2 hc0 hc1 hc3, by decide, rfl, rfl, hb, Nat.le_refl _⟩) (fun w h => h.sub (List.sublist_cons_self _ _)) in_rsrc))))))
    ·refine sk (sq (sq ?_))
     skip
     refine pl (qm rfl (qm rfl (qq rfl (RD.gtr rfl rfl) (n0 ?_))))
     first | refine pn_condD rfl (fun hc4 => ?_) (fun hc4 => ?_) | refine pn_condN rfl (fun hc4 => ?_) (fun hc4 => ?_) | refine pn_cond rfl (fun hc4 => ?_) (fun hc4 => ?_)
     ·exact sq (pl (qa rfl (qa rfl (n0 (rt (pn_doneF rfl ⟨_, _, rfl, rfl, _, _, rfl, rfl, rfl⟩ (.inr ⟨12, _, ys, nd_most hc0 hc1 hc3 (by omega), by decide, rfl, rfl, hb, Nat.le_refl _⟩) (fun w h => h.sub (List.sublist_cons_self _ _)) in_rsrc))))))
     ·refine sk (sq (pl (qm rfl ?_)))
      obtain ⟨a2, c2, hs2⟩ := (hb.cut (l := whereB ys 0) (by omega)).shape
      refine qm rfl (qn rfl (qq rfl (RD.fieldAddr (o := 0) runUnderlying223 rfl rfl sizeOf32 rfl) (ql rfl (RD.load (i := 1) isAgg32 rfl rfl rfl) (qm rfl (qq rfl (RD.as (RD.sliceR (l := whereB ys 0) (h := ys.length) runUnderlying32 sizeOf5 rfl hb ⟨_, rfl⟩ rfl (by omega) (Nat.le_refl _)) hs2) (qn rfl (qq rfl (RD.fieldAddr (o := 0) runUnderlying223 rfl rfl sizeOf32 rfl) (TE_store (i := 1) rfl sizeOf32 trivial rfl rfl rfl rfl rfl rfl (.inr (by simp [rsrcM])) (n0 ?_)))))))))
      exact sq (pl (qm rfl (qa rfl (qa rfl (n0 (rt (pn_doneF rfl ⟨_, _, rfl, rfl, _, _, rfl, rfl, rfl⟩ (.inl ⟨docM ys, ys.drop (whereB ys 0), _, nd_ok hc0 hc1 hc3 (by omega), rfl, rfl, hs2 ▸ hb.cut (by omega), by simp⟩) (fun w h => h.sub (List.sublist_cons_self _ _)) in_rsrc)))))))
theorem c_rsRaw (HX : Mem) (s n : Nat) (sv : Value) (ys : List UInt8) (w : World) (hb : Rdb HX sv ys) (hlen : ys.length ≤ 2199023255552) (hw : Hp (rsrcM s sv HX) w) : Calls Tryz.prog 139 #[.pointer (some ⟨s, 0, none⟩), .int .i64 (n : Int)] w (Ret w (keys (rsrcM s sv HX)) (RReadsB HX s ys (rawD n ys))) := by
 refine fn_enter (args := [_, _]) func139 rfl ntmps139 rfl hw (sq (pl (qa rfl (qa rfl (n0 (sq (sq (pl (qm rfl ?_)))))))))
 refine qq rfl (RD.as (v := .bool false) (RD.lss rfl rfl) (by rw [decide_eq_false (by omega)])) (n0 (pn_condF rfl (sk (sq (sq (pn_plain [5] rfl (qm rfl (qm rfl (qn rfl ?_)))))))))
 refine qq rfl (RD.fieldAddr (o := 0) runUnderlying223 rfl rfl sizeOf32 rfl) (ql rfl (RD.load (i := 0) isAgg32 rfl rfl rfl) (qq rfl (RD.lenR runUnderlying32 rfl hb) (qq rfl (RD.gtr rfl rfl) (n0 ?_))))
 first | refine pn_condD rfl (fun hc1 => ?_) (fun hc1 => ?_) | refine pn_condN rfl (fun hc1 => ?_) (fun hc1 => ?_) | refine pn_cond rfl (fun hc1 => ?_) (fun hc1 => ?_)
 ·exact sq (pl (qa rfl (qa rfl (n0 (rt (pn_doneF rfl ⟨_, _, rfl, rfl, _, _, rfl, rfl, rfl⟩ (.inr ⟨10, sv, ys, by simp only [rawD]; rw [if_pos (by omega)], by decide, rfl, rfl, hb, Nat.le_refl _⟩) (fun w h => h) in_rsrc))))))
 ·refine sk (sq (pl (qm rfl ?_)))
  have hle : n ≤ ys.length := (by omega); have hb2 := hb.cut hle; obtain ⟨a2, c2, hs2⟩ := hb2.shape; rw [hs2] at hb2
  refine qn rfl (qq rfl (RD.fieldAddr (o := 0) runUnderlying223 rfl rfl sizeOf32 rfl) (ql rfl (RD.load (i := 0) isAgg32 rfl rfl rfl) (qm rfl (qq rfl (RD.sliceR (l := 0) (h := n) runUnderlying32 sizeOf5 rfl hb rfl ⟨_, rfl⟩ (Nat.zero_le _) hle) (TE_call rfl rfl trivial call75 rfl rfl rfl (fun w hs' => c_rTwin HX _ (ys.take n) w (by have := hb.sub (Nat.zero_le n) hle; rw [List.drop_zero] at this; exact this.bytes) (by rw [List.length_take]; omega) (hs'.hp.left.sub (List.sublist_cons_self _ _))) ?_)))))
  rintro v22 H6 hr hX6
  refine qa rfl (n0 (sq (pn_perm (rsrcM s sv HX ++ H6) (fun w h => h.perm List.perm_append_comm) (pl (qm rfl (qm rfl (qn rfl (qq rfl (RD.fieldAddr (o := 0) runUnderlying223 rfl rfl sizeOf32 rfl) (ql rfl (RD.load (i := 0) isAgg32 rfl rfl rfl) ?_)))))))))
  refine qm rfl (qq rfl (RD.as (RD.sliceR (l := n) (h := ys.length) runUnderlying32 sizeOf5 rfl hb ⟨_, rfl⟩ rfl hle (Nat.le_refl _)) hs2) (qn rfl (qq rfl (RD.fieldAddr (o := 0) runUnderlying223 rfl rfl sizeOf32 rfl) (TE_store (i := 0) rfl sizeOf32 trivial rfl rfl rfl rfl rfl rfl (.inr (by simp [rsrcM])) (n0 (sq (pl (qm rfl (qa rfl ?_)))))))))
  exact qa rfl (n0 (rt (pn_doneF rfl ⟨_, _, rfl, rfl, _, _, rfl, rfl, rfl⟩ (.inl ⟨_, _, _, _, H6, by simp only [rawD]; rw [if_neg (by omega)], rfl, hr, rfl, hb2, by simp⟩) (fun w h => Hp.perm (A := rsrcM s _ HX ++ H6) h List.perm_append_comm) (allA (Q := fun k => k ∈ keys (rsrcM s sv HX) ∨ _ ≤ k) (fun e he => .inr (hX6 e he)) in_rsrc))))
set_option maxHeartbeats 2000000 in
theorem c_rsBytes (HX : Mem) (s most : Nat) (sv : Value) (ys : List UInt8) (w : World) (hb : Rdb HX sv ys) (hlen : ys.length ≤ 2199023255552) (hm : most ≤ 9223372036854775807) (hw : Hp (rsrcM s sv HX) w) : Calls Tryz.prog 140 #[.pointer (some ⟨s, 0, none⟩), .int .i64 (most : Int)] w (Ret w (keys (rsrcM s sv HX)) (RReadsB HX s ys (bytesD most ys))) := by
 obtain ⟨a, c, rfl⟩ := hb.shape
 refine fn_enter (args := [_, _]) func140 rfl ntmps140 rfl hw (sq (pl (qa rfl (qa rfl (n0 (sq (pl (qm rfl (qn rfl ?_)))))))))
 refine qq rfl (RD.fieldAddr (o := 0) runUnderlying223 rfl rfl sizeOf32 rfl) (ql rfl (RD.load (i := 0) isAgg32 rfl rfl rfl) (qa rfl (n0 (sq (sq (pl (qm rfl (qq rfl (RD.as (v := .bool false) (RD.lss rfl rfl) (by rw [decide_eq_false (by omega)])) (n0 ?_)))))))))
 refine pn_condF rfl (sk (sq (pn_plain [2] rfl (qm rfl (qm rfl (qq rfl (RD.as (RD.conv runUnderlying3 runUnderlying120 rfl) (u64_len (by omega))) (TE_callT [] (rsrcM s (.slice a ys.length c) HX) rfl rfl rfl trivial call141 rfl rfl rfl (fun e he => .inr (mem_keys.2 ⟨e, he, rfl⟩)) (fun w hs' => c_rsNum HX s most _ ys w hb hlen (hs'.hp.left.right (A := []))) ?_)))))))
 rintro v21 H3 (⟨k, r, v1, hd, rfl, rfl, hb1, hl1⟩ | ⟨e, v1, r, hd, he, rfl, rfl, hb1, hl1⟩) hX1
 ·refine qm rfl (qe rfl (qe rfl (qa rfl (qa rfl (n0 (sq (sq (pl (qm rfl ?_)))))))))
  refine qq rfl (RD.neq rfl rfl) (n0 (pn_condF rfl (sk (sq (pn_plain [2] rfl (qm rfl (qm rfl ?_)))))))
  have hk := (numD_ok hd).2.1
  refine qq rfl (RD.as (v := .int .i64 (k : Int)) (RD.conv runUnderlying120 runUnderlying3 rfl) (by rw [wrap64_id (by omega) (by omega)])) (TE_callT [] (rsrcM s v1 HX) rfl rfl rfl trivial call139 rfl rfl rfl hX1 (fun w hs' => c_rsRaw HX s k v1 r w hb1 (by omega) (hs'.hp.left.right (A := []))) ?_)
  rintro v31 H3 (⟨b, r2, v2, x, H2, hd2, rfl, hr2, rfl, hb2, hl2⟩ | ⟨e, v2, r2, hd2, he, rfl, rfl, hb2, hl2⟩) hX2
  ·refine qm rfl (qe rfl (qe rfl (qa rfl (qa rfl (n0 (sq (sq (pl (qm rfl ?_)))))))))
   refine qq rfl (RD.neq rfl rfl) (n0 (pn_condF rfl (sk (sq (pl (qm rfl (qm rfl (qa rfl (qa rfl ?_)))))))))
   exact n0 (rt (pn_doneF rfl ⟨_, _, rfl, rfl, _, _, rfl, rfl, rfl⟩ (.inl ⟨b, r2, v2, x, H2, by simp only [bytesD, hd, hd2], rfl, hr2, rfl, hb2, by omega⟩) (fun w h => h) (where_ hX2)))
  ·refine qm rfl (qe rfl (qe rfl (qa rfl (qa rfl (n0 (sq (sq (pl (qm rfl ?_)))))))))
   refine qq rfl (RD.as (v := .bool true) (RD.neq rfl rfl) (by rw [decide_eq_false he]; rfl)) (n0 (pn_condT rfl (pl (qm rfl (qm rfl (qn rfl (qq rfl (RD.fieldAddr (o := 0) runUnderlying223 rfl rfl sizeOf32 rfl) (TE_store (i := 0) rfl sizeOf32 trivial rfl rfl rfl rfl rfl rfl (.inr (by simp [rsrcM])) (n0 ?_)))))))))
   exact sq (pl (qm rfl (qm rfl (qa rfl (qa rfl (n0 (rt (pn_doneF rfl ⟨_, _, rfl, rfl, _, _, rfl, rfl, rfl⟩ (.inr ⟨e, _, ys, by simp only [bytesD, hd, hd2], he, rfl, rfl, hb, Nat.le_refl _⟩) (fun w h => h) in_rsrc))))))))
 ·refine qm rfl (qe rfl (qe rfl (qa rfl (qa rfl (n0 (sq (sq (pl (qm rfl ?_)))))))))
  refine qq rfl (RD.as (v := .bool true) (RD.neq rfl rfl) (by rw [decide_eq_false he]; rfl)) (n0 (pn_condT rfl (sq (pl (qm rfl (qa rfl (qa rfl (n0 (rt ?_)))))))))
  exact pn_doneF rfl ⟨_, _, rfl, rfl, _, _, rfl, rfl, rfl⟩ (.inr ⟨e, _, r, by simp only [bytesD, hd], he, rfl, rfl, hb1, hl1⟩) (fun w h => h) in_rsrc
end Go.Proofs.YtmjmaloapafnlaaGreatDoor

namespace Go.Proofs.YtmjmaloapafnlaaGreatDoor
open Go Go.Mv
set_option maxRecDepth 8000
theorem take_zero {l : List Int} {i : Nat} (hi : i < l.length) (h : ∀ y ∈ l.take i, y = 0) (hx : l[i] = 0) : ∀ y ∈ l.take (i + 1), y = 0 := fun y hy => by
  rw [List.take_succ_eq_append_getElem hi] at hy
  rcases List.mem_append.1 hy with hy | hy
  · exact h y hy
  · simp only [List.mem_cons, List.not_mem_nil, or_false] at hy; rw [hy]; exact hx

end Go.Proofs.YtmjmaloapafnlaaGreatDoor

namespace Go.Proofs.YtmjmaloapafnlaaGreatDoor
open Go Go.Mv
set_option maxRecDepth 8000
/-- The dots that were met. -/
def MetOk (ds : List (Int × Int)) (l : List (ME (Int × Int) Int)) : Prop := ∀ k, mget k l = if k ∈ ds then some 1 else none
theorem MetOk.nil : MetOk [] [] := fun k => by simp [mget, mpos]
theorem MetOk.get {ds : List (Int × Int)} {l : List (ME (Int × Int) Int)} (h : MetOk ds l) (k : Int × Int) : (mget k l).getD 0 = if k ∈ ds then 1 else 0 := by
  rw [h k]; split <;> rfl
theorem MetOk.put {ds : List (Int × Int)} {l : List (ME (Int × Int) Int)} {c : Nat} (h : MetOk ds l) {k : Int × Int} (hk : k ∉ ds) : MetOk (ds ++ [k]) (mput k ((mget k l).getD 0 + 1) l c).1 := fun k' => by
  rw [mget_put, h.get, if_neg hk]
  by_cases h' : k' = k
  · subst h'; simp
  · rw [if_neg h', h k']; simp [h']

end Go.Proofs.YtmjmaloapafnlaaGreatDoor

namespace Go.Proofs.YtmjmaloapafnlaaGreatDoor
open Go Go.Mv Go.ChangeShapes
set_option maxRecDepth 100000
def intAt (cs : Array Value) (i : Nat) : Int := match cs[i]? with | some (.int _ n) => n | _ => 0
theorem has_u8 {n : Int} (h : IntKind.u8.has n) : 0 ≤ n ∧ n ≤ 255 := by simpa [IntKind.has, IntKind.min, IntKind.max, IntKind.signed, IntKind.bits] using h
section trod
variable {H : Type} {enc : TypeId × Value → H} {P : Program} {w : World} {base : Nat} {spare : Nat → Bool} {held : Bool}
theorem mapM_some {α β : Type} {f : α → Option β} : ∀ {l : List α} {r : List β}, l.mapM f = some r → ∀ a ∈ l, ∃ b, f a = some b
  | [], _, _, a, ha => by simp at ha
  | x :: l, r, h, a, ha => by
    simp only [List.mapM_cons, Option.bind_eq_bind, Option.bind_eq_some_iff, Option.pure_def, Option.some.injEq] at h
    obtain ⟨y, hy, ys, hys, _⟩ := h
    rcases List.mem_cons.1 ha with rfl | ha
    · exact ⟨y, hy⟩
    · exact mapM_some hys a ha
theorem mapM_at {β : Type} {f : Nat → Option β} : ∀ {n : Nat} {r : List β}, (List.range n).mapM f = some r → ∀ i, i < n → f i = r[i]?
  | n, r, h, i, hi => by
    have h2 : ∀ {l : List Nat} {r : List β}, l.mapM f = some r → ∀ (i : Nat) (a : Nat), l[i]? = some a → f a = r[i]? := by
      intro l
      induction l with
      | nil => intro r _ i a ha; simp at ha
      | cons x l ih =>
        intro r h i a ha
        simp only [List.mapM_cons, Option.bind_eq_bind, Option.bind_eq_some_iff, Option.pure_def, Option.some.injEq] at h
        obtain ⟨y, hy, ys, hys, rfl⟩ := h
        cases i with
        | zero => simp only [List.getElem?_cons_zero, Option.some.injEq] at ha ⊢; rw [← ha]; exact hy
        | succ i => rw [List.getElem?_cons_succ] at ha ⊢; exact ih hys i a ha
    exact h2 h i i (by simp [hi])
/-- A struct's field. -/
theorem trod_field {n : Nat} {t : TypeId} {cs : List Value} {x : DataW H × List MemPlace} {fs : Array Field} (ht : P.underlying t = some (.struct fs)) (h : DataW.trod enc P w base spare held n t cs = some x) :
    cs.length = P.cellsOf t ∧ ∀ (j : Nat) (f : Field), fs[j]? = some f → ∃ m y, DataW.trod enc P w base spare held m f.type ((cs.drop f.offset).take (P.cellsOf f.type)) = some y := by
  cases n with
  | zero => simp [DataW.trod] at h
  | succ n =>
    unfold DataW.trod at h
    rw [ht] at h
    simp only at h
    split at h
    · rename_i hl
      cases hm : (fs.toList.mapM fun f => DataW.trod enc P w base spare held n f.type ((cs.drop f.offset).take (P.cellsOf f.type))) with
      | none => rw [hm] at h; simp at h
      | some xs => exact ⟨hl, fun j f hf => ⟨n, mapM_some hm f (by simpa using Array.mem_of_getElem? hf)⟩⟩
    · cases h
theorem trod_elem {n len : Nat} {t e : TypeId} {cs : List Value} {x : DataW H × List MemPlace} (ht : P.underlying t = some (.array len e)) (h : DataW.trod enc P w base spare held n t cs = some x) :
    cs.length = P.cellsOf t ∧ ∀ j, j < len → ∃ m y, DataW.trod enc P w base spare held m e ((cs.drop (j * P.cellsOf e)).take (P.cellsOf e)) = some y := by
  cases n with
  | zero => simp [DataW.trod] at h
  | succ n =>
    unfold DataW.trod at h
    rw [ht] at h
    simp only at h
    split at h
    · rename_i hl
      cases hm : ((List.range len).mapM fun i => DataW.trod enc P w base spare held n e ((cs.drop (i * P.cellsOf e)).take (P.cellsOf e))) with
      | none => rw [hm] at h; simp at h
      | some xs => exact ⟨hl, fun j hj => ⟨n, mapM_some hm j (by simpa using hj)⟩⟩
    · cases h
theorem wf_has {k : IntKind} {n : Int} (h : (Lit.int k n).wf = true) : k.has n := by simpa [Lit.wf, IntKind.has] using h
theorem trod_ints {n len : Nat} {t e : TypeId} {k : IntKind} {cs : List Value} {x : DataW H × List MemPlace} (ht : P.underlying t = some (.array len e)) (he : P.underlying e = some (.int k)) (hc : P.cellsOf e = 1) (h : DataW.trod enc P w base spare held n t cs = some x) :
    cs.length = P.cellsOf t ∧ ∀ j, j < len → ∃ z, cs[j]? = some (.int k z) ∧ k.has z := by
  obtain ⟨hl, hj⟩ := trod_elem ht h
  refine ⟨hl, fun j hlt => ?_⟩
  obtain ⟨m, y, hy⟩ := hj j hlt
  rw [hc, Nat.mul_one] at hy
  obtain ⟨z, hz, _, hwf⟩ := DataW.trod_int he hy
  refine ⟨z, ?_, wf_has hwf⟩
  have := congrArg (fun l : List Value => l[0]?) hz
  simpa [List.getElem?_take, List.getElem?_drop] using this
theorem at0 {l : List Value} {o n : Nat} {v : Value} (h : (l.drop o).take n = [v]) : l[o]? = some v := by
  have := congrArg (fun l : List Value => l[0]?) h
  simp only [List.getElem?_cons_zero] at this
  rw [← this, List.getElem?_take, List.getElem?_drop]
  split
  · rfl
  · rename_i hn
    have : n = 0 := by omega
    subst this; simp at h
theorem atj {l : List Value} {o n j : Nat} (hj : j < n) : ((l.drop o).take n)[j]? = l[o + j]? := by rw [List.getElem?_take, if_pos hj, List.getElem?_drop]
end trod
theorem build_list {α : Type} {ok : α → Prop} {Q : Nat → α → Prop} : ∀ {n : Nat}, (∀ i, i < n → ∃ x, ok x ∧ Q i x) → ∃ l : List α, l.length = n ∧ (∀ x ∈ l, ok x) ∧ ∀ i x, l[i]? = some x → Q i x
  | 0, _ => ⟨[], rfl, by simp, by simp⟩
  | k + 1, each => by
    obtain ⟨l, h1, h2, h3⟩ := build_list (n := k) (fun i hi => each i (by omega))
    obtain ⟨x, hx, hxc⟩ := each k (by omega)
    refine ⟨l ++ [x], by simp [h1], fun y hy => ?_, fun i y hi => ?_⟩
    · rcases List.mem_append.1 hy with hy | hy
      · exact h2 y hy
      · simp only [List.mem_cons, List.not_mem_nil, or_false] at hy; subst hy; exact hx
    · by_cases hik : i < l.length
      · rw [List.getElem?_append_left hik] at hi; exact h3 i y hi
      · rw [List.getElem?_append_right (by omega)] at hi
        have h0 : i - l.length = 0 := by
          have := (List.getElem?_eq_some_iff.1 hi).1
          simp at this; omega
        rw [h0] at hi
        simp only [List.getElem?_cons_zero, Option.some.injEq] at hi
        subst hi
        have : i = k := by omega
        subst this; exact hxc
/-- Elements of several cells that come in. -/
theorem open_list {H : Type} {α : Type} {P : Program} {ec : α → List Value} {sz : Nat} {ok : α → Prop} {t e : TypeId} {enc : TypeId × Value → H} {W : World} {r : Reach} {b0 : Nat} {v : Value} {d : DataW H} {p : List MemPlace} (ht : P.underlying t = some (.slice e)) (hsz : P.cellsOf e = sz) (hs0 : 0 < sz) (hk : ∀ x, (ec x).length = sz)
    (hel : ∀ n cs x, DataW.trod enc P W 0 (fun _ => true) true n e cs = some x → ∃ a, cs = ec a ∧ ok a) (hval : Value.okWide P W r b0 t v) (h : DataW.Trod enc P W 0 (fun _ => true) true t v d p) (HZ : Mem) (hH : Hp HZ W) :
    ∃ HA l, Hp (HA ++ HZ) W ∧ Rdx sz ec (HA ++ HZ) v l ∧ (∀ x ∈ l, ok x) ∧ l.length ≤ 9223372036854775807 := by
  obtain ⟨a0, l0, c0, rfl⟩ := WideShapes.okWide_slice ht hval
  simp only [Value.okWide, ht, Cell.okWide, Cell.ok] at hval
  obtain ⟨n, hn⟩ := h
  rcases DataW.trod_slice ht hn with ⟨hcs, _⟩ | ⟨a, len, cap, elems, rest, m, _, hcs, _, _, hl, hm, hlen, hels, _, _⟩
  · simp [Value.cells] at hcs
    obtain ⟨rfl, rfl, rfl⟩ := hcs
    exact ⟨[], [], hH, .inl ⟨rfl, rfl⟩, by simp, by simp⟩
  · simp [Value.cells] at hcs
    obtain ⟨rfl, rfl, rfl⟩ := hcs
    obtain ⟨_, _, hhas⟩ := hval
    obtain ⟨_, hspot, _⟩ := hhas
    obtain ⟨bb, off, sp⟩ := a
    simp only at hspot
    subst hspot
    have hm63 : l0 ≤ 9223372036854775807 := by have : c0 ≤ 9223372036854775807 := hm; omega
    have each : ∀ i, i < l0 → ∃ x, ok x ∧ ∀ j u, (ec x)[j]? = some u → W.cell? ⟨bb, off + i * sz + j, none⟩ = some u := fun i hi => by
      have h1 := hels i hi
      have h2 : elems[i]? = some elems[i] := List.getElem?_eq_getElem (by omega)
      rw [h2] at h1
      cases hc : W.cells? 0 ((⟨bb, off, none⟩ : Addr).add (i * P.cellsOf e)) (P.cellsOf e) with
      | none => rw [hc] at h1; simp at h1
      | some cs =>
        rw [hc] at h1
        obtain ⟨x, rfl, hx⟩ := hel _ _ _ h1
        refine ⟨x, hx, fun j u hu => ?_⟩
        rw [hsz, add_none] at hc
        simp only [World.cells?, Nat.zero_le, if_true] at hc
        have hj : j < sz := by rw [← hk x]; exact (List.getElem?_eq_some_iff.1 hu).1
        have := mapM_at hc j hj
        rw [hu] at this
        simpa [add_none] using this
    have hx := build_list each
    obtain ⟨l, hll, hlo, hlc⟩ := hx
    subst hll
    by_cases h0 : l = []
    · subst h0
      exact ⟨[], [], hH, .inr ⟨bb, off, c0, rfl, Nat.zero_le _, by simp⟩, by simp, by simp⟩
    · have hpos : 0 < l.length := List.length_pos_iff.2 h0
      have hfirst := hlc 0 l[0] (List.getElem?_eq_getElem hpos) 0 ((ec l[0])[0]'(by rw [hk]; exact hs0)) (List.getElem?_eq_getElem _)
      have hblk : bb < W.heap.size := block_lt_of_cell hfirst
      have hbb : W.heap[bb]? = some W.heap[bb] := Array.getElem?_eq_getElem hblk
      have hcells : ∀ w : World, w.heap[bb]? = some W.heap[bb] → ∀ i x, l[i]? = some x → ∀ j u, (ec x)[j]? = some u → w.cell? ⟨bb, off + i * sz + j, none⟩ = some u := fun w hw i x hi j u hu => by
        rw [← hlc i x hi j u hu]
        exact World.cell?_of_block (hw.trans hbb.symm)
      by_cases hz : ∃ o, (bb, o) ∈ HZ
      · obtain ⟨o, ho⟩ := hz
        have : o = W.heap[bb] := Option.some.inj ((hH.at_ _ ho).symm.trans hbb)
        subst this
        exact ⟨[], l, hH, .inr ⟨bb, off, c0, rfl, hl, fun w hw => hcells w (hw.at_ _ ho)⟩, hlo, hm63⟩
      · refine ⟨[(bb, W.heap[bb])], l, ⟨fun e he => ?_, ?_⟩, .inr ⟨bb, off, c0, rfl, hl, fun w hw => hcells w (hw.at_ (bb, _) (by simp))⟩, hlo, hm63⟩
        · rcases List.mem_append.1 he with he | he
          · simp only [List.mem_cons, List.not_mem_nil, or_false] at he; subst he; exact hbb
          · exact hH.at_ e he
        · refine List.pairwise_cons.2 ⟨fun e he h => hz ⟨e.2, ?_⟩, hH.ne⟩
          have he2 : (bb, e.2) = e := Prod.ext h rfl
          rw [he2]; exact he

end Go.Proofs.YtmjmaloapafnlaaGreatDoor

namespace Go.Proofs.YtmjmaloapafnlaaGreatDoor
open Go Go.Mv
set_option maxRecDepth 8000
/-- Where a list has the first such one. -/
def IdxF (p : Rec → Bool) (l : List Rec) (n : Int) : Prop := (n = -1 ∧ ∀ x ∈ l, p x = false) ∨ ∃ (i : Nat) (x : Rec), n = i ∧ l[i]? = some x ∧ p x = true ∧ ∀ (j : Nat) (y : Rec), j < i → l[j]? = some y → p y = false
theorem IdxF.any {p : Rec → Bool} {l : List Rec} {n : Int} (h : IdxF p l n) : decide (n ≥ 0) = l.any p := by
  rcases h with ⟨rfl, h⟩ | ⟨i, x, rfl, hx, hp, _⟩
  · rw [List.any_eq_false.2 (fun x hx => by simp [h x hx])]; rfl
  · rw [List.any_eq_true.2 ⟨x, List.mem_of_getElem? hx, hp⟩]; exact decide_eq_true (by omega)

end Go.Proofs.YtmjmaloapafnlaaGreatDoor
