import Derived.Test.YthagkkmbbncclaaDoorSrc
import Derived.Test.YthagkkmbbncclaaDoorMvC
namespace Go.Proofs.YthagkkmbbncclaaDoor
open Go Go.Mv
set_option maxRecDepth 8000
theorem elByteR : ElI Tryd.prog 5 1 1 (.int .u8 0) := by unfold ElI; kernel_rfl
theorem rem128u (m : Nat) : Value.int .u64 ((m : Int).tmod 128) = .int .u64 ((m % 128 : Nat) : Int) := by
  rw [Int.tmod_eq_emod_of_nonneg (by omega)]; simp
theorem quo128u {m : Nat} (h : m < 18446744073709551616) : Value.int .u64 (IntKind.u64.wrap ((m : Int).tdiv 128)) = .int .u64 ((m / 128 : Nat) : Int) := by
  rw [Int.tdiv_eq_ediv_of_nonneg (by omega), u64_wrap, show ((m : Int) / 128) = ((m / 128 : Nat) : Int) from by simp, Int.emod_eq_of_lt (by omega) (by omega)]
theorem u8_of {n : Nat} (h : n < 256) : Value.int .u8 (IntKind.u8.wrap (n : Int)) = bcell (UInt8.ofNat n) := by
  rw [u8_wrap, Int.emod_eq_of_lt (by omega) (by omega)]; exact bcell_of rfl h
def rsrcM (s : Nat) (v : Value) (HX : Mem) : Mem := (s, .cells #[v] 41 (0, 0)) :: HX
theorem in_rsrc {s n : Nat} {v v' : Value} {HX : Mem} : ∀ e ∈ rsrcM s v HX, e.1 ∈ keys (rsrcM s v' HX) ∨ n ≤ e.1 := fun e he => .inl (show e.1 ∈ keys (rsrcM s v HX) from mem_keys.2 ⟨e, he, rfl⟩)
/-- What the document's reading leaves. -/
def RReads {α : Type} (HX : Mem) (s : Nat) (enc : α → Value) (z : Value) (ys : List UInt8) (d : Dr α) (v : Value) (H1 : Mem) : Prop :=
  (∃ x r v', d = .ok x r ∧ v = .tuple #[enc x, .int .i64 0] ∧ H1 = rsrcM s v' HX ∧ Rdb HX v' r ∧ r.length ≤ ys.length) ∨
  (∃ e v' r, d = .err e ∧ e ≠ 0 ∧ v = .tuple #[z, .int .i64 e] ∧ H1 = rsrcM s v' HX ∧ Rdb HX v' r ∧ r.length ≤ ys.length)
def RReadsB (HX : Mem) (s : Nat) (ys : List UInt8) (d : Dr (List UInt8)) (v : Value) (H1 : Mem) : Prop :=
  (∃ b r v' x H2, d = .ok b r ∧ v = .tuple #[x, .int .i64 0] ∧ RetB 5 x H2 b ∧ H1 = H2 ++ rsrcM s v' HX ∧ Rdb HX v' r ∧ r.length ≤ ys.length) ∨
  (∃ e v' r, d = .err e ∧ e ≠ 0 ∧ v = .tuple #[.slice none 0 0, .int .i64 e] ∧ H1 = rsrcM s v' HX ∧ Rdb HX v' r ∧ r.length ≤ ys.length)
theorem bytes_ext {a b : List UInt8} : (⟨a.toArray⟩ : ByteArray) = ⟨b.toArray⟩ ↔ a = b := by
  constructor
  · intro h; have := congrArg (fun x : ByteArray => x.data.toList) h; simpa using this
  · rintro rfl; rfl
def docM (ys : List UInt8) : Nat := lowOf (ys.take (whereB ys 0)) % 18446744073709551616
theorem nd_short {ys : List UInt8} {most : Nat} (h : whereB ys 0 = 0 ∧ ys.length < 10) : numD most ys = .err 10 := by
  simp only [numD, num_doc ys, if_pos h]
theorem nd_form1 {ys : List UInt8} {most : Nat} (h1 : ¬ (whereB ys 0 = 0 ∧ ys.length < 10)) (h2 : whereB ys 0 = 0 ∨ 10 < whereB ys 0) : numD most ys = .err 11 := by
  simp only [numD, num_doc ys, if_neg h1, if_pos h2]
theorem nd_form2 {ys : List UInt8} {most : Nat} (h1 : ¬ (whereB ys 0 = 0 ∧ ys.length < 10)) (h2 : ¬ (whereB ys 0 = 0 ∨ 10 < whereB ys 0)) (h3 : ¬ lebL (docM ys) = ys.take (whereB ys 0)) : numD most ys = .err 11 := by
  have e : numR ys = .form := by rw [num_doc ys, if_neg h1, if_neg h2]; exact if_neg h3
  simp only [numD, e]
theorem nd_most {ys : List UInt8} {most : Nat} (h1 : ¬ (whereB ys 0 = 0 ∧ ys.length < 10)) (h2 : ¬ (whereB ys 0 = 0 ∨ 10 < whereB ys 0)) (h3 : lebL (docM ys) = ys.take (whereB ys 0)) (h4 : most < docM ys) : numD most ys = .err 12 := by
  have e : numR ys = .ok (docM ys) (ys.drop (whereB ys 0)) := by rw [num_doc ys, if_neg h1, if_neg h2]; exact if_pos h3
  simp only [numD, e, if_pos h4]
theorem nd_ok {ys : List UInt8} {most : Nat} (h1 : ¬ (whereB ys 0 = 0 ∧ ys.length < 10)) (h2 : ¬ (whereB ys 0 = 0 ∨ 10 < whereB ys 0)) (h3 : lebL (docM ys) = ys.take (whereB ys 0)) (h4 : ¬ most < docM ys) : numD most ys = .ok (docM ys) (ys.drop (whereB ys 0)) := by
  have e : numR ys = .ok (docM ys) (ys.drop (whereB ys 0)) := by rw [num_doc ys, if_neg h1, if_neg h2]; exact if_pos h3
  simp only [numD, e, if_neg h4]
theorem where_drop {ys : List UInt8} {i : Nat} {c : UInt8} (h : ys[i]? = some c) (hc : ¬ c.toNat < 128) : whereB (ys.drop i) i = whereB (ys.drop (i + 1)) (i + 1) := by
  obtain ⟨hlt, rfl⟩ := List.getElem?_eq_some_iff.1 h
  rw [List.drop_eq_getElem_cons hlt, whereB, if_neg hc]
theorem where_hit {ys : List UInt8} {i : Nat} {c : UInt8} (h : ys[i]? = some c) (hc : c.toNat < 128) : whereB (ys.drop i) i = i + 1 := by
  obtain ⟨hlt, rfl⟩ := List.getElem?_eq_some_iff.1 h
  rw [List.drop_eq_getElem_cons hlt, whereB, if_pos hc]

theorem c_rNum (n : Nat) (w : World) (hn : n < 18446744073709551616) : Calls Tryd.prog 74 #[.int .u64 (n : Int)] w (Ret w [] fun v H1 => RetB 5 v H1 (lebL n)) := by
  have h10 := lebL_len64 hn
  refine fn_enter (args := [_]) Tryd.func74 rfl Tryd.ntmps74 rfl (Hp.nil w) ?_
  refine pn_seq ?_
  refine pn_plain [] rfl ?_
  refine TE_q rfl rfl (RD.assign rfl) rfl ?_
  refine TE_nil0 ?_
  refine pn_seq ?_
  refine pn_plain [] rfl ?_
  refine TE_q rfl rfl (RD.assign rfl) rfl ?_
  refine TE_nil0 ?_
  refine pn_seq ?_
  refine pn_block ?_
  refine pn_loop (σ := List UInt8 × Nat × SnkS) (fun x => [(0, .int .u64 (x.2.1 : Int)), (3, bldV x.1 x.2.2)]) (fun x => bldM 5 x.1 x.2.2) (fun x => lebL n = x.1 ++ lebL x.2.1 ∧ x.2.1 < 18446744073709551616 ∧ SnkOk x.1 x.2.2 ∧ ∀ e ∈ bldM 5 x.1 x.2.2, w.heap.size ≤ e.1 ∨ e.1 ∈ []) (fun x => x.2.1) ([], n, none) ⟨rfl, hn, rfl, fun e he => by simp [bldM] at he⟩ ⟨rfl, rfl, trivial⟩ (List.Sublist.refl _) ?_
  rintro ⟨l, m, st⟩ ⟨hpre, hm, hok, hX⟩; dsimp only at hpre hm hok hX ⊢; have hll : l.length + (lebL m).length ≤ 10 := (by rw [hpre, List.length_append] at h10; exact h10); have hl1 := lebL_pos m
  refine pn_seq ?_
  refine pn_seq ?_
  refine pn_plain [] rfl ?_
  refine TE_q rfl rfl (RD.move rfl) rfl ?_
  refine TE_q rfl rfl (RD.geq rfl rfl) rfl ?_
  refine TE_nil0 ?_
  first | refine pn_condD rfl (fun hc0 => ?_) (fun hc0 => ?_) | refine pn_condN rfl (fun hc0 => ?_) (fun hc0 => ?_) | refine pn_cond rfl (fun hc0 => ?_) (fun hc0 => ?_)
  · refine pn_skip ?_
    refine pn_block ?_
    refine pn_seq ?_
    refine pn_plain [4] rfl ?_
    refine TE_q rfl rfl (RD.move rfl) rfl ?_
    refine TE_q rfl rfl (RD.move rfl) rfl ?_
    refine TE_q rfl rfl (RD.as (RD.rem rfl rfl (by decide)) (rem128u m)) rfl ?_
    refine TE_q rfl rfl (RD.as (v := .int .u64 ((m % 128 + 128 : Nat) : Int)) (RD.add rfl rfl) (by rw [u64_wrap, Int.emod_eq_of_lt (by omega) (by omega)]; congr 1; omega)) rfl ?_
    refine TE_q rfl rfl (RD.as (RD.conv Tryd.runUnderlying74 Tryd.runUnderlying5 rfl) (u8_of (by omega))) rfl ?_
    refine TE_buildSlice (cells := #[bcell (UInt8.ofNat (m % 128 + 128))]) rfl Tryd.runUnderlying35 Tryd.sizeOf5 Tryd.zeroValue5 rfl rfl rfl (by kernel_rfl) trivial rfl fun bv hbv => ?_
    refine TE_appendO (st := st) (l := l) (ys := [UInt8.ofNat (m % 128 + 128)]) [(bv, .cells #[bcell (UInt8.ofNat (m % 128 + 128))] 5 (0, 0))] [] (by simp) rfl rfl trivial rfl Tryd.underlying35 elByteR rfl rfl rfl hok (BytesIn.blk' (i := 0) (tl := []) rfl rfl rfl) (by simp; omega) hX ?_
    intro st1 hok1 hX1
    refine TE_q rfl rfl (RD.assign rfl) rfl ?_
    refine TE_nil0 ?_
    refine pn_plain [] rfl ?_
    refine TE_q rfl rfl (RD.move rfl) rfl ?_
    refine TE_q rfl rfl (RD.as (RD.quo rfl rfl (by decide)) (quo128u hm)) rfl ?_
    refine TE_q rfl rfl (RD.assign rfl) rfl ?_
    refine TE_nil0 ?_
    (exact pn_again (l ++ [UInt8.ofNat (m % 128 + 128)], m / 128, st1) ⟨by rw [hpre, lebL_big (n := m) (by omega), List.append_assoc]; rfl, by show m / 128 < 18446744073709551616; omega, hok1, hX1⟩ (by show m / 128 < m; omega) ⟨rfl, rfl, trivial⟩ (.cons _ (by rw [List.append_nil]; exact List.Sublist.refl _)))
  · refine pn_exit ?_
    refine pn_seq ?_
    refine pn_plain [2] rfl ?_
    refine TE_q rfl rfl (RD.move rfl) rfl ?_
    refine TE_q rfl rfl (RD.move rfl) rfl ?_
    refine TE_q rfl rfl (RD.as (RD.conv Tryd.runUnderlying74 Tryd.runUnderlying5 rfl) (u8_of (by omega))) rfl ?_
    refine TE_buildSlice (cells := #[bcell (UInt8.ofNat m)]) rfl Tryd.runUnderlying35 Tryd.sizeOf5 Tryd.zeroValue5 rfl rfl rfl (by kernel_rfl) trivial rfl fun bv hbv => ?_
    refine TE_appendO (st := st) (l := l) (ys := [UInt8.ofNat m]) [(bv, .cells #[bcell (UInt8.ofNat m)] 5 (0, 0))] [] (by simp) rfl rfl trivial rfl Tryd.underlying35 elByteR rfl rfl rfl hok (BytesIn.blk' (i := 0) (tl := []) rfl rfl rfl) (by simp; omega) hX ?_
    intro st1 hok1 hX1
    refine TE_q rfl rfl (RD.assign rfl) rfl ?_
    refine TE_nil0 ?_
    refine pn_ret ?_
    rw [lebL_small (n := m) (by omega)] at hpre; rw [hpre]; exact pn_doneF rfl ⟨_, _, rfl, rfl, rfl⟩ (RetB.of_bld hok1) (fun w h => h.sub (.cons _ (by rw [List.append_nil]; exact List.Sublist.refl _))) (where_ hX1)

theorem c_rTwin (HX : Mem) (xv : Value) (ys : List UInt8) (w : World) (hb : BytesIn HX xv ys) (hlen : ys.length ≤ 2199023255552) (hH : Hp HX w) : Calls Tryd.prog 13 #[xv] w (Ret w [] fun v H1 => RetB 5 v H1 ys) := by
  refine fn_enter (args := [_]) Tryd.func13 rfl Tryd.ntmps13 rfl hH ?_
  refine pn_seq ?_
  refine pn_plain [] rfl ?_
  refine TE_q rfl rfl (RD.assign rfl) rfl ?_
  refine TE_nil0 ?_
  refine pn_seq ?_
  refine pn_plain [] rfl ?_
  refine TE_q rfl rfl (RD.assign rfl) rfl ?_
  refine TE_nil0 ?_
  refine pn_seq ?_
  refine pn_plain [] rfl ?_
  refine TE_q rfl rfl (RD.move rfl) rfl ?_
  refine TE_q rfl rfl (RD.move rfl) rfl ?_
  refine TE_appendO (st := none) (l := []) (ys := ys) [] HX rfl rfl rfl trivial rfl Tryd.underlying35 elByteR rfl rfl rfl rfl (hb.mono (fun w h => h.left)) (by simp; omega) (fun e he => by simp [bldM] at he) ?_
  intro st1 hok1 hX1
  refine TE_q rfl rfl (RD.assign rfl) rfl ?_
  refine TE_nil0 ?_
  refine pn_ret ?_
  exact pn_doneF rfl ⟨_, _, rfl, rfl, rfl⟩ (RetB.of_bld hok1) (fun w h => (Hp.right (A := []) h).left) (where_ hX1)

theorem c_rBytes (HX : Mem) (xv : Value) (ys : List UInt8) (w : World) (hb : BytesIn HX xv ys) (hlen : ys.length ≤ 2199023255552) (hH : Hp HX w) : Calls Tryd.prog 63 #[xv] w (Ret w [] fun v H1 => RetB 5 v H1 (lebL ys.length ++ ys)) := by
  have hb0 := hb
  obtain ⟨a, c, rfl, hb1⟩ := hb
  have h10 := lebL_len64 (n := ys.length) (by omega)
  refine fn_enter (args := [_]) Tryd.func63 rfl Tryd.ntmps63 rfl hH ?_
  refine pn_seq ?_
  refine pn_plain [] rfl ?_
  refine TE_q rfl rfl (RD.assign rfl) rfl ?_
  refine TE_nil0 ?_
  refine pn_seq ?_
  refine pn_plain [1, 2] rfl ?_
  refine TE_q rfl rfl (RD.move rfl) rfl ?_
  refine TE_q rfl rfl (RD.len_slice Tryd.runUnderlying35 rfl) rfl ?_
  refine TE_q rfl rfl (RD.as (RD.conv Tryd.runUnderlying3 Tryd.runUnderlying74 rfl) (u64_len (by omega))) rfl ?_
  refine TE_call rfl rfl trivial Tryd.call74 rfl rfl rfl (fun w hs' => c_rNum ys.length w (by omega)) ?_
  rintro v6 H3 hr hX3; obtain ⟨st, hok, rfl, rfl⟩ := hr.bld
  refine TE_q rfl rfl (RD.move rfl) rfl ?_
  refine TE_appendO (st := st) (l := lebL ys.length) (ys := ys) [] HX rfl rfl rfl trivial rfl Tryd.underlying35 elByteR rfl rfl rfl hok (hb0.mono (fun w h => h.left.right)) (by omega) (fun e he => .inl (hX3 e he)) ?_
  intro st1 hok1 hX1
  refine TE_q rfl rfl (RD.assign rfl) rfl ?_
  refine TE_nil0 ?_
  refine pn_ret ?_
  exact pn_doneF rfl ⟨_, _, rfl, rfl, rfl⟩ (RetB.of_bld hok1) (fun w h => (Hp.right (A := []) h).left) (where_ hX1)

theorem c_rWhere (HX : Mem) (sv : Value) (ys : List UInt8) (w : World) (hb : Rdb HX sv ys) (hlen : ys.length ≤ 4611686018427387904) (hH : Hp HX w) : Calls Tryd.prog 73 #[sv] w (Ret w [] fun v H1 => v = .int .i64 (whereB ys 0 : Nat) ∧ H1 = []) := by
  refine fn_enter (args := [_]) Tryd.func73 rfl Tryd.ntmps73 rfl hH ?_
  refine pn_seq ?_
  refine pn_plain [] rfl ?_
  refine TE_q rfl rfl (RD.assign rfl) rfl ?_
  refine TE_nil0 ?_
  refine pn_seq ?_
  refine pn_seq ?_
  refine pn_plain [] rfl ?_
  refine TE_q rfl rfl (RD.assign rfl) rfl ?_
  refine TE_nil0 ?_
  refine pn_block ?_
  refine pn_loop (σ := Nat) (fun i => [(0, sv), (3, .int .i64 (i : Int))]) (fun _ => HX) (fun i => i ≤ ys.length ∧ whereB ys 0 = whereB (ys.drop i) i) (fun i => ys.length - i) 0 ⟨Nat.zero_le _, rfl⟩ ⟨rfl, rfl, trivial⟩ (List.Sublist.refl _) ?_
  rintro i ⟨hi, hw⟩
  refine pn_seq ?_
  refine pn_seq ?_
  refine pn_plain [2] rfl ?_
  refine TE_q rfl rfl (RD.move rfl) rfl ?_
  refine TE_q rfl rfl (RD.move rfl) rfl ?_
  refine TE_q rfl rfl (RD.lenR Tryd.runUnderlying35 rfl hb) rfl ?_
  refine TE_q rfl rfl (RD.lss rfl rfl) rfl ?_
  refine TE_nil0 ?_
  first | refine pn_condD rfl (fun hc0 => ?_) (fun hc0 => ?_) | refine pn_condN rfl (fun hc0 => ?_) (fun hc0 => ?_) | refine pn_cond rfl (fun hc0 => ?_) (fun hc0 => ?_)
  · refine pn_skip ?_
    refine pn_seq ?_
    refine pn_block ?_
    refine pn_seq ?_
    refine pn_plain [] rfl ?_
    refine TE_q rfl rfl (RD.move rfl) rfl ?_
    obtain ⟨c, hic⟩ : ∃ c, ys[i]? = some c := ⟨_, List.getElem?_eq_getElem (by omega)⟩; obtain ⟨bb, off, cap, rfl, hcap, hcell'⟩ := hb.at hic; have hcell : ∀ w, Hp HX w → w.cell? ⟨bb, off + (i : Int).toNat * 1, none⟩ = some (bcell c) := (by rw [Int.toNat_natCast, Nat.mul_one]; exact hcell')
    refine TE_q rfl rfl (RD.move rfl) rfl ?_
    refine TE_q rfl rfl (RD.indexAddrS Tryd.runUnderlying35 Tryd.sizeOf5 rfl rfl (by omega) (by omega)) rfl ?_
    refine TE_l rfl rfl trivial rfl (RD.loadC Tryd.isAgg5 rfl (fun w hw => hcell w hw.left)) rfl ?_
    refine TE_q rfl rfl (RD.lss rfl rfl) rfl ?_
    refine TE_nil0 ?_
    first | refine pn_condD rfl (fun hc1 => ?_) (fun hc1 => ?_) | refine pn_condN rfl (fun hc1 => ?_) (fun hc1 => ?_) | refine pn_cond rfl (fun hc1 => ?_) (fun hc1 => ?_)
    · refine pn_seq ?_
      refine pn_plain [] rfl ?_
      refine TE_q rfl rfl (RD.move rfl) rfl ?_
      refine TE_q rfl rfl (RD.addI rfl rfl (by omega) (by omega)) rfl ?_
      refine TE_q rfl rfl (RD.assign rfl) rfl ?_
      refine TE_nil0 ?_
      refine pn_ret ?_
      exact pn_done rfl rfl ⟨by rw [hw, where_hit hic (by omega)]; rfl, rfl⟩ (List.nil_sublist _) (by simp)
    · refine pn_skip ?_
      refine pn_plain [] rfl ?_
      refine TE_q rfl rfl (RD.move rfl) rfl ?_
      refine TE_q rfl rfl (RD.addI rfl rfl (by omega) (by omega)) rfl ?_
      refine TE_q rfl rfl (RD.assign rfl) rfl ?_
      refine TE_nil0 ?_
      (exact pn_again (i + 1) ⟨by omega, by rw [hw]; exact where_drop hic (by omega)⟩ (by show ys.length - (i + 1) < ys.length - i; omega) ⟨rfl, rfl, trivial⟩ (List.Sublist.refl _))
  · refine pn_exit ?_
    refine pn_seq ?_
    refine pn_plain [] rfl ?_
    refine TE_q rfl rfl (RD.assign rfl) rfl ?_
    refine TE_nil0 ?_
    refine pn_ret ?_
    exact pn_done rfl rfl ⟨by rw [hw, List.drop_eq_nil_of_le (by omega)]; rfl, rfl⟩ (List.nil_sublist _) (by simp)

end Go.Proofs.YthagkkmbbncclaaDoor
