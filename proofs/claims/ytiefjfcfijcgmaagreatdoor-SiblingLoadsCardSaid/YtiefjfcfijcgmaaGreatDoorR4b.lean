import Derived.Test.YtiefjfcfijcgmaaGreatDoorR4
namespace Go.Proofs.YtiefjfcfijcgmaaGreatDoor
open Go Go.Mv
set_option maxRecDepth 8000
theorem byte_is {l : List UInt8} {i n : Nat} (hi : i < l.length) (hn : n < 256) : l[i]? = some (UInt8.ofNat n) ↔ ((l[i]).toNat : Int) = (n : Int) := by
  rw [List.getElem?_eq_getElem hi, Option.some.injEq]
  constructor
  · intro h; rw [h, UInt8.toNat_ofNat_of_lt' hn]
  · intro h; apply UInt8.toNat_inj.1; rw [UInt8.toNat_ofNat_of_lt' hn]; omega
theorem strs_get {l : List ByteArray} {tl : List Value} {i : Nat} (h : i < l.length) : cget (l.map Value.string ++ tl).toArray (0 + (i : Int).toNat * 1) = some (.string (l[i]'h)) := by
  rw [cget_eq, Nat.zero_add, Nat.mul_one, Int.toNat_natCast]
  simp [List.getElem?_append_left, h]
theorem bk1 {s : ByteArray} (h1 : pLong s = true) : breaksN s = 1 := by simp [breaksN, brk, h1]
theorem bk2 {s : ByteArray} (h1 : pLong s = false) (h2 : byByteB s = true) : breaksN s = 2 := by simp [breaksN, brk, h1, h2]
theorem bk3 {s : ByteArray} (h1 : pLong s = false) (h2 : byByteB s = false) (h3 : pPart pEmpty s = true) : breaksN s = 3 := by simp [breaksN, brk, h1, h2, h3]
theorem bk4 {s : ByteArray} (h1 : pLong s = false) (h2 : byByteB s = false) (h3 : pPart pEmpty s = false) (h4 : pPart pDot s = true) : breaksN s = 4 := by simp [breaksN, brk, h1, h2, h3, h4]
theorem bk5 {s : ByteArray} (h1 : pLong s = false) (h2 : byByteB s = false) (h3 : pPart pEmpty s = false) (h4 : pPart pDot s = false) (h5 : pHas ⟨#[46, 46]⟩ s = true) : breaksN s = 5 := by simp [breaksN, brk, h1, h2, h3, h4, h5]
theorem bk6 {s : ByteArray} (h1 : pLong s = false) (h2 : byByteB s = false) (h3 : pPart pEmpty s = false) (h4 : pPart pDot s = false) (h5 : pHas ⟨#[46, 46]⟩ s = false) (h6 : pPart pLock s = true) : breaksN s = 6 := by simp [breaksN, brk, h1, h2, h3, h4, h5, h6]
theorem bk7 {s : ByteArray} (h1 : pLong s = false) (h2 : byByteB s = false) (h3 : pPart pEmpty s = false) (h4 : pPart pDot s = false) (h5 : pHas ⟨#[46, 46]⟩ s = false) (h6 : pPart pLock s = false) (h7 : pEnd s = true) : breaksN s = 7 := by simp [breaksN, brk, h1, h2, h3, h4, h5, h6, h7]
theorem bk8 {s : ByteArray} (h1 : pLong s = false) (h2 : byByteB s = false) (h3 : pPart pEmpty s = false) (h4 : pPart pDot s = false) (h5 : pHas ⟨#[46, 46]⟩ s = false) (h6 : pPart pLock s = false) (h7 : pEnd s = false) (h8 : pHas ⟨#[64, 123]⟩ s = true) : breaksN s = 8 := by simp [breaksN, brk, h1, h2, h3, h4, h5, h6, h7, h8]
theorem bk0 {s : ByteArray} (h1 : pLong s = false) (h2 : byByteB s = false) (h3 : pPart pEmpty s = false) (h4 : pPart pDot s = false) (h5 : pHas ⟨#[46, 46]⟩ s = false) (h6 : pPart pLock s = false) (h7 : pEnd s = false) (h8 : pHas ⟨#[64, 123]⟩ s = false) : breaksN s = 0 := by simp [breaksN, brk, h1, h2, h3, h4, h5, h6, h7, h8]
theorem long_iff (s : ByteArray) : pLong s = decide (s.size < 1 ∨ 100 < s.size) := by
  simp only [pLong]
  rw [← Bool.decide_or]
  apply decide_eq_decide.2
  constructor
  · rintro (h | h)
    · left; rw [h]; decide
    · right; omega
  · rintro (h | h)
    · left; apply bytes_eq
      have : s.data.toList.length = s.size := by simp
      exact List.length_eq_zero_iff.1 (by omega)
    · right; omega
theorem breaks_ge (s : ByteArray) : 0 ≤ breaksN s := by
  unfold breaksN
  cases h : ([1, 2, 3, 4, 5, 6, 7, 8] : List Int).find? fun n => brk n s with
  | none => simp
  | some n =>
    have := List.mem_of_find?_eq_some h
    simp only [List.mem_cons, List.not_mem_nil, or_false] at this
    simp only [Option.getD_some]
    omega
theorem bad_T {s : ByteArray} {i : Nat} (hi : i < s.data.toList.length) (h : (!byteBad (s.data.toList[i])) = false) : byByteB s = true := by
  simp only [byByteB, List.any_eq_true]
  exact ⟨_, List.getElem_mem hi, by simpa using h⟩
theorem bad_F {s : ByteArray} (h : ∀ (j : Nat) (c : UInt8), s.data.toList[j]? = some c → byteBad c = false) : byByteB s = false := by
  simp only [byByteB, List.any_eq_false]
  intro x hx
  obtain ⟨i, hi⟩ := List.mem_iff_getElem?.1 hx
  simp [h i x hi]
theorem dot_iff {p : ByteArray} (hp : pEmpty p = false) : ∃ hi : 0 < p.data.toList.length, pDot p = decide (((p.data.toList[0]).toNat : Int) = 46) := by
  have hne : p ≠ ⟨#[]⟩ := by simpa [pEmpty] using hp
  cases hl : p.data.toList with
  | nil => exact absurd (bytes_eq (by rw [hl])) hne
  | cons c r =>
    refine ⟨by simp, ?_⟩
    simp only [pDot, Lib.hasPrefix, hl, List.isPrefixOf, Bool.and_true, List.getElem_cons_zero]
    rw [show ((46 : UInt8) == c) = decide ((46 : UInt8) = c) from rfl]
    apply decide_eq_decide.2
    constructor
    · rintro rfl; rfl
    · intro h; apply UInt8.toNat_inj.1; show 46 = _; omega
theorem lock_iff (p : ByteArray) : pLock p = decide (5 ≤ p.size ∧ p.extract (p.size - 5) p.size = ⟨#[46, 108, 111, 99, 107]⟩) := by
  have hs : p.data.toList.length = p.size := by simp
  apply Bool.eq_iff_iff.2
  rw [decide_eq_true_eq]
  unfold pLock
  rw [suffix_iff, hs]
  show 5 ≤ p.size ∧ p.data.toList.drop (p.size - 5) = _ ↔ _
  constructor
  · rintro ⟨h1, h2⟩
    exact ⟨h1, bytes_eq (by rw [extract_toList, List.take_of_length_le (by omega), h2])⟩
  · rintro ⟨h1, h2⟩
    refine ⟨h1, ?_⟩
    have := congrArg (fun x : ByteArray => x.data.toList) h2
    simp only [extract_toList] at this
    rw [List.take_of_length_le (by omega)] at this
    exact this
theorem end_iff {s : ByteArray} (h : pLong s = false) : ∃ hi : s.size - 1 < s.data.toList.length, pEnd s = decide (((s.data.toList[s.size - 1]).toNat : Int) = 46) := by
  have hs : s.data.toList.length = s.size := by simp
  rw [long_iff, decide_eq_false_iff_not] at h
  have hi : s.size - 1 < s.data.toList.length := by omega
  refine ⟨hi, ?_⟩
  apply Bool.eq_iff_iff.2
  rw [decide_eq_true_eq]
  unfold pEnd
  rw [suffix_iff, hs]
  show 1 ≤ s.size ∧ s.data.toList.drop (s.size - 1) = [46] ↔ _
  rw [List.drop_eq_getElem_cons hi, show s.data.toList.drop (s.size - 1 + 1) = [] from List.drop_eq_nil_of_le (by omega)]
  constructor
  · rintro ⟨_, h2⟩
    simp only [List.cons.injEq, and_true] at h2
    rw [h2]; rfl
  · intro h2
    refine ⟨by omega, ?_⟩
    simp only [List.cons.injEq, and_true]
    apply UInt8.toNat_inj.1; show _ = 46; omega
theorem has_T {s : ByteArray} {x y : UInt8} {i : Nat} (h0 : 1 ≤ i) (h : s.data.toList[i]? = some y ∧ s.data.toList[i - 1]? = some x) : pHas ⟨#[x, y]⟩ s = true := by
  show Lib.contains s.data.toList [x, y] = true
  rw [contains2]
  exact ⟨i - 1, h.2, by rw [show i - 1 + 1 = i from by omega]; exact h.1⟩
theorem has_F {s : ByteArray} {x y : UInt8} (h : ∀ i, 1 ≤ i → i < s.size → ¬ (s.data.toList[i]? = some y ∧ s.data.toList[i - 1]? = some x)) : pHas ⟨#[x, y]⟩ s = false := by
  cases hh : pHas ⟨#[x, y]⟩ s with
  | false => rfl
  | true =>
    have hh' : Lib.contains s.data.toList [x, y] = true := hh
    rw [contains2] at hh'
    obtain ⟨i, h1, h2⟩ := hh'
    have hlt := (List.getElem?_eq_some_iff.1 h2).1
    have hs : s.data.toList.length = s.size := by simp
    exact absurd ⟨h2, h1⟩ (h (i + 1) (by omega) (by omega))

set_option maxHeartbeats 4000000 in
theorem c_r4Breaks (s : ByteArray) (w : World) : Calls Tryz.prog 100 #[.string s] w (Ret w [] fun v H1 => v = .int .i64 (breaksN s) ∧ H1 = []) := by
  have hsz : s.data.toList.length = s.size := by simp
  have hpl := partsOf_length s
  refine fn_enter (args := [_]) Tryz.func100 rfl Tryz.ntmps100 rfl (Hp.nil w) ?_
  refine pn_seq ?_
  refine pn_plain [] rfl ?_
  refine TE_q rfl rfl (RD.assign rfl) rfl ?_
  refine TE_nil0 ?_
  refine pn_seq ?_
  refine pn_seq ?_
  refine pn_cut (σ := Unit) (fun _ => [(19, .bool (decide (s.size < 1 ∨ 100 < s.size))), (0, .string s)]) (fun _ => []) (fun _ => True) ?_ ?_
  · refine pn_plain [1, 5] rfl ?_
    refine TE_q rfl rfl (RD.move rfl) rfl ?_
    refine TE_q rfl rfl (RD.len_string Tryz.runUnderlying9 rfl) rfl ?_
    refine TE_q rfl rfl (RD.lss rfl rfl) rfl ?_
    refine TE_q rfl rfl (RD.move rfl) rfl ?_
    (first | refine TE_isT ?_ | refine TE_isF ?_ | refine TE_dec (fun h103 => ?_) (fun h103 => ?_) | refine TE_ndec (fun h103 => ?_) (fun h103 => ?_) | refine TE_bool (fun h103 => ?_) (fun h103 => ?_))
    all_goals (first | (refine TE_s rfl rfl rfl rfl rfl ?_) | (refine TE_gq rfl rfl rfl rfl (RD.move rfl) rfl ?_))
    all_goals (first | (refine TE_s rfl rfl rfl rfl rfl ?_) | (refine TE_gq rfl rfl rfl rfl (RD.len_string Tryz.runUnderlying9 rfl) rfl ?_))
    all_goals (first | (refine TE_s rfl rfl rfl rfl rfl ?_) | (refine TE_gq rfl rfl rfl rfl (RD.gtr rfl rfl) rfl ?_))
    all_goals (first | (refine TE_q rfl rfl (RD.pickT rfl rfl) rfl ?_) | (refine TE_q rfl rfl (RD.pickF rfl rfl) rfl ?_))
    all_goals refine TE_nil0 ?_
    all_goals (first | (have hF : (s.size < 1 ∨ 100 < s.size) := (by omega); exact pn_give () trivial ⟨by rw [decide_eq_true hF]; rfl, rfl, trivial⟩ (fun w h => h)) | (have hF : ¬ (s.size < 1 ∨ 100 < s.size) := (by omega); exact pn_give () trivial ⟨by rw [decide_eq_false hF]; rfl, rfl, trivial⟩ (fun w h => h)) | (have hF : (s.size < 1 ∨ 100 < s.size) ↔ (100 : Int) < (s.size : Int) := (by omega); exact pn_give () trivial ⟨by rw [decide_eq_decide.2 hF]; rfl, rfl, trivial⟩ (fun w h => h)))
  rintro - -
  first | refine pn_condD rfl (fun hc0 => ?_) (fun hc0 => ?_) | refine pn_condN rfl (fun hc0 => ?_) (fun hc0 => ?_) | refine pn_cond rfl (fun hc0 => ?_) (fun hc0 => ?_)
  · refine pn_seq ?_
    refine pn_plain [] rfl ?_
    refine TE_q rfl rfl (RD.assign rfl) rfl ?_
    refine TE_nil0 ?_
    refine pn_ret ?_
    exact pn_done rfl rfl ⟨by rw [bk1 (by rw [long_iff, decide_eq_true hc0])]; rfl, rfl⟩ (List.nil_sublist _) (by simp)
  · refine pn_skip ?_
    refine pn_seq ?_
    refine pn_seq ?_
    refine pn_plain [] rfl ?_
    refine TE_q rfl rfl (RD.assign rfl) rfl ?_
    have hL : pLong s = false := (by rw [long_iff, decide_eq_false hc0]); have hcl := Lib.countB_le ⟨#[47]⟩ (by decide) s.size s (Nat.le_refl _)
    refine TE_nil0 ?_
    refine pn_block ?_
    refine pn_loop (σ := Nat) (fun i => [(3, .int .i64 (i : Int)), (0, .string s)]) (fun _ => []) (fun i => i ≤ s.size ∧ ∀ j c, s.data.toList[j]? = some c → j < i → byteBad c = false) (fun i => s.size - i) 0 ⟨Nat.zero_le _, fun j c hj h => absurd h (by omega)⟩ ⟨rfl, rfl, trivial⟩ (List.Sublist.refl _) ?_
    rintro i ⟨hi, hno⟩
    refine pn_seq ?_
    refine pn_seq ?_
    refine pn_plain [2] rfl ?_
    refine TE_q rfl rfl (RD.move rfl) rfl ?_
    refine TE_q rfl rfl (RD.move rfl) rfl ?_
    refine TE_q rfl rfl (RD.len_string Tryz.runUnderlying9 rfl) rfl ?_
    refine TE_q rfl rfl (RD.lss rfl rfl) rfl ?_
    refine TE_nil0 ?_
    first | refine pn_condD rfl (fun hc1 => ?_) (fun hc1 => ?_) | refine pn_condN rfl (fun hc1 => ?_) (fun hc1 => ?_) | refine pn_cond rfl (fun hc1 => ?_) (fun hc1 => ?_)
    · refine pn_skip ?_
      refine pn_seq ?_
      refine pn_block ?_
      refine pn_seq ?_
      refine pn_plain [] rfl ?_
      refine TE_q rfl rfl (RD.move rfl) rfl ?_
      have hlt : i < s.data.toList.length := (by omega)
      refine TE_q rfl rfl (RD.move rfl) rfl ?_
      refine TE_q rfl rfl (RD.indexStr (i := i) Tryz.underlying9 rfl rfl rfl (List.getElem?_eq_getElem hlt)) rfl ?_
      refine TE_call (post := fun v H1 => v = .bool (!byteBad (s.data.toList[i])) ∧ H1 = []) rfl rfl trivial Tryz.call120 rfl rfl rfl (fun w hs' => c_r4may (s.data.toList[i]) w) ?_
      rintro v29 H3 ⟨rfl, rfl⟩ -
      refine TE_q rfl rfl (RD.assign rfl) rfl ?_
      refine TE_nil0 ?_
      refine pn_seq ?_
      refine pn_plain [] rfl ?_
      refine TE_q rfl rfl (RD.move rfl) rfl ?_
      refine TE_q rfl rfl (RD.not rfl) rfl ?_
      refine TE_nil0 ?_
      first | refine pn_condD rfl (fun hc2 => ?_) (fun hc2 => ?_) | refine pn_condN rfl (fun hc2 => ?_) (fun hc2 => ?_) | refine pn_cond rfl (fun hc2 => ?_) (fun hc2 => ?_)
      · refine pn_seq ?_
        refine pn_plain [] rfl ?_
        refine TE_q rfl rfl (RD.assign rfl) rfl ?_
        refine TE_nil0 ?_
        refine pn_ret ?_
        exact pn_done rfl rfl ⟨by rw [bk2 hL (bad_T hlt (by simpa using hc2))]; rfl, rfl⟩ (List.nil_sublist _) (by simp)
      · refine pn_skip ?_
        refine pn_plain [] rfl ?_
        refine TE_q rfl rfl (RD.move rfl) rfl ?_
        refine TE_q rfl rfl (RD.addI rfl rfl (by omega) (by omega)) rfl ?_
        refine TE_q rfl rfl (RD.assign rfl) rfl ?_
        refine TE_nil0 ?_
        (exact pn_again (i + 1) ⟨by omega, fun j c hj h => by rcases Nat.lt_succ_iff_lt_or_eq.1 h with h | rfl; exact hno j c hj h; (rw [List.getElem?_eq_getElem hlt] at hj; obtain rfl := Option.some.inj hj; simpa using hc2)⟩ (by show s.size - (i + 1) < s.size - i; omega) ⟨rfl, rfl, trivial⟩ (List.Sublist.refl _))
    · refine pn_exit ?_
      refine pn_seq ?_
      refine pn_plain [] rfl ?_
      refine TE_q rfl rfl (RD.move rfl) rfl ?_
      have hB : byByteB s = false := bad_F (fun j c hj => by have hjl := (List.getElem?_eq_some_iff.1 hj).1; exact hno j c hj (by omega))
      refine TE_call rfl rfl trivial Tryz.call121 rfl rfl rfl (fun w hs' => c_r4parts s w (by omega)) ?_
      rintro v33 H1 ⟨st, rfl, rfl, hok⟩ hXp
      refine TE_q rfl rfl (RD.assign rfl) rfl ?_
      refine TE_nil0 ?_
      refine pn_seq ?_
      refine pn_seq ?_
      rcases st with _ | ⟨bq, cap, tl⟩; (exact absurd (show partsOf s = [] from hok) (fun h => by rw [h] at hpl; simp at hpl))
      refine pn_plain [] rfl ?_
      refine TE_q rfl rfl (RD.assign rfl) rfl ?_
      refine TE_nil0 ?_
      refine pn_block ?_
      refine pn_loop (σ := Nat) (fun i => [(6, .int .i64 (i : Int)), (5, .slice (some ⟨bq, 0, none⟩) (partsOf s).length cap), (0, .string s)]) (fun _ => [(bq, .cells ((partsOf s).map Value.string ++ tl).toArray 9 (0, 0))]) (fun i => i ≤ (partsOf s).length ∧ ∀ j (hj : j < (partsOf s).length), j < i → pEmpty ((partsOf s)[j]) = false) (fun i => (partsOf s).length - i) 0 ⟨Nat.zero_le _, fun j hj h => absurd h (by omega)⟩ ⟨rfl, rfl, rfl, trivial⟩ (List.Sublist.refl _) ?_
      rintro i ⟨hi, hno⟩
      refine pn_seq ?_
      refine pn_seq ?_
      refine pn_plain [2] rfl ?_
      refine TE_q rfl rfl (RD.move rfl) rfl ?_
      refine TE_q rfl rfl (RD.move rfl) rfl ?_
      refine TE_q rfl rfl (RD.len_slice Tryz.runUnderlying162 rfl) rfl ?_
      refine TE_q rfl rfl (RD.lss rfl rfl) rfl ?_
      refine TE_nil0 ?_
      first | refine pn_condD rfl (fun hc3 => ?_) (fun hc3 => ?_) | refine pn_condN rfl (fun hc3 => ?_) (fun hc3 => ?_) | refine pn_cond rfl (fun hc3 => ?_) (fun hc3 => ?_)
      · refine pn_skip ?_
        refine pn_seq ?_
        refine pn_block ?_
        refine pn_seq ?_
        refine pn_plain [] rfl ?_
        refine TE_q rfl rfl (RD.move rfl) rfl ?_
        have hlt : i < (partsOf s).length := (by omega)
        refine TE_q rfl rfl (RD.move rfl) rfl ?_
        refine TE_q rfl rfl (RD.indexAddrS Tryz.runUnderlying162 Tryz.sizeOf9 rfl rfl (by omega) (by omega)) rfl ?_
        refine TE_l rfl rfl trivial rfl (RD.load (i := 0) Tryz.isAgg9 rfl rfl (strs_get hlt)) rfl ?_
        refine TE_q rfl rfl (RD.eql_string rfl rfl) rfl ?_
        refine TE_nil0 ?_
        first | refine pn_condD rfl (fun hc4 => ?_) (fun hc4 => ?_) | refine pn_condN rfl (fun hc4 => ?_) (fun hc4 => ?_) | refine pn_cond rfl (fun hc4 => ?_) (fun hc4 => ?_)
        · refine pn_seq ?_
          refine pn_plain [] rfl ?_
          refine TE_q rfl rfl (RD.assign rfl) rfl ?_
          refine TE_nil0 ?_
          refine pn_ret ?_
          exact pn_done rfl rfl ⟨by rw [bk3 hL hB (pPart_T hlt (by simp [pEmpty, hc4]))]; rfl, rfl⟩ (List.nil_sublist _) (by simp)
        · refine pn_skip ?_
          refine pn_plain [] rfl ?_
          refine TE_q rfl rfl (RD.move rfl) rfl ?_
          refine TE_q rfl rfl (RD.addI rfl rfl (by omega) (by omega)) rfl ?_
          refine TE_q rfl rfl (RD.assign rfl) rfl ?_
          refine TE_nil0 ?_
          (exact pn_again (i + 1) ⟨by omega, fun j hj h => by rcases Nat.lt_succ_iff_lt_or_eq.1 h with h | rfl; exact hno j hj h; exact (by simp [pEmpty, hc4])⟩ (by show (partsOf s).length - (i + 1) < (partsOf s).length - i; omega) ⟨rfl, rfl, rfl, trivial⟩ (List.Sublist.refl _))
      · refine pn_exit ?_
        refine pn_seq ?_
        refine pn_seq ?_
        refine pn_plain [] rfl ?_
        refine TE_q rfl rfl (RD.assign rfl) rfl ?_
        have hE' : ∀ j (hj : j < (partsOf s).length), pEmpty ((partsOf s)[j]) = false := (fun j hj => hno j hj (by omega)); have hE : pPart pEmpty s = false := pPart_F hE'
        refine TE_nil0 ?_
        refine pn_block ?_
        refine pn_loop (σ := Nat) (fun i => [(7, .int .i64 (i : Int)), (5, .slice (some ⟨bq, 0, none⟩) (partsOf s).length cap), (0, .string s)]) (fun _ => [(bq, .cells ((partsOf s).map Value.string ++ tl).toArray 9 (0, 0))]) (fun i => i ≤ (partsOf s).length ∧ ∀ j (hj : j < (partsOf s).length), j < i → pDot ((partsOf s)[j]) = false) (fun i => (partsOf s).length - i) 0 ⟨Nat.zero_le _, fun j hj h => absurd h (by omega)⟩ ⟨rfl, rfl, rfl, trivial⟩ (List.Sublist.refl _) ?_
        rintro i ⟨hi, hno⟩
        refine pn_seq ?_
        refine pn_seq ?_
        refine pn_plain [2] rfl ?_
        refine TE_q rfl rfl (RD.move rfl) rfl ?_
        refine TE_q rfl rfl (RD.move rfl) rfl ?_
        refine TE_q rfl rfl (RD.len_slice Tryz.runUnderlying162 rfl) rfl ?_
        refine TE_q rfl rfl (RD.lss rfl rfl) rfl ?_
        refine TE_nil0 ?_
        first | refine pn_condD rfl (fun hc5 => ?_) (fun hc5 => ?_) | refine pn_condN rfl (fun hc5 => ?_) (fun hc5 => ?_) | refine pn_cond rfl (fun hc5 => ?_) (fun hc5 => ?_)
        · refine pn_skip ?_
          refine pn_seq ?_
          refine pn_block ?_
          refine pn_seq ?_
          refine pn_plain [] rfl ?_
          refine TE_q rfl rfl (RD.move rfl) rfl ?_
          have hlt : i < (partsOf s).length := (by omega); obtain ⟨h0, hdot⟩ := dot_iff (hE' i hlt)
          refine TE_q rfl rfl (RD.move rfl) rfl ?_
          refine TE_q rfl rfl (RD.indexAddrS Tryz.runUnderlying162 Tryz.sizeOf9 rfl rfl (by omega) (by omega)) rfl ?_
          refine TE_l rfl rfl trivial rfl (RD.load (i := 0) Tryz.isAgg9 rfl rfl (strs_get hlt)) rfl ?_
          refine TE_q rfl rfl (RD.indexStr (i := 0) Tryz.underlying9 rfl rfl rfl (List.getElem?_eq_getElem h0)) rfl ?_
          refine TE_q rfl rfl (RD.eql rfl rfl) rfl ?_
          refine TE_nil0 ?_
          first | refine pn_condD rfl (fun hc6 => ?_) (fun hc6 => ?_) | refine pn_condN rfl (fun hc6 => ?_) (fun hc6 => ?_) | refine pn_cond rfl (fun hc6 => ?_) (fun hc6 => ?_)
          · refine pn_seq ?_
            refine pn_plain [] rfl ?_
            refine TE_q rfl rfl (RD.assign rfl) rfl ?_
            refine TE_nil0 ?_
            refine pn_ret ?_
            exact pn_done rfl rfl ⟨by rw [bk4 hL hB hE (pPart_T hlt (by rw [hdot, decide_eq_true hc6]))]; rfl, rfl⟩ (List.nil_sublist _) (by simp)
          · refine pn_skip ?_
            refine pn_plain [] rfl ?_
            refine TE_q rfl rfl (RD.move rfl) rfl ?_
            refine TE_q rfl rfl (RD.addI rfl rfl (by omega) (by omega)) rfl ?_
            refine TE_q rfl rfl (RD.assign rfl) rfl ?_
            refine TE_nil0 ?_
            (exact pn_again (i + 1) ⟨by omega, fun j hj h => by rcases Nat.lt_succ_iff_lt_or_eq.1 h with h | rfl; exact hno j hj h; exact (by rw [hdot, decide_eq_false hc6])⟩ (by show (partsOf s).length - (i + 1) < (partsOf s).length - i; omega) ⟨rfl, rfl, rfl, trivial⟩ (List.Sublist.refl _))
        · refine pn_exit ?_
          refine pn_seq ?_
          refine pn_seq ?_
          refine pn_plain [] rfl ?_
          refine TE_q rfl rfl (RD.assign rfl) rfl ?_
          have hD : pPart pDot s = false := pPart_F (fun j hj => hno j hj (by omega))
          refine TE_nil0 ?_
          refine pn_block ?_
          refine pn_loop (σ := Nat) (fun i => [(8, .int .i64 (i : Int)), (5, .slice (some ⟨bq, 0, none⟩) (partsOf s).length cap), (0, .string s)]) (fun _ => [(bq, .cells ((partsOf s).map Value.string ++ tl).toArray 9 (0, 0))]) (fun i => i ≤ s.size ∧ 1 ≤ i ∧ ∀ j, 1 ≤ j → j < i → ¬ (s.data.toList[j]? = some 46 ∧ s.data.toList[j - 1]? = some 46)) (fun i => s.size - i) 1 ⟨by omega, Nat.le_refl _, fun j h1 h => absurd h (by omega)⟩ ⟨rfl, rfl, rfl, trivial⟩ (List.Sublist.refl _) ?_
          rintro i ⟨hi, hi1, hno⟩
          refine pn_seq ?_
          refine pn_seq ?_
          refine pn_plain [2] rfl ?_
          refine TE_q rfl rfl (RD.move rfl) rfl ?_
          refine TE_q rfl rfl (RD.move rfl) rfl ?_
          refine TE_q rfl rfl (RD.len_string Tryz.runUnderlying9 rfl) rfl ?_
          refine TE_q rfl rfl (RD.lss rfl rfl) rfl ?_
          refine TE_nil0 ?_
          first | refine pn_condD rfl (fun hc7 => ?_) (fun hc7 => ?_) | refine pn_condN rfl (fun hc7 => ?_) (fun hc7 => ?_) | refine pn_cond rfl (fun hc7 => ?_) (fun hc7 => ?_)
          · refine pn_skip ?_
            refine pn_seq ?_
            refine pn_block ?_
            refine pn_seq ?_
            refine pn_cut (σ := Unit) (fun _ => [(73, .bool (decide (s.data.toList[i]? = some 46 ∧ s.data.toList[i - 1]? = some 46))), (8, .int .i64 (i : Int)), (5, .slice (some ⟨bq, 0, none⟩) (partsOf s).length cap), (0, .string s)]) (fun _ => [(bq, .cells ((partsOf s).map Value.string ++ tl).toArray 9 (0, 0))]) (fun _ => True) ?_ ?_
            · refine pn_plain [] rfl ?_
              refine TE_q rfl rfl (RD.move rfl) rfl ?_
              have hlt : i < s.data.toList.length := (by omega)
              refine TE_q rfl rfl (RD.move rfl) rfl ?_
              refine TE_q rfl rfl (RD.indexStr (i := i) Tryz.underlying9 rfl rfl rfl (List.getElem?_eq_getElem hlt)) rfl ?_
              refine TE_q rfl rfl (RD.eql rfl rfl) rfl ?_
              refine TE_q rfl rfl (RD.move rfl) rfl ?_
              (first | refine TE_isT ?_ | refine TE_isF ?_ | refine TE_dec (fun h2304 => ?_) (fun h2304 => ?_) | refine TE_ndec (fun h2304 => ?_) (fun h2304 => ?_) | refine TE_bool (fun h2304 => ?_) (fun h2304 => ?_))
              all_goals (first | (refine TE_s rfl rfl rfl rfl rfl ?_) | (refine TE_gq rfl rfl rfl rfl (RD.move rfl) rfl ?_))
              all_goals (first | (refine TE_s rfl rfl rfl rfl rfl ?_) | (refine TE_gq rfl rfl rfl rfl (RD.move rfl) rfl ?_))
              all_goals (first | (refine TE_s rfl rfl rfl rfl rfl ?_) | (refine TE_gq rfl rfl rfl rfl (RD.subI rfl rfl (by omega) (by omega)) rfl ?_))
              all_goals (first | (refine TE_s rfl rfl rfl rfl rfl ?_) | (refine TE_gq rfl rfl rfl rfl (RD.indexStr (i := i - 1) Tryz.underlying9 rfl rfl (by omega) (List.getElem?_eq_getElem (by omega))) rfl ?_))
              all_goals (first | (refine TE_s rfl rfl rfl rfl rfl ?_) | (refine TE_gq rfl rfl rfl rfl (RD.eql rfl rfl) rfl ?_))
              all_goals (first | (refine TE_q rfl rfl (RD.pickT rfl rfl) rfl ?_) | (refine TE_q rfl rfl (RD.pickF rfl rfl) rfl ?_))
              all_goals refine TE_nil0 ?_
              all_goals (first | (have hF : ¬ (s.data.toList[i]? = some 46 ∧ s.data.toList[i - 1]? = some 46) := (fun h => absurd ((byte_is (n := 46) hlt (by decide)).1 h.1) (by assumption)); exact pn_give () trivial ⟨by rw [decide_eq_false hF]; rfl, rfl, rfl, rfl, trivial⟩ (fun w h => h)) | (have hF : (s.data.toList[i]? = some 46 ∧ s.data.toList[i - 1]? = some 46) ↔ ((s.data.toList[i - 1]).toNat : Int) = 46 := ⟨fun h => (byte_is (n := 46) (by omega) (by decide)).1 h.2, fun h => ⟨(byte_is (n := 46) hlt (by decide)).2 (by assumption), (byte_is (n := 46) (by omega) (by decide)).2 h⟩⟩; exact pn_give () trivial ⟨by rw [decide_eq_decide.2 hF]; rfl, rfl, rfl, rfl, trivial⟩ (fun w h => h)))
            rintro - -
            first | refine pn_condD rfl (fun hc8 => ?_) (fun hc8 => ?_) | refine pn_condN rfl (fun hc8 => ?_) (fun hc8 => ?_) | refine pn_cond rfl (fun hc8 => ?_) (fun hc8 => ?_)
            · refine pn_seq ?_
              refine pn_plain [] rfl ?_
              refine TE_q rfl rfl (RD.assign rfl) rfl ?_
              refine TE_nil0 ?_
              refine pn_ret ?_
              exact pn_done rfl rfl ⟨by rw [bk5 hL hB hE hD (has_T hi1 hc8)]; rfl, rfl⟩ (List.nil_sublist _) (by simp)
            · refine pn_skip ?_
              refine pn_plain [] rfl ?_
              refine TE_q rfl rfl (RD.move rfl) rfl ?_
              refine TE_q rfl rfl (RD.addI rfl rfl (by omega) (by omega)) rfl ?_
              refine TE_q rfl rfl (RD.assign rfl) rfl ?_
              refine TE_nil0 ?_
              (exact pn_again (i + 1) ⟨by omega, by omega, fun j h1 h => by rcases Nat.lt_succ_iff_lt_or_eq.1 h with h | rfl; exact hno j h1 h; exact hc8⟩ (by show s.size - (i + 1) < s.size - i; omega) ⟨rfl, rfl, rfl, trivial⟩ (List.Sublist.refl _))
          · refine pn_exit ?_
            refine pn_seq ?_
            refine pn_seq ?_
            refine pn_plain [] rfl ?_
            refine TE_q rfl rfl (RD.assign rfl) rfl ?_
            have hH : pHas ⟨#[46, 46]⟩ s = false := has_F (fun j h1 h2 => hno j h1 (by omega))
            refine TE_nil0 ?_
            refine pn_block ?_
            refine pn_loop (σ := Nat) (fun i => [(9, .int .i64 (i : Int)), (5, .slice (some ⟨bq, 0, none⟩) (partsOf s).length cap), (0, .string s)]) (fun _ => [(bq, .cells ((partsOf s).map Value.string ++ tl).toArray 9 (0, 0))]) (fun i => i ≤ (partsOf s).length ∧ ∀ j (hj : j < (partsOf s).length), j < i → pLock ((partsOf s)[j]) = false) (fun i => (partsOf s).length - i) 0 ⟨Nat.zero_le _, fun j hj h => absurd h (by omega)⟩ ⟨rfl, rfl, rfl, trivial⟩ (List.Sublist.refl _) ?_
            rintro i ⟨hi, hno⟩
            refine pn_seq ?_
            refine pn_seq ?_
            refine pn_plain [2] rfl ?_
            refine TE_q rfl rfl (RD.move rfl) rfl ?_
            refine TE_q rfl rfl (RD.move rfl) rfl ?_
            refine TE_q rfl rfl (RD.len_slice Tryz.runUnderlying162 rfl) rfl ?_
            refine TE_q rfl rfl (RD.lss rfl rfl) rfl ?_
            refine TE_nil0 ?_
            first | refine pn_condD rfl (fun hc9 => ?_) (fun hc9 => ?_) | refine pn_condN rfl (fun hc9 => ?_) (fun hc9 => ?_) | refine pn_cond rfl (fun hc9 => ?_) (fun hc9 => ?_)
            · refine pn_skip ?_
              refine pn_seq ?_
              refine pn_block ?_
              refine pn_seq ?_
              refine pn_plain [4] rfl ?_
              refine TE_q rfl rfl (RD.move rfl) rfl ?_
              have hlt : i < (partsOf s).length := (by omega); have hps := partsOf_size (List.getElem_mem hlt)
              refine TE_q rfl rfl (RD.move rfl) rfl ?_
              refine TE_q rfl rfl (RD.indexAddrS Tryz.runUnderlying162 Tryz.sizeOf9 rfl rfl (by omega) (by omega)) rfl ?_
              refine TE_l rfl rfl trivial rfl (RD.load (i := 0) Tryz.isAgg9 rfl rfl (strs_get hlt)) rfl ?_
              refine TE_q rfl rfl (RD.len_string Tryz.runUnderlying9 rfl) rfl ?_
              refine TE_q rfl rfl (RD.assign rfl) rfl ?_
              refine TE_nil0 ?_
              refine pn_seq ?_
              refine pn_cut (σ := Unit) (fun _ => [(96, .bool (decide (5 ≤ (partsOf s)[i].size ∧ (partsOf s)[i].extract ((partsOf s)[i].size - 5) (partsOf s)[i].size = ⟨#[46, 108, 111, 99, 107]⟩))), (9, .int .i64 (i : Int)), (5, .slice (some ⟨bq, 0, none⟩) (partsOf s).length cap), (0, .string s)]) (fun _ => [(bq, .cells ((partsOf s).map Value.string ++ tl).toArray 9 (0, 0))]) (fun _ => True) ?_ ?_
              · refine pn_plain [] rfl ?_
                refine TE_q rfl rfl (RD.move rfl) rfl ?_
                refine TE_q rfl rfl (RD.geq rfl rfl) rfl ?_
                refine TE_q rfl rfl (RD.move rfl) rfl ?_
                (first | refine TE_isT ?_ | refine TE_isF ?_ | refine TE_dec (fun h2902 => ?_) (fun h2902 => ?_) | refine TE_ndec (fun h2902 => ?_) (fun h2902 => ?_) | refine TE_bool (fun h2902 => ?_) (fun h2902 => ?_))
                all_goals (first | (refine TE_s rfl rfl rfl rfl rfl ?_) | (refine TE_gq rfl rfl rfl rfl (RD.move rfl) rfl ?_))
                all_goals (first | (refine TE_s rfl rfl rfl rfl rfl ?_) | (refine TE_gq rfl rfl rfl rfl (RD.move rfl) rfl ?_))
                all_goals (first | (refine TE_s rfl rfl rfl rfl rfl ?_) | (refine TE_gq rfl rfl rfl rfl (RD.indexAddrS Tryz.runUnderlying162 Tryz.sizeOf9 rfl rfl (by omega) (by omega)) rfl ?_))
                all_goals (first | (refine TE_s rfl rfl rfl rfl rfl ?_) | (refine TE_l rfl rfl ⟨_, rfl, rfl⟩ rfl (RD.load (i := 0) Tryz.isAgg9 rfl rfl (strs_get hlt)) rfl ?_))
                all_goals (first | (refine TE_s rfl rfl rfl rfl rfl ?_) | (refine TE_gq rfl rfl rfl rfl (RD.move rfl) rfl ?_))
                all_goals (first | (refine TE_s rfl rfl rfl rfl rfl ?_) | (refine TE_gq rfl rfl rfl rfl (RD.as (v := .int .i64 (((partsOf s)[i].size - 5 : Nat) : Int)) (RD.subI rfl rfl (by omega) (by omega)) (by congr 1; omega)) rfl ?_))
                all_goals (first | (refine TE_s rfl rfl rfl rfl rfl ?_) | (refine TE_gq rfl rfl rfl rfl (RD.sliceStr Tryz.underlying9 rfl ⟨_, rfl⟩ rfl (by omega) (Nat.le_refl _)) rfl ?_))
                all_goals (first | (refine TE_s rfl rfl rfl rfl rfl ?_) | (refine TE_gq rfl rfl rfl rfl (RD.eql_string rfl rfl) rfl ?_))
                all_goals (first | (refine TE_q rfl rfl (RD.pickT rfl rfl) rfl ?_) | (refine TE_q rfl rfl (RD.pickF rfl rfl) rfl ?_))
                all_goals refine TE_nil0 ?_
                all_goals (first | (have hF : ¬ (5 ≤ (partsOf s)[i].size ∧ (partsOf s)[i].extract ((partsOf s)[i].size - 5) (partsOf s)[i].size = ⟨#[46, 108, 111, 99, 107]⟩) := (fun h => by have := h.1; omega); exact pn_give () trivial ⟨by rw [decide_eq_false hF]; rfl, rfl, rfl, rfl, trivial⟩ (fun w h => h)) | (have hF : (5 ≤ (partsOf s)[i].size ∧ (partsOf s)[i].extract ((partsOf s)[i].size - 5) (partsOf s)[i].size = ⟨#[46, 108, 111, 99, 107]⟩) ↔ (partsOf s)[i].extract ((partsOf s)[i].size - 5) (partsOf s)[i].size = ⟨#[46, 108, 111, 99, 107]⟩ := ⟨fun h => h.2, fun h => ⟨by omega, h⟩⟩; exact pn_give () trivial ⟨by rw [decide_eq_decide.2 hF]; rfl, rfl, rfl, rfl, trivial⟩ (fun w h => h)))
              rintro - -
              first | refine pn_condD rfl (fun hc10 => ?_) (fun hc10 => ?_) | refine pn_condN rfl (fun hc10 => ?_) (fun hc10 => ?_) | refine pn_cond rfl (fun hc10 => ?_) (fun hc10 => ?_)
              · refine pn_seq ?_
                refine pn_plain [] rfl ?_
                refine TE_q rfl rfl (RD.assign rfl) rfl ?_
                refine TE_nil0 ?_
                refine pn_ret ?_
                exact pn_done rfl rfl ⟨by rw [bk6 hL hB hE hD hH (pPart_T hlt (by rw [lock_iff, decide_eq_true hc10]))]; rfl, rfl⟩ (List.nil_sublist _) (by simp)
              · refine pn_skip ?_
                refine pn_plain [] rfl ?_
                refine TE_q rfl rfl (RD.move rfl) rfl ?_
                refine TE_q rfl rfl (RD.addI rfl rfl (by omega) (by omega)) rfl ?_
                refine TE_q rfl rfl (RD.assign rfl) rfl ?_
                refine TE_nil0 ?_
                (exact pn_again (i + 1) ⟨by omega, fun j hj h => by rcases Nat.lt_succ_iff_lt_or_eq.1 h with h | rfl; exact hno j hj h; exact (by rw [lock_iff, decide_eq_false hc10])⟩ (by show (partsOf s).length - (i + 1) < (partsOf s).length - i; omega) ⟨rfl, rfl, rfl, trivial⟩ (List.Sublist.refl _))
            · refine pn_exit ?_
              refine pn_seq ?_
              refine pn_seq ?_
              refine pn_plain [2] rfl ?_
              refine TE_q rfl rfl (RD.move rfl) rfl ?_
              have hK : pPart pLock s = false := pPart_F (fun j hj => hno j hj (by omega)); obtain ⟨hlt, hend⟩ := end_iff hL
              refine TE_q rfl rfl (RD.move rfl) rfl ?_
              refine TE_q rfl rfl (RD.len_string Tryz.runUnderlying9 rfl) rfl ?_
              refine TE_q rfl rfl (RD.subI rfl rfl (by omega) (by omega)) rfl ?_
              refine TE_q rfl rfl (RD.indexStr (i := s.size - 1) Tryz.underlying9 rfl rfl (by rw [long_iff, decide_eq_false_iff_not] at hL; omega) (List.getElem?_eq_getElem hlt)) rfl ?_
              refine TE_q rfl rfl (RD.eql rfl rfl) rfl ?_
              refine TE_nil0 ?_
              first | refine pn_condD rfl (fun hc11 => ?_) (fun hc11 => ?_) | refine pn_condN rfl (fun hc11 => ?_) (fun hc11 => ?_) | refine pn_cond rfl (fun hc11 => ?_) (fun hc11 => ?_)
              · refine pn_seq ?_
                refine pn_plain [] rfl ?_
                refine TE_q rfl rfl (RD.assign rfl) rfl ?_
                refine TE_nil0 ?_
                refine pn_ret ?_
                exact pn_done rfl rfl ⟨by rw [bk7 hL hB hE hD hH hK (by rw [hend, decide_eq_true hc11])]; rfl, rfl⟩ (List.nil_sublist _) (by simp)
              · refine pn_skip ?_
                refine pn_seq ?_
                refine pn_seq ?_
                refine pn_plain [] rfl ?_
                refine TE_q rfl rfl (RD.assign rfl) rfl ?_
                have hEn : pEnd s = false := (by rw [hend, decide_eq_false hc11])
                refine TE_nil0 ?_
                refine pn_block ?_
                refine pn_loop (σ := Nat) (fun i => [(11, .int .i64 (i : Int)), (5, .slice (some ⟨bq, 0, none⟩) (partsOf s).length cap), (0, .string s)]) (fun _ => [(bq, .cells ((partsOf s).map Value.string ++ tl).toArray 9 (0, 0))]) (fun i => i ≤ s.size ∧ 1 ≤ i ∧ ∀ j, 1 ≤ j → j < i → ¬ (s.data.toList[j]? = some 123 ∧ s.data.toList[j - 1]? = some 64)) (fun i => s.size - i) 1 ⟨by omega, Nat.le_refl _, fun j h1 h => absurd h (by omega)⟩ ⟨rfl, rfl, rfl, trivial⟩ (List.Sublist.refl _) ?_
                rintro i ⟨hi, hi1, hno⟩
                refine pn_seq ?_
                refine pn_seq ?_
                refine pn_plain [2] rfl ?_
                refine TE_q rfl rfl (RD.move rfl) rfl ?_
                refine TE_q rfl rfl (RD.move rfl) rfl ?_
                refine TE_q rfl rfl (RD.len_string Tryz.runUnderlying9 rfl) rfl ?_
                refine TE_q rfl rfl (RD.lss rfl rfl) rfl ?_
                refine TE_nil0 ?_
                first | refine pn_condD rfl (fun hc12 => ?_) (fun hc12 => ?_) | refine pn_condN rfl (fun hc12 => ?_) (fun hc12 => ?_) | refine pn_cond rfl (fun hc12 => ?_) (fun hc12 => ?_)
                · refine pn_skip ?_
                  refine pn_seq ?_
                  refine pn_block ?_
                  refine pn_seq ?_
                  refine pn_cut (σ := Unit) (fun _ => [(119, .bool (decide (s.data.toList[i]? = some 123 ∧ s.data.toList[i - 1]? = some 64))), (11, .int .i64 (i : Int)), (5, .slice (some ⟨bq, 0, none⟩) (partsOf s).length cap), (0, .string s)]) (fun _ => [(bq, .cells ((partsOf s).map Value.string ++ tl).toArray 9 (0, 0))]) (fun _ => True) ?_ ?_
                  · refine pn_plain [] rfl ?_
                    refine TE_q rfl rfl (RD.move rfl) rfl ?_
                    have hlt : i < s.data.toList.length := (by omega)
                    refine TE_q rfl rfl (RD.move rfl) rfl ?_
                    refine TE_q rfl rfl (RD.indexStr (i := i) Tryz.underlying9 rfl rfl rfl (List.getElem?_eq_getElem hlt)) rfl ?_
                    refine TE_q rfl rfl (RD.eql rfl rfl) rfl ?_
                    refine TE_q rfl rfl (RD.move rfl) rfl ?_
                    (first | refine TE_isT ?_ | refine TE_isF ?_ | refine TE_dec (fun h3604 => ?_) (fun h3604 => ?_) | refine TE_ndec (fun h3604 => ?_) (fun h3604 => ?_) | refine TE_bool (fun h3604 => ?_) (fun h3604 => ?_))
                    all_goals (first | (refine TE_s rfl rfl rfl rfl rfl ?_) | (refine TE_gq rfl rfl rfl rfl (RD.move rfl) rfl ?_))
                    all_goals (first | (refine TE_s rfl rfl rfl rfl rfl ?_) | (refine TE_gq rfl rfl rfl rfl (RD.move rfl) rfl ?_))
                    all_goals (first | (refine TE_s rfl rfl rfl rfl rfl ?_) | (refine TE_gq rfl rfl rfl rfl (RD.subI rfl rfl (by omega) (by omega)) rfl ?_))
                    all_goals (first | (refine TE_s rfl rfl rfl rfl rfl ?_) | (refine TE_gq rfl rfl rfl rfl (RD.indexStr (i := i - 1) Tryz.underlying9 rfl rfl (by omega) (List.getElem?_eq_getElem (by omega))) rfl ?_))
                    all_goals (first | (refine TE_s rfl rfl rfl rfl rfl ?_) | (refine TE_gq rfl rfl rfl rfl (RD.eql rfl rfl) rfl ?_))
                    all_goals (first | (refine TE_q rfl rfl (RD.pickT rfl rfl) rfl ?_) | (refine TE_q rfl rfl (RD.pickF rfl rfl) rfl ?_))
                    all_goals refine TE_nil0 ?_
                    all_goals (first | (have hF : ¬ (s.data.toList[i]? = some 123 ∧ s.data.toList[i - 1]? = some 64) := (fun h => absurd ((byte_is (n := 123) hlt (by decide)).1 h.1) (by assumption)); exact pn_give () trivial ⟨by rw [decide_eq_false hF]; rfl, rfl, rfl, rfl, trivial⟩ (fun w h => h)) | (have hF : (s.data.toList[i]? = some 123 ∧ s.data.toList[i - 1]? = some 64) ↔ ((s.data.toList[i - 1]).toNat : Int) = 64 := ⟨fun h => (byte_is (n := 64) (by omega) (by decide)).1 h.2, fun h => ⟨(byte_is (n := 123) hlt (by decide)).2 (by assumption), (byte_is (n := 64) (by omega) (by decide)).2 h⟩⟩; exact pn_give () trivial ⟨by rw [decide_eq_decide.2 hF]; rfl, rfl, rfl, rfl, trivial⟩ (fun w h => h)))
                  rintro - -
                  first | refine pn_condD rfl (fun hc13 => ?_) (fun hc13 => ?_) | refine pn_condN rfl (fun hc13 => ?_) (fun hc13 => ?_) | refine pn_cond rfl (fun hc13 => ?_) (fun hc13 => ?_)
                  · refine pn_seq ?_
                    refine pn_plain [] rfl ?_
                    refine TE_q rfl rfl (RD.assign rfl) rfl ?_
                    refine TE_nil0 ?_
                    refine pn_ret ?_
                    exact pn_done rfl rfl ⟨by rw [bk8 hL hB hE hD hH hK hEn (has_T hi1 hc13)]; rfl, rfl⟩ (List.nil_sublist _) (by simp)
                  · refine pn_skip ?_
                    refine pn_plain [] rfl ?_
                    refine TE_q rfl rfl (RD.move rfl) rfl ?_
                    refine TE_q rfl rfl (RD.addI rfl rfl (by omega) (by omega)) rfl ?_
                    refine TE_q rfl rfl (RD.assign rfl) rfl ?_
                    refine TE_nil0 ?_
                    (exact pn_again (i + 1) ⟨by omega, by omega, fun j h1 h => by rcases Nat.lt_succ_iff_lt_or_eq.1 h with h | rfl; exact hno j h1 h; exact hc13⟩ (by show s.size - (i + 1) < s.size - i; omega) ⟨rfl, rfl, rfl, trivial⟩ (List.Sublist.refl _))
                · refine pn_exit ?_
                  refine pn_seq ?_
                  refine pn_plain [] rfl ?_
                  refine TE_q rfl rfl (RD.assign rfl) rfl ?_
                  have hA : pHas ⟨#[64, 123]⟩ s = false := has_F (fun j h1 h2 => hno j h1 (by omega))
                  refine TE_nil0 ?_
                  refine pn_ret ?_
                  exact pn_done rfl rfl ⟨by rw [bk0 hL hB hE hD hH hK hEn hA]; rfl, rfl⟩ (List.nil_sublist _) (by simp)

theorem c_r4Check (s : ByteArray) (w : World) : Calls Tryz.prog 80 #[.string s] w (Ret w [] fun v H1 => v = .int .i64 (err (decide (breaksN s = 0)) 40) ∧ H1 = []) := by
  have hb0 := breaks_ge s
  refine fn_enter (args := [_]) Tryz.func80 rfl Tryz.ntmps80 rfl (Hp.nil w) ?_
  refine pn_seq ?_
  refine pn_plain [] rfl ?_
  refine TE_q rfl rfl (RD.assign rfl) rfl ?_
  refine TE_nil0 ?_
  refine pn_seq ?_
  refine pn_seq ?_
  refine pn_plain [] rfl ?_
  refine TE_q rfl rfl (RD.move rfl) rfl ?_
  refine TE_call rfl rfl trivial Tryz.call100 rfl rfl rfl (fun w hs' => c_r4Breaks s w) ?_
  rintro v4 H1 ⟨rfl, rfl⟩ -
  refine TE_q rfl rfl (RD.gtr rfl rfl) rfl ?_
  refine TE_nil0 ?_
  first | refine pn_condD rfl (fun hc0 => ?_) (fun hc0 => ?_) | refine pn_condN rfl (fun hc0 => ?_) (fun hc0 => ?_) | refine pn_cond rfl (fun hc0 => ?_) (fun hc0 => ?_)
  · refine pn_seq ?_
    refine pn_plain [] rfl ?_
    refine TE_q rfl rfl (RD.assign rfl) rfl ?_
    refine TE_nil0 ?_
    refine pn_ret ?_
    exact pn_done rfl rfl ⟨by rw [decide_eq_false (by omega : ¬ breaksN s = 0)]; rfl, rfl⟩ (List.nil_sublist _) (by simp)
  · refine pn_skip ?_
    refine pn_seq ?_
    refine pn_plain [] rfl ?_
    refine TE_q rfl rfl (RD.assign rfl) rfl ?_
    refine TE_nil0 ?_
    refine pn_ret ?_
    exact pn_done rfl rfl ⟨by rw [decide_eq_true (by omega : breaksN s = 0)]; rfl, rfl⟩ (List.nil_sublist _) (by simp)

end Go.Proofs.YtiefjfcfijcgmaaGreatDoor
