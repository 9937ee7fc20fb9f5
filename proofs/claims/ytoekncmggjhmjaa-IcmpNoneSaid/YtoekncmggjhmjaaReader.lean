/- The contracts of octet.Reader, where all that is read is there. -/
import Derived.Test.YtoekncmggjhmjaaOctet
import Derived.Test.YtoekncmggjhmjaaBits
import Derived.Test.YtoekncmggjhmjaaSum
namespace Go.Proofs.Ytoekncmggjhmjaa
open Go.RowKit

/-- block g is a reader in front of the bytes xs, which lie in blocks from lo on, below g -/
def Rdr (w : World) (lo g : Nat) (xs : List UInt8) : Prop :=
  ∃ A n c, w.heap[g]? = some (.cells #[.slice A n c, .bool false] 122 (0, 0)) ∧ Rd w lo g A n c xs

/-- nothing but block g, and new blocks, has turned -/
abbrev Chg (g : Nat) (w w' : World) : Prop := w.grownBy w' (some g)

theorem Rdr.lt {w : World} {lo g : Nat} {xs : List UInt8} (h : Rdr w lo g xs) : g < w.heap.size := by
  obtain ⟨A, n, c, h, _⟩ := h
  exact (Array.getElem?_eq_some_iff.1 h).1

theorem Rdr.below {w w' : World} {lo g B : Nat} {xs : List UInt8} (h : Rdr w lo g xs) (hb : Below B w w') (hB : g < B) : Rdr w' lo g xs := by
  obtain ⟨A, n, c, h, r⟩ := h
  exact ⟨A, n, c, by rw [hb.block g hB]; exact h, r.below hb (by omega)⟩

theorem Rdr.alloc {w : World} {lo g : Nat} {xs : List UInt8} (h : Rdr w lo g xs) (o : Obj) : Rdr (w.alloc o) lo g xs := by
  have hl := h.lt
  obtain ⟨A, n, c, h, r⟩ := h
  exact ⟨A, n, c, (Below.heap_alloc w o g hl).trans h, r.alloc (by omega) _⟩
theorem Rdr.setCell {w : World} {lo g : Nat} {xs : List UInt8} (h : Rdr w lo g xs) {p : Addr} (hp : g < p.block) (u : Value) : Rdr (w.setCell p u) lo g xs := by
  obtain ⟨A, n, c, h, r⟩ := h
  exact ⟨A, n, c, (Below.heap_setCell w p u g (by omega)).trans h, r.setCell (by omega) _⟩
theorem Rdr.drewN {w : World} {lo g : Nat} {xs : List UInt8} (h : Rdr w lo g xs) (k : Nat) : Rdr (w.drewN k) lo g xs := by
  obtain ⟨A, n, c, h, r⟩ := h
  exact ⟨A, n, c, h, r.drewN k⟩

theorem Chg.trans {g : Nat} {a b c : World} (h : Chg g a b) (k : Chg g b c) : Chg g a c :=
  ⟨k.os.trans h.os, k.tape.trans h.tape, k.output.trans h.output, Nat.le_trans h.size k.size, fun i hi hne => (k.block i (Nat.lt_of_lt_of_le hi h.size) hne).trans (h.block i hi hne)⟩
theorem Chg.of_below {g : Nat} {a b : World} (h : Below a.heap.size a b) : Chg g a b := ⟨h.os, h.tape, h.output, h.size, fun i hi _ => h.block i hi⟩
theorem Chg.below {g B : Nat} {a b : World} (h : Chg g a b) (hB : B ≤ g) (hs : B ≤ a.heap.size) : Below B a b :=
  ⟨h.os, h.tape, h.output, h.size, fun i hi => h.block i (by omega) (fun e => by injection e; omega)⟩

set_option maxHeartbeats 400000 in
theorem read_any (A : Option Addr) (n c : Nat) (xs : List UInt8) (lo hi : Nat) (w : World) (h : Rd w lo hi A n c xs) (hhi : hi ≤ w.heap.size) (hn : n ≤ 100000000) :
    Calls Try.prog 69 #[.slice A n c] w fun e w' => ∃ g, e = .returned (.pointer (some ⟨g, 0, none⟩)) ∧ Hid (w.heap.size ≤ g) ∧ Rdr w' w.heap.size g xs ∧ Below w.heap.size w w' := by
  go_enter Try.func69, Try.ntmps69
  go_wp2_with (
    (at_builtin
     refine wpList_appB _ rfl (.tmp 3) (.tmp 4) bt rfl w.heap.size _ 0 0 [] rfl (Own.lit w _ _ #[] [] (Nat.le_refl _) rfl (by simp) rfl rfl) lo hi A n c xs rfl (h.alloc hhi _) (by omega) (by simp) ?_
     intro A1 c1 w1 own1 hg1 hat1
     simp only [Nat.zero_add, List.nil_append] at own1
     have hb1 : Below w.heap.size w w1 := ((Below.refl _ _).alloc (Nat.le_refl _) _).grown hg1 (by simp) (by simp [Value.ownBlock])
     clear hg1 hat1))
  go_ret
  have own2 := Rd.of_own own1
  exact ⟨w1.heap.size, rfl, hb1.size, ⟨A1, n, c1, heap_alloc_new w1 _, own2.alloc (Nat.le_refl _) _⟩, hb1.alloc hb1.size _⟩

/-- what reading k bytes leaves -/
def ReadK (w : World) (lo g k : Nat) (xs : List UInt8) (e : Ending) (w' : World) : Prop :=
  ∃ A c ys zs, e = .returned (.slice A k c) ∧ Own w' w.heap.size 5 A k c ys ∧ Rdr w' lo g zs ∧ Chg g w w' ∧ Hid (ys = xs.take k ∧ zs = xs.drop k ∧ zs.length + k = xs.length)

theorem Rdr.open_ {w : World} {lo g : Nat} {xs : List UInt8} (h : Rdr w lo g xs) : ∃ A n c, w.cell? ⟨g, 0, none⟩ = some (.slice A n c) ∧ w.cell? ⟨g, 1, none⟩ = some (.bool false) ∧
    w.frozen? ⟨g, 0, none⟩ = false ∧ Rd w lo g A n c xs ∧ w.heap[g]? = some (.cells #[.slice A n c, .bool false] 122 (0, 0)) := by
  obtain ⟨A, n, c, h, r⟩ := h
  exact ⟨A, n, c, by simp [World.cell?, h], by simp [World.cell?, h], by simp [World.frozen?, h], r, h⟩

set_option maxHeartbeats 400000 in
theorem bytes_any (k g lo : Nat) (xs : List UInt8) (w : World) (h : Rdr w lo g xs) (hk : k ≤ xs.length) (hn : xs.length ≤ 100000000) :
    Calls Try.prog 73 #[.pointer (some ⟨g, 0, none⟩), .int .i64 (k : Int)] w (ReadK w lo g k xs) := by
  have hlt := h.lt
  obtain ⟨A, n, c, c0, c1, f0, r, hh⟩ := h.open_
  have hcap := r.cap
  have hmax := r.max
  unfold maxLen at hmax
  obtain rfl := r.len
  have HH := Lib.hid hh
  clear hh h
  have hk0 : decide ((k : Int) < 0) = false := by simp
  have hk1 : decide (xs.length < k) = false := by simp; omega
  go_enter Try.func73, Try.ntmps73
  go_wp2_with (first
    | (refine wpList_cut rfl bt (.tmp 26) none (some (.tmp 27)) (some (.tmp 28)) rfl rfl r 0 k k rfl (by exact ⟨_, _, rfl, rfl⟩) (by exact ⟨_, _, rfl, rfl⟩) (by simp) (by omega) (by omega) (by omega) (by omega) ?_
       intro A1 r1
       simp only [Nat.sub_zero, List.drop_zero] at r1)
    | (refine wpList_cut rfl bt (.tmp 34) (some (.tmp 35)) none none rfl rfl r k xs.length c (by exact ⟨_, _, rfl, rfl⟩) rfl rfl (by simp) (by omega) (by omega) (by omega) (by omega) ?_
       intro A2 r2
       simp only [List.take_length] at r2)
    | (at_builtin
       refine wpList_appB _ rfl (.tmp 39) (.tmp 40) bt rfl w.heap.size _ 0 0 [] rfl (Own.lit _ _ _ #[] [] (by simp) rfl (by simp) (by simp) rfl) lo g A1 k k (xs.take k) rfl ((r1.setCell (by simp) _).alloc (by simp; omega) _) (by omega) (by simp) ?_
       intro A3 c3 w3 own3 hg3 hat3
       simp only [Nat.zero_add, List.nil_append] at own3))
  go_ret
  have hgr : Chg g w w3 := by
    refine Chg.trans (b := w.setCell ⟨g, 0, none⟩ (.slice A2 (xs.length - k) (c - k))) ⟨rfl, rfl, rfl, by simp, fun i hi hne => Below.heap_setCell _ _ _ _ (fun e => hne (by rw [e]))⟩ ?_
    refine Chg.of_below ((Below.alloc (Below.refl _ _) (Nat.le_refl _) _).grown hg3 (by simp) (fun j hj => ?_))
    simp [Value.ownBlock] at hj
    simp
    omega
  have hbl : w3.heap[g]? = some (.cells #[.slice A2 (xs.length - k) (c - k), .bool false] 122 (0, 0)) := by
    rw [hg3.block g (by simp; omega) (by simp [Value.ownBlock]; omega), Below.heap_alloc _ _ _ (by simp; exact hlt)]
    simp [World.setCell, Array.getElem?_modify, HH.out]
  refine ⟨A3, c3, _, _, rfl, own3, ⟨A2, _, _, hbl, ?_⟩, hgr, rfl, rfl, by rw [List.length_drop]; omega⟩
  exact (((r2.setCell (by simp) _).alloc (by simp; omega) _).grown hg3 (by simp; omega) (by simp [Value.ownBlock]; omega))

theorem Rdr.len {w : World} {lo g : Nat} {xs : List UInt8} (h : Rdr w lo g xs) : ∃ A n c, w.cell? ⟨g, 0, none⟩ = some (.slice A n c) ∧ n = xs.length := by
  obtain ⟨A, n, c, h1, _, _, r, _⟩ := h.open_
  exact ⟨A, n, c, h1, r.len.symm⟩

theorem left_any (g lo : Nat) (xs : List UInt8) (w : World) (h : Rdr w lo g xs) :
    Calls Try.prog 74 #[.pointer (some ⟨g, 0, none⟩)] w fun e w' => e = .returned (.int .i64 (xs.length : Int)) ∧ w = w' := by
  obtain ⟨A, n, c, h1, rfl⟩ := h.len
  clear h
  go_enter Try.func74, Try.ntmps74
  go_wp2
  go_ret
  exact ⟨rfl, rfl⟩

/-- a number of big end first -/
def beA (v : Nat) (l : List UInt8) : Nat := l.foldl (fun v x => v * 256 + x.toNat) v
theorem beA_step (v : Nat) (l : List UInt8) (j : Nat) (x : UInt8) (hx : l[j]? = some x) : beA v (l.drop j) = beA (v * 256 + x.toNat) (l.drop (j + 1)) := by
  obtain ⟨h1, e1⟩ := List.getElem?_eq_some_iff.1 hx
  rw [List.drop_eq_getElem_cons h1, e1]
  rfl
theorem beA_lt : ∀ (l : List UInt8) (v k : Nat), v < 256 ^ k → beA v l < 256 ^ (k + l.length)
  | [], v, k, h => h
  | x :: l, v, k, h => by
    have hx := u8le x
    have := beA_lt l (v * 256 + x.toNat) (k + 1) (by rw [Nat.pow_succ]; omega)
    simpa [beA, Nat.add_assoc, Nat.add_comm 1] using this

theorem or_u32 (v : Nat) (x : UInt8) (hv : v ≤ 16777215) : bits .or .u32 ((v : Int) * 256) (x.toNat : Int) = ((v * 256 + x.toNat : Nat) : Int) := by
  have hx := u8le x
  have := u32_or_nat (v * 256) x.toNat (by omega) (by omega)
  rw [nat_join 8 (v * 256) x.toNat (by omega) (by omega)] at this
  simpa using this

/-- what reading a number leaves -/
def ReadN (w : World) (lo g k M : Nat) (xs : List UInt8) (kd : IntKind) (e : Ending) (w' : World) : Prop :=
  ∃ (v : Nat) (ys : List UInt8), e = .returned (.int kd (v : Int)) ∧ v ≤ M ∧ Rdr w' lo g ys ∧ Chg g w w' ∧ Hid (v = beA 0 (xs.take k) ∧ ys = xs.drop k ∧ ys.length + k = xs.length)

theorem beA_bd (xs : List UInt8) (k : Nat) : beA 0 (xs.take k) < 256 ^ k := by
  have := beA_lt (xs.take k) 0 0 (by omega)
  have h2 : (xs.take k).length ≤ k := by rw [List.length_take]; omega
  have h3 : 256 ^ (0 + (xs.take k).length) ≤ 256 ^ k := Nat.pow_le_pow_right (by omega) (by omega)
  omega

theorem beA_take (xs : List UInt8) (k : Nat) (hk : k ≤ 4) : beA 0 (xs.take k) ≤ 4294967295 := by
  have := beA_lt (xs.take k) 0 0 (by omega)
  have h2 : (xs.take k).length ≤ 4 := by rw [List.length_take]; omega
  have h3 : 256 ^ (0 + (xs.take k).length) ≤ 256 ^ 4 := Nat.pow_le_pow_right (by omega) (by omega)
  omega

set_option maxHeartbeats 400000 in
theorem number_any (k g lo : Nat) (xs : List UInt8) (w : World) (h : Rdr w lo g xs) (hk : k ≤ xs.length) (hn : xs.length ≤ 100000000) (hk4 : k ≤ 4) :
    Calls Try.prog 101 #[.pointer (some ⟨g, 0, none⟩), .int .i64 (k : Int)] w (ReadN w lo g k 4294967295 xs .u32) := by
  go_enter Try.func101, Try.ntmps101
  go_wp2_with fail
  refine (bytes_any k g lo xs w h hk hn).mono ?_
  rintro e w1 ⟨A1, c1, ys, zs, rfl, own1, rd1, ch1, HZ⟩
  have r1 := Rd.of_own own1
  have hys := HZ.out.1
  obtain rfl := HZ.out.2.1
  have hyl : ys.length = k := by rw [hys, List.length_take]; omega
  have hat := Lib.hid r1.at_
  have HY := Lib.hid hys
  have HL := Lib.hid hyl
  clear hys hyl r1 own1 h HZ
  go_wp2_with fail
  go_loop [5, 12] (fun v i => ∃ (j vv : Nat), j ≤ k ∧ vv < 256 ^ j ∧ i = .int .i64 (j : Int) ∧ v = .int .u32 (vv : Int) ∧ Hid (beA vv (ys.drop j) = beA 0 ys)) (fun _ i => k - (intOf i).toNat)
  case atStart => exact ⟨0, 0, by omega, by omega, rfl, rfl, rfl⟩
  case round =>
    obtain ⟨j, vv, hj, hvv, rfl, rfl, HB⟩ := hrel
    by_cases hlt : j < k
    · obtain ⟨g1, o, rfl, _, _, hc⟩ := hat.out (by omega)
      obtain ⟨x, hx⟩ : ∃ x, ys[j]? = some x := ⟨_, List.getElem?_eq_getElem (by have := HL.out; omega)⟩
      have cx := hc _ _ hx
      clear hc
      unfold bv at cx
      have hx8 := u8le x
      have hv3 : vv ≤ 16777215 := by
        have : 256 ^ j ≤ 256 ^ 3 := Nat.pow_le_pow_right (by omega) (by omega)
        omega
      have hpow : vv * 256 + x.toNat < 256 ^ (j + 1) := by rw [Nat.pow_succ]; omega
      have HP := Lib.hid hpow
      have hor := or_u32 vv x hv3
      have hst := beA_step vv ys j x hx
      have HS := Lib.hid hst
      clear hst hx hvv hpow
      go_wp2
      go_round
      case rel => exact ⟨j + 1, vv * 256 + x.toNat, by omega, HP.out, by go_num, rfl, by unfold Hid; rw [← HS.out]; exact HB.out⟩
      case measure => simp [intOf]; omega
    · have hfin : vv = beA 0 ys := by rw [← HB.out, List.drop_of_length_le (by have := HL.out; omega)]; rfl
      rw [HY.out] at hfin
      have HF := Lib.hid hfin
      clear hfin HB hat HY HL hvv
      go_wp2
      go_ret
      exact ⟨vv, _, rfl, by rw [HF.out]; exact beA_take xs k hk4, rd1, ch1, HF.out, rfl, by rw [List.length_drop]; omega⟩

theorem ru8_any (g lo : Nat) (xs : List UInt8) (w : World) (h : Rdr w lo g xs) (hk : 1 ≤ xs.length) (hn : xs.length ≤ 100000000) :
    Calls Try.prog 70 #[.pointer (some ⟨g, 0, none⟩)] w (ReadN w lo g 1 255 xs .i64) := by
  go_enter Try.func70, Try.ntmps70
  go_wp2_with fail
  refine (number_any 1 g lo xs w h hk hn (by omega)).mono ?_
  rintro e w1 ⟨v, ys, rfl, hv, rd1, ch1, HV⟩
  go_wp2_with fail
  go_ret
  have hb := beA_bd xs 1
  exact ⟨v, ys, rfl, by have := HV.out.1; omega, rd1, ch1, HV⟩

theorem ru16_any (g lo : Nat) (xs : List UInt8) (w : World) (h : Rdr w lo g xs) (hk : 2 ≤ xs.length) (hn : xs.length ≤ 100000000) :
    Calls Try.prog 71 #[.pointer (some ⟨g, 0, none⟩)] w (ReadN w lo g 2 65535 xs .i64) := by
  go_enter Try.func71, Try.ntmps71
  go_wp2_with fail
  refine (number_any 2 g lo xs w h hk hn (by omega)).mono ?_
  rintro e w1 ⟨v, ys, rfl, hv, rd1, ch1, HV⟩
  go_wp2_with fail
  go_ret
  have hb := beA_bd xs 2
  exact ⟨v, ys, rfl, by have := HV.out.1; omega, rd1, ch1, HV⟩

theorem ru32_any (g lo : Nat) (xs : List UInt8) (w : World) (h : Rdr w lo g xs) (hk : 4 ≤ xs.length) (hn : xs.length ≤ 100000000) :
    Calls Try.prog 72 #[.pointer (some ⟨g, 0, none⟩)] w (ReadN w lo g 4 4294967295 xs .u32) := by
  go_enter Try.func72, Try.ntmps72
  go_wp2_with fail
  refine (number_any 4 g lo xs w h hk hn (by omega)).mono ?_
  rintro e w1 ⟨v, ys, rfl, hv, rd1, ch1, HV⟩
  go_wp2_with fail
  go_ret
  have hb := beA_bd xs 4
  exact ⟨v, ys, rfl, by have := HV.out.1; omega, rd1, ch1, HV⟩
end Go.Proofs.Ytoekncmggjhmjaa
