/- Datagrams written and read: known to the engine, wherever their bytes lie. -/
import Derived.Test.YtecmagdefllihaaUgRun
import Derived.Test.YtecmagdefllihaaFr
import Derived.Test.YtecmagdefllihaaPv
namespace Go.Proofs.Ytecmagdefllihaa
open Go.RowKit

def pkA (tos id flags part ttl proto f0 f1 f2 f3 t0 t1 t2 t3 : Int) (o b : AV) : AV :=
  .agg [.val (.int .i64 tos), .val (.int .i64 id), .val (.int .i64 flags), .val (.int .i64 part), .val (.int .i64 ttl), .val (.int .i64 proto), .val (.int .u8 f0), .val (.int .u8 f1), .val (.int .u8 f2), .val (.int .u8 f3), .val (.int .u8 t0), .val (.int .u8 t1), .val (.int .u8 t2), .val (.int .u8 t3), o, b]
def u8o (z : Int) : UInt8 := UInt8.ofNat (Int.toNat z)
/-- what a sum goes over, ahead -/
def psd (proto f0 f1 f2 f3 t0 t1 t2 t3 n : Int) (l : List UInt8) : List UInt8 :=
  u8o f0 :: u8o f1 :: u8o f2 :: u8o f3 :: u8o t0 :: u8o t1 :: u8o t2 :: u8o t3 :: 0 :: lo8 proto :: lo8 (n / 256) :: lo8 n :: l
def orAll (s : Nat) : Nat := if s = 0 then 65535 else s
/-- a datagram's bytes -/
def udpP (f0 f1 f2 f3 t0 t1 t2 t3 fr tp : Int) (db : List UInt8) : List UInt8 :=
  let s := orAll (ofL (psd 17 f0 f1 f2 f3 t0 t1 t2 t3 (8 + (db.length : Int)) (udpH fr tp db 0 0)))
  udpH fr tp db (lo8 ((s : Int) / 256)) (lo8 s)
def byteP (l : List Int) : Prop := ∀ z ∈ l, 0 ≤ z ∧ z < 256

section
variable (f0 f1 f2 f3 t0 t1 t2 t3 fr tp : Int) (db : List UInt8)
theorem udpP_len : (udpP f0 f1 f2 f3 t0 t1 t2 t3 fr tp db).length = 8 + db.length := udpH_len ..
theorem udpP_fr (h : 0 ≤ fr ∧ fr ≤ 65535) : ((at16 (udpP f0 f1 f2 f3 t0 t1 t2 t3 fr tp db) 0 : Nat) : Int) = fr := udpH_fr _ _ _ _ _ h
theorem udpP_tp (h : 0 ≤ tp ∧ tp ≤ 65535) : ((at16 (udpP f0 f1 f2 f3 t0 t1 t2 t3 fr tp db) 2 : Nat) : Int) = tp := udpH_tp _ _ _ _ _ h
theorem udpP_n (h : db.length ≤ 60000) : at16 (udpP f0 f1 f2 f3 t0 t1 t2 t3 fr tp db) 4 = 8 + db.length := udpH_n _ _ _ _ _ h
theorem udpP_drop : List.drop 8 (udpP f0 f1 f2 f3 t0 t1 t2 t3 fr tp db) = db := rfl
theorem udpP_sum : ofL (psd 17 f0 f1 f2 f3 t0 t1 t2 t3 (8 + (db.length : Int)) (udpP f0 f1 f2 f3 t0 t1 t2 t3 fr tp db)) = 0 := by
  unfold udpP orAll
  generalize hs : ofL (psd 17 f0 f1 f2 f3 t0 t1 t2 t3 (8 + (db.length : Int)) (udpH fr tp db 0 0)) = s
  by_cases h0 : s = 0
  · subst h0
    exact udpH_sum1 _ _ _ _ _ _ _ _ _ _ _ _ _ _ _ hs
  · simp only [h0, if_false]
    exact udpH_sum _ _ _ _ _ _ _ _ _ _ _ _ _ _ _ _ _ (by rw [put_sum _ (by rw [← hs]; exact ofL_le _), ← hs]; rfl)
end

theorem tmod_pt {part flags : Int} (h1 : part = 0) (h2 : bits BinOp.and IntKind.i64 flags (1 : Int) = 0) : (!bif part == (0 : Int) then bits BinOp.and IntKind.i64 flags (1 : Int) == (0 : Int) else false) = false := by simp [h1, h2]

theorem bne_zero {n : Nat} (h : n = 0) : (((n : Nat) : Int) != (0 : Int)) = false := by rw [h]; rfl

set_option maxHeartbeats 2000000 in
theorem udpGet_c (tos id flags part ttl proto f0 f1 f2 f3 t0 t1 t2 t3 : Int) (opts ys : List UInt8) (hp17 : proto = 17) (hpt : part = 0) (hfl : bits BinOp.and IntKind.i64 flags (1 : Int) = 0) (hb : byteP [f0, f1, f2, f3, t0, t1, t2, t3]) (h8 : 8 ≤ at16 ys 4) (hn : at16 ys 4 ≤ ys.length) (hl : ys.length ≤ 100000)
    (hs : at16 ys 6 = 0 ∨ ofL (psd 17 f0 f1 f2 f3 t0 t1 t2 t3 (at16 ys 4 : Nat) (ys.take (at16 ys 4))) = 0) :
    ACall Try.prog 30 [pkA tos id flags part ttl proto f0 f1 f2 f3 t0 t1 t2 t3 (.bytes opts) (.bytes ys)] [] 0
      (.tup [.agg [.val (.int .i64 (at16 ys 0 : Nat)), .val (.int .i64 (at16 ys 2 : Nat)), .sl 0 0 (at16 ys 4 - 8) none], .val (.int .i64 0)]) [(0, objApp 5 ((ys.drop 8).take (at16 ys 4 - 8)))] 1 := by
  have hlen : 8 ≤ ys.length := by omega
  have w0 : IntKind.wrap IntKind.i64 (((at16 ys 4 : Nat) : Int) - (8 : Int)) = ((at16 ys 4 - 8 : Nat) : Int) := by rw [w64 _ (by omega)]; omega
  have w1 : Int.toNat (((at16 ys 4 - 8 : Nat)) : Int) = at16 ys 4 - 8 := Int.toNat_natCast _
  have hwh := tmod_pt hpt hfl
  obtain ⟨b0, b1, b2, b3, b4, b5, b6, b7⟩ : (0 ≤ f0 ∧ f0 < 256) ∧ (0 ≤ f1 ∧ f1 < 256) ∧ (0 ≤ f2 ∧ f2 < 256) ∧ (0 ≤ f3 ∧ f3 < 256) ∧ (0 ≤ t0 ∧ t0 < 256) ∧ (0 ≤ t1 ∧ t1 < 256) ∧ (0 ≤ t2 ∧ t2 < 256) ∧ (0 ≤ t3 ∧ t3 < 256) :=
    ⟨hb _ (by simp), hb _ (by simp), hb _ (by simp), hb _ (by simp), hb _ (by simp), hb _ (by simp), hb _ (by simp), hb _ (by simp)⟩
  subst hp17
  generalize hk : at16 ys 4 = k at *
  have tl : (ys.take k).length = k := by simp; omega
  by_cases h6 : at16 ys 6 = 0
  · have h := (outT_ok kT_ok (udpGet_s0 tos id flags part ttl 17 f0 f1 f2 f3 t0 t1 t2 t3 opts ys) (by
      rw [hk]
      repeat' (first | exact allNil | refine allCons ?_ ?_ | (with_reducible refine allRp _ ?_ ?_))
      all_goals ((try simp only [w0, w1, h6, hwh]) <;> (first | exact True.intro | (with_reducible exact id) | (intros; with_reducible assumption) | omega | exact rfl | (simp; done) | (simp; omega)))))
    rw [hk, w0, w1] at h
    exact h.1.renew [516] (by decide) (by decide) (by decide) (by simp [AV.ren, renL, renX]) (fun m x hm => by
      simp only [hp] at hm
      split at hm
      · rename_i e; subst e; injection hm with hm; subst hm; simp [hp, renX, AObj.ren, objApp]
      · cases hm)
  · have hs' := hs.resolve_left h6
    have h := (outT_ok kT_ok (udpGet_s1 tos id flags part ttl 17 f0 f1 f2 f3 t0 t1 t2 t3 opts ys) (by
      rw [hk]
      repeat' (first | exact allNil | refine allCons ?_ ?_ | (with_reducible refine allRp _ ?_ ?_))
      all_goals ((try simp only [w0, w1, h6, hwh, tl]) <;> (first | exact True.intro | (with_reducible exact id) | (intros; with_reducible assumption) | omega | exact rfl | (rw [take_len _ _ (by simp [tl]; omega)]; simp only [wu8, fd256, lo8_raw]; exact bne_zero hs') | (simp [wu8, isB]; done) | (simp [wu8, isB]; omega)))))
    rw [hk, w0, w1] at h
    exact h.1.renew [576] (by decide) (by decide) (by decide) (by simp [AV.ren, renL, renX]) (fun m x hm => by
      simp only [hp] at hm
      split at hm
      · rename_i e; subst e; injection hm with hm; subst hm; simp [hp, renX, AObj.ren, objApp]
      · cases hm)

theorem take8 (a b c d e f g h : UInt8) (l : List UInt8) : List.take (8 + l.length) (a :: b :: c :: d :: e :: f :: g :: h :: l) = a :: b :: c :: d :: e :: f :: g :: h :: l := List.take_of_length_le (by simp; omega)
theorem take20 (a b c d e f g h i j k m a' b' c' d' e' f' g' h' : UInt8) (l : List UInt8) : List.take (12 + (8 + l.length)) (a :: b :: c :: d :: e :: f :: g :: h :: i :: j :: k :: m :: a' :: b' :: c' :: d' :: e' :: f' :: g' :: h' :: l) = a :: b :: c :: d :: e :: f :: g :: h :: i :: j :: k :: m :: a' :: b' :: c' :: d' :: e' :: f' :: g' :: h' :: l := List.take_of_length_le (by simp; omega)
theorem beq_zero {n : Nat} (h : n = 0) : (((n : Nat) : Int) == (0 : Int)) = true := by rw [h]; rfl
theorem beq_zero_not {n : Nat} (h : n ≠ 0) : (((n : Nat) : Int) == (0 : Int)) = false := by simpa using h

set_option maxHeartbeats 4000000 in
set_option maxRecDepth 10000 in
theorem udpPut_c (tos id flags part ttl proto f0 f1 f2 f3 t0 t1 t2 t3 fr tp : Int) (opts body db : List UInt8) (hb : byteP [f0, f1, f2, f3, t0, t1, t2, t3]) (hfr : 0 ≤ fr ∧ fr ≤ 65535) (htp : 0 ≤ tp ∧ tp ≤ 65535) (hd : db.length ≤ 1472) (ho : opts.length ≤ 100000) :
    ACall Try.prog 31 [pkA tos id flags part ttl proto f0 f1 f2 f3 t0 t1 t2 t3 (.bytes opts) (.bytes body), .agg [.val (.int .i64 fr), .val (.int .i64 tp), .bytes db]] [] 0
      (.tup [pkA tos id flags part ttl 17 f0 f1 f2 f3 t0 t1 t2 t3 (.sl 1 0 opts.length none) (.sl 0 0 (8 + db.length) none), .val (.int .i64 0)]) [(0, objApp 5 (udpP f0 f1 f2 f3 t0 t1 t2 t3 fr tp db)), (1, objApp 5 opts)] 2 := by
  obtain ⟨b0, b1, b2, b3, b4, b5, b6, b7⟩ : (0 ≤ f0 ∧ f0 < 256) ∧ (0 ≤ f1 ∧ f1 < 256) ∧ (0 ≤ f2 ∧ f2 < 256) ∧ (0 ≤ f3 ∧ f3 < 256) ∧ (0 ≤ t0 ∧ t0 < 256) ∧ (0 ≤ t1 ∧ t1 < 256) ∧ (0 ≤ t2 ∧ t2 < 256) ∧ (0 ≤ t3 ∧ t3 < 256) :=
    ⟨hb _ (by simp), hb _ (by simp), hb _ (by simp), hb _ (by simp), hb _ (by simp), hb _ (by simp), hb _ (by simp), hb _ (by simp)⟩
  have e1 : IntKind.wrap IntKind.i64 ((8 : Int) + (db.length : Int)) = 8 + (db.length : Int) := w64 _ (by omega)
  have e4 : 0 + opts.length = opts.length := Nat.zero_add _
  have hS : ∃ s, s = ofL (psd 17 f0 f1 f2 f3 t0 t1 t2 t3 (8 + (db.length : Int)) (udpH fr tp db 0 0)) := ⟨_, rfl⟩
  obtain ⟨s, hS⟩ := hS
  have hs := hS
  simp only [psd, u8o, udpH] at hs
  have e17 : lo8 17 = 17 := by decide
  rw [e17] at hs
  have hsle : s ≤ 65535 := by rw [hS]; exact ofL_le _
  by_cases hz : s = 0
  · have h := (outT_ok kT_ok (udpPut_s0 tos id flags part ttl proto f0 f1 f2 f3 t0 t1 t2 t3 opts body fr tp db) (by
      repeat' (first | exact allNil | refine allCons ?_ ?_ | (with_reducible refine allRp _ ?_ ?_))
      all_goals ((try simp only [wu8, fd256, lo8_raw, e1, take8, take20, ← hs]) <;> (first | exact True.intro | (with_reducible exact id) | (intros; with_reducible assumption) | omega | exact rfl | exact beq_zero hz | (simp [wu8, isB]; done) | (simp [wu8, isB]; omega)))))
    simp only [wu8, fd256, lo8_raw, e1, take8, take20, e4] at h
    have hP : udpP f0 f1 f2 f3 t0 t1 t2 t3 fr tp db = udpH fr tp db 255 255 := by
      unfold udpP orAll
      rw [← hS, if_pos hz]; rfl
    refine h.1.renew [78, 190] (by decide) (by decide) (by decide) (by simp [AV.ren, renL, renX, pkA]) (fun m x hm => ?_)
    simp only [hp] at hm
    split at hm
    · rename_i e; subst e; injection hm with hm; subst hm; rw [hP]; simp [hp, renX, AObj.ren, objApp, udpH]
    · split at hm
      · rename_i e; subst e; injection hm with hm; subst hm; simp [hp, renX, AObj.ren, objApp]
      · cases hm
  · have h := (outT_ok kT_ok (udpPut_s1 tos id flags part ttl proto f0 f1 f2 f3 t0 t1 t2 t3 opts body fr tp db) (by
      repeat' (first | exact allNil | refine allCons ?_ ?_ | (with_reducible refine allRp _ ?_ ?_))
      all_goals ((try simp only [wu8, fd256, lo8_raw, e1, take8, take20, ← hs]) <;> (first | exact True.intro | (with_reducible exact id) | (intros; with_reducible assumption) | omega | exact rfl | exact beq_zero_not hz | (simp [wu8, isB]; done) | (simp [wu8, isB]; omega)))))
    simp only [wu8, fd256, lo8_raw, e1, take8, take20, e4, ← hs] at h
    have hP : udpP f0 f1 f2 f3 t0 t1 t2 t3 fr tp db = udpH fr tp db (lo8 ((s : Int) / 256)) (lo8 s) := by
      unfold udpP orAll
      rw [← hS, if_neg hz]
    refine h.1.renew [78, 189] (by decide) (by decide) (by decide) (by simp [AV.ren, renL, renX, pkA]) (fun m x hm => ?_)
    simp only [hp] at hm
    split at hm
    · rename_i e; subst e; injection hm with hm; subst hm; rw [hP]; simp [hp, renX, AObj.ren, objApp, udpH]
    · split at hm
      · rename_i e; subst e; injection hm with hm; subst hm; simp [hp, renX, AObj.ren, objApp]
      · cases hm
end Go.Proofs.Ytecmagdefllihaa
