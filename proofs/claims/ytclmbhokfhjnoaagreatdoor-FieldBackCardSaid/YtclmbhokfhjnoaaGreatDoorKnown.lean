/-
  What is known of some calls, for runs in which nothing is symbolic. Printed by kprint.py.
-/
import Derived.Test.YtclmbhokfhjnoaaGreatDoorGen3
set_option linter.unusedVariables false
set_option linter.unusedSimpArgs false
set_option linter.unnecessarySimpa false
set_option maxRecDepth 10000
namespace Go.Proofs.YtclmbhokfhjnoaaGreatDoor
open Go.SX
def K_field_Mirror_meets : List D → Option D
  | [.agg [c0, c1, c2, c3, c4, c5, c6, c7, c8, c9], c10, .agg [c11, c12, c13, c14, c15, c16, c17]] => (un_str c0).bind fun y0 => (un_int .i64 c1).bind fun y1 => (un_int .i64 c2).bind fun y2 => (un_int .i64 c3).bind fun y3 => (un_int .i64 c4).bind fun y4 => (un_int .i64 c5).bind fun y5 => (un_int .i64 c6).bind fun y6 => (un_int .i64 c7).bind fun y7 => (un_int .i64 c8).bind fun y8 => (un_int .i64 c9).bind fun y9 => (un_int .i64 c10).bind fun y10 => (un_int .i64 c11).bind fun y11 => (un_int .i64 c12).bind fun y12 => (un_int .i64 c13).bind fun y13 => (un_int .i64 c14).bind fun y14 => (un_int .i64 c15).bind fun y15 => (un_int .i64 c16).bind fun y16 => (un_bool c17).bind fun y17 => (F_field_Mirror_meets 1000 y0 y1 y2 y3 y4 y5 y6 y7 y8 y9 y10 y11 y12 y13 y14 y15 y16 y17).bind fun r => some (B r)
  | _ => none
theorem k_field_Mirror_meets (ds : List D) (q : D) (h : K_field_Mirror_meets ds = some q) : Computes cx 89 ds q := by
  unfold K_field_Mirror_meets at h
  split at h
  case h_2 => cases h
  obtain ⟨y0, ec0, h⟩ := bnd_of h
  obtain ⟨y1, ec1, h⟩ := bnd_of h
  obtain ⟨y2, ec2, h⟩ := bnd_of h
  obtain ⟨y3, ec3, h⟩ := bnd_of h
  obtain ⟨y4, ec4, h⟩ := bnd_of h
  obtain ⟨y5, ec5, h⟩ := bnd_of h
  obtain ⟨y6, ec6, h⟩ := bnd_of h
  obtain ⟨y7, ec7, h⟩ := bnd_of h
  obtain ⟨y8, ec8, h⟩ := bnd_of h
  obtain ⟨y9, ec9, h⟩ := bnd_of h
  obtain ⟨y10, ec10, h⟩ := bnd_of h
  obtain ⟨y11, ec11, h⟩ := bnd_of h
  obtain ⟨y12, ec12, h⟩ := bnd_of h
  obtain ⟨y13, ec13, h⟩ := bnd_of h
  obtain ⟨y14, ec14, h⟩ := bnd_of h
  obtain ⟨y15, ec15, h⟩ := bnd_of h
  obtain ⟨y16, ec16, h⟩ := bnd_of h
  obtain ⟨y17, ec17, h⟩ := bnd_of h
  obtain ⟨r, hr, h⟩ := bnd_of h
  cases h
  rw [un_str_ok ec0, un_int_ok ec1, un_int_ok ec2, un_int_ok ec3, un_int_ok ec4, un_int_ok ec5, un_int_ok ec6, un_int_ok ec7, un_int_ok ec8, un_int_ok ec9, un_int_ok ec10, un_int_ok ec11, un_int_ok ec12, un_int_ok ec13, un_int_ok ec14, un_int_ok ec15, un_int_ok ec16, un_bool_ok ec17]
  exact c_field_Mirror_meets hr

def K_field_Mirror_check : List D → Option D
  | [.agg [c0, c1, c2, c3, c4, c5, c6, c7, c8, c9]] => (un_str c0).bind fun y0 => (un_int .i64 c1).bind fun y1 => (un_int .i64 c2).bind fun y2 => (un_int .i64 c3).bind fun y3 => (un_int .i64 c4).bind fun y4 => (un_int .i64 c5).bind fun y5 => (un_int .i64 c6).bind fun y6 => (un_int .i64 c7).bind fun y7 => (un_int .i64 c8).bind fun y8 => (un_int .i64 c9).bind fun y9 => (F_field_Mirror_check 1000 y0 y1 y2 y3 y4 y5 y6 y7 y8 y9).bind fun r => some (I r)
  | _ => none
theorem k_field_Mirror_check (ds : List D) (q : D) (h : K_field_Mirror_check ds = some q) : Computes cx 67 ds q := by
  unfold K_field_Mirror_check at h
  split at h
  case h_2 => cases h
  obtain ⟨y0, ec0, h⟩ := bnd_of h
  obtain ⟨y1, ec1, h⟩ := bnd_of h
  obtain ⟨y2, ec2, h⟩ := bnd_of h
  obtain ⟨y3, ec3, h⟩ := bnd_of h
  obtain ⟨y4, ec4, h⟩ := bnd_of h
  obtain ⟨y5, ec5, h⟩ := bnd_of h
  obtain ⟨y6, ec6, h⟩ := bnd_of h
  obtain ⟨y7, ec7, h⟩ := bnd_of h
  obtain ⟨y8, ec8, h⟩ := bnd_of h
  obtain ⟨y9, ec9, h⟩ := bnd_of h
  obtain ⟨r, hr, h⟩ := bnd_of h
  cases h
  rw [un_str_ok ec0, un_int_ok ec1, un_int_ok ec2, un_int_ok ec3, un_int_ok ec4, un_int_ok ec5, un_int_ok ec6, un_int_ok ec7, un_int_ok ec8, un_int_ok ec9]
  exact c_field_Mirror_check hr

def K_field_dot : List D → Option D
  | [.agg [c0, c1, c2], .agg [c3, c4, c5]] => (un_int .i64 c0).bind fun y0 => (un_int .i64 c1).bind fun y1 => (un_int .i64 c2).bind fun y2 => (un_int .i64 c3).bind fun y3 => (un_int .i64 c4).bind fun y4 => (un_int .i64 c5).bind fun y5 => (F_field_dot 1000 y0 y1 y2 y3 y4 y5).bind fun r => some (I r)
  | _ => none
theorem k_field_dot (ds : List D) (q : D) (h : K_field_dot ds = some q) : Computes cx 71 ds q := by
  unfold K_field_dot at h
  split at h
  case h_2 => cases h
  obtain ⟨y0, ec0, h⟩ := bnd_of h
  obtain ⟨y1, ec1, h⟩ := bnd_of h
  obtain ⟨y2, ec2, h⟩ := bnd_of h
  obtain ⟨y3, ec3, h⟩ := bnd_of h
  obtain ⟨y4, ec4, h⟩ := bnd_of h
  obtain ⟨y5, ec5, h⟩ := bnd_of h
  obtain ⟨r, hr, h⟩ := bnd_of h
  cases h
  rw [un_int_ok ec0, un_int_ok ec1, un_int_ok ec2, un_int_ok ec3, un_int_ok ec4, un_int_ok ec5]
  exact c_field_dot hr

def K_field_cross : List D → Option D
  | [.agg [c0, c1, c2], .agg [c3, c4, c5]] => (un_int .i64 c0).bind fun y0 => (un_int .i64 c1).bind fun y1 => (un_int .i64 c2).bind fun y2 => (un_int .i64 c3).bind fun y3 => (un_int .i64 c4).bind fun y4 => (un_int .i64 c5).bind fun y5 => (F_field_cross 1000 y0 y1 y2 y3 y4 y5).bind fun r => some (.agg [I r.1, I r.2.1, I r.2.2])
  | _ => none
theorem k_field_cross (ds : List D) (q : D) (h : K_field_cross ds = some q) : Computes cx 114 ds q := by
  unfold K_field_cross at h
  split at h
  case h_2 => cases h
  obtain ⟨y0, ec0, h⟩ := bnd_of h
  obtain ⟨y1, ec1, h⟩ := bnd_of h
  obtain ⟨y2, ec2, h⟩ := bnd_of h
  obtain ⟨y3, ec3, h⟩ := bnd_of h
  obtain ⟨y4, ec4, h⟩ := bnd_of h
  obtain ⟨y5, ec5, h⟩ := bnd_of h
  obtain ⟨r, hr, h⟩ := bnd_of h
  cases h
  rw [un_int_ok ec0, un_int_ok ec1, un_int_ok ec2, un_int_ok ec3, un_int_ok ec4, un_int_ok ec5]
  exact c_field_cross hr

def K_field_plus : List D → Option D
  | [.agg [c0, c1, c2], .agg [c3, c4, c5]] => (un_int .i64 c0).bind fun y0 => (un_int .i64 c1).bind fun y1 => (un_int .i64 c2).bind fun y2 => (un_int .i64 c3).bind fun y3 => (un_int .i64 c4).bind fun y4 => (un_int .i64 c5).bind fun y5 => (F_field_plus 1000 y0 y1 y2 y3 y4 y5).bind fun r => some (.agg [I r.1, I r.2.1, I r.2.2])
  | _ => none
theorem k_field_plus (ds : List D) (q : D) (h : K_field_plus ds = some q) : Computes cx 85 ds q := by
  unfold K_field_plus at h
  split at h
  case h_2 => cases h
  obtain ⟨y0, ec0, h⟩ := bnd_of h
  obtain ⟨y1, ec1, h⟩ := bnd_of h
  obtain ⟨y2, ec2, h⟩ := bnd_of h
  obtain ⟨y3, ec3, h⟩ := bnd_of h
  obtain ⟨y4, ec4, h⟩ := bnd_of h
  obtain ⟨y5, ec5, h⟩ := bnd_of h
  obtain ⟨r, hr, h⟩ := bnd_of h
  cases h
  rw [un_int_ok ec0, un_int_ok ec1, un_int_ok ec2, un_int_ok ec3, un_int_ok ec4, un_int_ok ec5]
  exact c_field_plus hr

def K_field_times : List D → Option D
  | [c0, .agg [c1, c2, c3]] => (un_int .i64 c0).bind fun y0 => (un_int .i64 c1).bind fun y1 => (un_int .i64 c2).bind fun y2 => (un_int .i64 c3).bind fun y3 => (F_field_times 1000 y0 y1 y2 y3).bind fun r => some (.agg [I r.1, I r.2.1, I r.2.2])
  | _ => none
theorem k_field_times (ds : List D) (q : D) (h : K_field_times ds = some q) : Computes cx 86 ds q := by
  unfold K_field_times at h
  split at h
  case h_2 => cases h
  obtain ⟨y0, ec0, h⟩ := bnd_of h
  obtain ⟨y1, ec1, h⟩ := bnd_of h
  obtain ⟨y2, ec2, h⟩ := bnd_of h
  obtain ⟨y3, ec3, h⟩ := bnd_of h
  obtain ⟨r, hr, h⟩ := bnd_of h
  cases h
  rw [un_int_ok ec0, un_int_ok ec1, un_int_ok ec2, un_int_ok ec3]
  exact c_field_times hr

def K_field_left : List D → Option D
  | [.agg [c0, c1], .agg [c2, c3], .agg [c4, c5]] => (un_int .i64 c0).bind fun y0 => (un_int .i64 c1).bind fun y1 => (un_int .i64 c2).bind fun y2 => (un_int .i64 c3).bind fun y3 => (un_int .i64 c4).bind fun y4 => (un_int .i64 c5).bind fun y5 => (F_field_left 1000 y0 y1 y2 y3 y4 y5).bind fun r => some (I r)
  | _ => none
theorem k_field_left (ds : List D) (q : D) (h : K_field_left ds = some q) : Computes cx 55 ds q := by
  unfold K_field_left at h
  split at h
  case h_2 => cases h
  obtain ⟨y0, ec0, h⟩ := bnd_of h
  obtain ⟨y1, ec1, h⟩ := bnd_of h
  obtain ⟨y2, ec2, h⟩ := bnd_of h
  obtain ⟨y3, ec3, h⟩ := bnd_of h
  obtain ⟨y4, ec4, h⟩ := bnd_of h
  obtain ⟨y5, ec5, h⟩ := bnd_of h
  obtain ⟨r, hr, h⟩ := bnd_of h
  cases h
  rw [un_int_ok ec0, un_int_ok ec1, un_int_ok ec2, un_int_ok ec3, un_int_ok ec4, un_int_ok ec5]
  exact c_field_left hr

def K_cmp_Compare_g : List D → Option D
  | [c0, c1] => (un_int .i64 c0).bind fun y0 => (un_int .i64 c1).bind fun y1 => (F_cmp_Compare_g 1000 y0 y1).bind fun r => some (I r)
  | _ => none
theorem k_cmp_Compare_g (ds : List D) (q : D) (h : K_cmp_Compare_g ds = some q) : Computes cx 54 ds q := by
  unfold K_cmp_Compare_g at h
  split at h
  case h_2 => cases h
  obtain ⟨y0, ec0, h⟩ := bnd_of h
  obtain ⟨y1, ec1, h⟩ := bnd_of h
  obtain ⟨r, hr, h⟩ := bnd_of h
  cases h
  rw [un_int_ok ec0, un_int_ok ec1]
  exact c_cmp_Compare_g hr

def K_field_lowest : List D → Option D
  | [c0, c1] => (un_int .i64 c0).bind fun y0 => (un_int .i64 c1).bind fun y1 => (F_field_lowest 1000 y0 y1).bind fun r => some (.agg [I r.1, I r.2])
  | _ => none
theorem k_field_lowest (ds : List D) (q : D) (h : K_field_lowest ds = some q) : Computes cx 72 ds q := by
  unfold K_field_lowest at h
  split at h
  case h_2 => cases h
  obtain ⟨y0, ec0, h⟩ := bnd_of h
  obtain ⟨y1, ec1, h⟩ := bnd_of h
  obtain ⟨r, hr, h⟩ := bnd_of h
  cases h
  rw [un_int_ok ec0, un_int_ok ec1]
  exact c_field_lowest hr

def K_light_IsName : List D → Option D
  | [c0] => (un_str c0).bind fun y0 => (F_light_IsName 1000 y0).bind fun r => some (B r)
  | _ => none
theorem k_light_IsName (ds : List D) (q : D) (h : K_light_IsName ds = some q) : Computes cx 113 ds q := by
  unfold K_light_IsName at h
  split at h
  case h_2 => cases h
  obtain ⟨y0, ec0, h⟩ := bnd_of h
  obtain ⟨r, hr, h⟩ := bnd_of h
  cases h
  rw [un_str_ok ec0]
  exact c_light_IsName hr

def K_field_checkParts : List D → Option D
  | [.agg [c0, c1, c2], c3] => (un_int .i64 c0).bind fun y0 => (un_int .i64 c1).bind fun y1 => (un_int .i64 c2).bind fun y2 => (un_int .i64 c3).bind fun y3 => (F_field_checkParts 1000 y0 y1 y2 y3).bind fun r => some (I r)
  | _ => none
theorem k_field_checkParts (ds : List D) (q : D) (h : K_field_checkParts ds = some q) : Computes cx 82 ds q := by
  unfold K_field_checkParts at h
  split at h
  case h_2 => cases h
  obtain ⟨y0, ec0, h⟩ := bnd_of h
  obtain ⟨y1, ec1, h⟩ := bnd_of h
  obtain ⟨y2, ec2, h⟩ := bnd_of h
  obtain ⟨y3, ec3, h⟩ := bnd_of h
  obtain ⟨r, hr, h⟩ := bnd_of h
  cases h
  rw [un_int_ok ec0, un_int_ok ec1, un_int_ok ec2, un_int_ok ec3]
  exact c_field_checkParts hr

def K_strings_Join : List D → Option D
  | [.lst _ _ l, .v (.string s)] => (F_strings_Join 1000 l s).bind fun r => some (.v (.string r))
  | _ => none
theorem k_strings_Join (ds : List D) (q : D) (h : K_strings_Join ds = some q) : Computes cx 40 ds q := by
  unfold K_strings_Join at h
  split at h
  case h_2 => cases h
  obtain ⟨r, hr, h⟩ := bnd_of h
  cases h
  exact c_strings_Join hr

def KF (f : Nat) : Option (List D → Option D) := match f with
  | 89 => some K_field_Mirror_meets
  | 67 => some K_field_Mirror_check
  | 71 => some K_field_dot
  | 114 => some K_field_cross
  | 85 => some K_field_plus
  | 86 => some K_field_times
  | 55 => some K_field_left
  | 54 => some K_cmp_Compare_g
  | 72 => some K_field_lowest
  | 113 => some K_light_IsName
  | 82 => some K_field_checkParts
  | 40 => some K_strings_Join
  | _ => none

theorem kf_ok : ∀ f g ds r, KF f = some g → g ds = some r → Computes cx f ds r := by
  intro f g ds r h1 h2
  unfold KF at h1
  split at h1
  · cases h1; exact k_field_Mirror_meets ds r h2
  · cases h1; exact k_field_Mirror_check ds r h2
  · cases h1; exact k_field_dot ds r h2
  · cases h1; exact k_field_cross ds r h2
  · cases h1; exact k_field_plus ds r h2
  · cases h1; exact k_field_times ds r h2
  · cases h1; exact k_field_left ds r h2
  · cases h1; exact k_cmp_Compare_g ds r h2
  · cases h1; exact k_field_lowest ds r h2
  · cases h1; exact k_light_IsName ds r h2
  · cases h1; exact k_field_checkParts ds r h2
  · cases h1; exact k_strings_Join ds r h2
  · cases h1

/-- A run in which nothing is symbolic. -/
theorem runC {n : Nat} {f : FuncId} {args : List D} {r : D} {ob : List Prop} (h : runFn false n (cx.know KF) f args [] = some (r, ob)) (ho : All ob) : Computes cx f args r := runK noAsk mixed kf_ok h ho
end Go.Proofs.YtclmbhokfhjnoaaGreatDoor
