/- The program's values in plain Lean, and what its functions compute, in plain Lean. No condition. -/
import Derived.Test.YtijifinpifomcaaGreatMachFive
set_option linter.unusedVariables false
set_option linter.unusedSimpArgs false
set_option linter.constructorNameAsVariable false
namespace Go.Abs
open Go
abbrev vi (x : Int) : Value := .int .i64 x
def eInt (x : Int) : List T := [.v (vi x)]
theorem eInt_eq (x : Int) : eInt x = [.v (vi x)] := rfl
theorem own_eInt (l : List Int) : ownEs (l.map eInt) = true := E.ownEs_map (fun _ => rfl) l
theorem bor_eInt (l : List Int) : borEs (l.map eInt) = l.map eInt := E.borEs_map (fun _ => rfl) l
theorem scal_eInt (l : List Int) : scalEs (l.map eInt) = true := E.scalEs_map (fun _ => rfl) l
theorem one_eInt (l : List Int) : oneEs (l.map eInt) = true := E.oneEs_map (fun _ => rfl) l
theorem szEs_map {α : Type} {f : α → List T} (h : ∀ x, szE (f x) = true) : ∀ l : List α, szEs (l.map f) = true
  | [] => rfl
  | x :: l => by simp [szEs, h x, szEs_map h l]
theorem sz_eInt (l : List Int) : szEs (l.map eInt) = true := szEs_map (fun _ => rfl) l
theorem fit_i {t : T} (h : E.Fit (.i .i64) t) : ∃ n : Int, t = .v (vi n) := by cases h with | i _ n _ => exact ⟨n, rfl⟩
theorem fit_b {t : T} (h : E.Fit .b t) : ∃ b : Bool, t = .v (.bool b) := by cases h with | b x => exact ⟨x, rfl⟩
theorem fit_li {t : T} (h : E.Fit (.sl [.i .i64]) t) : ∃ l : List Int, t = .s false 1 (l.map eInt) ∧ l.length ≤ maxLen := by
  cases h with
  | sl _ es h hl =>
    obtain ⟨l, rfl⟩ := E.FitEs.map (enc := eInt) (fun e he => by
      cases he with | cons _ _ t ts h1 h2 =>
      cases h2
      obtain ⟨n, rfl⟩ := fit_i h1
      exact ⟨n, rfl⟩) h
    exact ⟨l, rfl, by simpa using hl⟩
structure ROp where
  client : Int
  seq : Int
  kind : Int
  obj : Int
  old : Int
  val : Int
instance : Inhabited ROp := ⟨⟨0, 0, 0, 0, 0, 0⟩⟩
noncomputable instance : DecidableEq ROp := fun a b => Classical.propDecidable (a = b)
def eROp (x : ROp) : List T := [.v (vi x.client), .v (vi x.seq), .v (vi x.kind), .v (vi x.obj), .v (vi x.old), .v (vi x.val)]
theorem eROp_eq (x : ROp) : eROp x = [.v (vi x.client), .v (vi x.seq), .v (vi x.kind), .v (vi x.obj), .v (vi x.old), .v (vi x.val)] := rfl
theorem own_eROp (l : List ROp) : ownEs (l.map eROp) = true := E.ownEs_map (fun _ => rfl) l
theorem bor_eROp (l : List ROp) : borEs (l.map eROp) = l.map eROp := E.borEs_map (fun _ => rfl) l
theorem scal_eROp (l : List ROp) : scalEs (l.map eROp) = true := E.scalEs_map (fun _ => rfl) l
theorem one_eROp (l : List ROp) : oneEs (l.map eROp) = true := E.oneEs_map (fun _ => rfl) l
def shROp : List E.Sh := [.i .i64, .i .i64, .i .i64, .i .i64, .i .i64, .i .i64]
theorem fit_ROp {ts : List T} (h0 : E.FitAll shROp ts) : ∃ x : ROp, ts = eROp x := by
  unfold shROp at h0
  cases h0 with | cons _ _ t0 ts0 f0 h1 =>
  obtain ⟨x0, rfl⟩ := fit_i f0
  cases h1 with | cons _ _ t1 ts1 f1 h2 =>
  obtain ⟨x1, rfl⟩ := fit_i f1
  cases h2 with | cons _ _ t2 ts2 f2 h3 =>
  obtain ⟨x2, rfl⟩ := fit_i f2
  cases h3 with | cons _ _ t3 ts3 f3 h4 =>
  obtain ⟨x3, rfl⟩ := fit_i f3
  cases h4 with | cons _ _ t4 ts4 f4 h5 =>
  obtain ⟨x4, rfl⟩ := fit_i f4
  cases h5 with | cons _ _ t5 ts5 f5 h6 =>
  obtain ⟨x5, rfl⟩ := fit_i f5
  cases h6
  exact ⟨⟨x0, x1, x2, x3, x4, x5⟩, rfl⟩
theorem fit_lROp {t : T} (h : E.Fit (.sl shROp) t) : ∃ l : List ROp, t = .s false 6 (l.map eROp) ∧ l.length ≤ maxLen := by
  cases h with
  | sl _ es h hl =>
    obtain ⟨l, rfl⟩ := E.FitEs.map (enc := eROp) (fun e he => fit_ROp he) h
    exact ⟨l, rfl, by simpa using hl⟩
structure Res where
  done : Bool
  val : Int
instance : Inhabited Res := ⟨⟨false, 0⟩⟩
noncomputable instance : DecidableEq Res := fun a b => Classical.propDecidable (a = b)
def eRes (x : Res) : List T := [.v (.bool x.done), .v (vi x.val)]
theorem eRes_eq (x : Res) : eRes x = [.v (.bool x.done), .v (vi x.val)] := rfl
theorem own_eRes (l : List Res) : ownEs (l.map eRes) = true := E.ownEs_map (fun _ => rfl) l
theorem bor_eRes (l : List Res) : borEs (l.map eRes) = l.map eRes := E.borEs_map (fun _ => rfl) l
theorem scal_eRes (l : List Res) : scalEs (l.map eRes) = true := E.scalEs_map (fun _ => rfl) l
theorem one_eRes (l : List Res) : oneEs (l.map eRes) = true := E.oneEs_map (fun _ => rfl) l
structure Sess where
  client : Int
  seq : Int
  res : Res
instance : Inhabited Sess := ⟨⟨0, 0, ⟨false, 0⟩⟩⟩
noncomputable instance : DecidableEq Sess := fun a b => Classical.propDecidable (a = b)
def eSess (x : Sess) : List T := [.v (vi x.client), .v (vi x.seq), .v (.bool x.res.done), .v (vi x.res.val)]
theorem eSess_eq (x : Sess) : eSess x = [.v (vi x.client), .v (vi x.seq), .v (.bool x.res.done), .v (vi x.res.val)] := rfl
theorem own_eSess (l : List Sess) : ownEs (l.map eSess) = true := E.ownEs_map (fun _ => rfl) l
theorem bor_eSess (l : List Sess) : borEs (l.map eSess) = l.map eSess := E.borEs_map (fun _ => rfl) l
theorem scal_eSess (l : List Sess) : scalEs (l.map eSess) = true := E.scalEs_map (fun _ => rfl) l
theorem one_eSess (l : List Sess) : oneEs (l.map eSess) = true := E.oneEs_map (fun _ => rfl) l
structure Mach where
  objs : List Int
  sess : List Sess
instance : Inhabited Mach := ⟨⟨[], []⟩⟩
noncomputable instance : DecidableEq Mach := fun a b => Classical.propDecidable (a = b)
def eMach (o : Bool) (x : Mach) : List T := [.s o 1 (x.objs.map eInt), .s o 4 (x.sess.map eSess)]
theorem eMach_eq (o : Bool) (x : Mach) : eMach o x = [.s o 1 (x.objs.map eInt), .s o 4 (x.sess.map eSess)] := rfl
theorem own_eMach (l : List Mach) : ownEs (l.map (eMach true)) = true := E.ownEs_map (fun x => by simp [eMach, ownE, ownT, own_eSess, own_eInt]) l
theorem bor_eMach (o : Bool) (l : List Mach) : borEs (l.map (eMach o)) = l.map (eMach false) := E.borEs_map (fun x => by simp [eMach, borE, borT, bor_eSess, bor_eInt]) l
theorem one_eMach (o : Bool) (l : List Mach) : oneEs (l.map (eMach o)) = true := E.oneEs_map (fun _ => rfl) l
structure LEnt where
  epoch : Int
  op : ROp
instance : Inhabited LEnt := ⟨⟨0, ⟨0, 0, 0, 0, 0, 0⟩⟩⟩
noncomputable instance : DecidableEq LEnt := fun a b => Classical.propDecidable (a = b)
def eLEnt (x : LEnt) : List T := [.v (vi x.epoch), .v (vi x.op.client), .v (vi x.op.seq), .v (vi x.op.kind), .v (vi x.op.obj), .v (vi x.op.old), .v (vi x.op.val)]
theorem eLEnt_eq (x : LEnt) : eLEnt x = [.v (vi x.epoch), .v (vi x.op.client), .v (vi x.op.seq), .v (vi x.op.kind), .v (vi x.op.obj), .v (vi x.op.old), .v (vi x.op.val)] := rfl
theorem own_eLEnt (l : List LEnt) : ownEs (l.map eLEnt) = true := E.ownEs_map (fun _ => rfl) l
theorem bor_eLEnt (l : List LEnt) : borEs (l.map eLEnt) = l.map eLEnt := E.borEs_map (fun _ => rfl) l
theorem scal_eLEnt (l : List LEnt) : scalEs (l.map eLEnt) = true := E.scalEs_map (fun _ => rfl) l
theorem one_eLEnt (l : List LEnt) : oneEs (l.map eLEnt) = true := E.oneEs_map (fun _ => rfl) l
def shLEnt : List E.Sh := [.i .i64, .i .i64, .i .i64, .i .i64, .i .i64, .i .i64, .i .i64]
theorem fit_LEnt {ts : List T} (h0 : E.FitAll shLEnt ts) : ∃ x : LEnt, ts = eLEnt x := by
  unfold shLEnt at h0
  cases h0 with | cons _ _ t0 ts0 f0 h1 =>
  obtain ⟨x0, rfl⟩ := fit_i f0
  cases h1 with | cons _ _ t1 ts1 f1 h2 =>
  obtain ⟨x1, rfl⟩ := fit_i f1
  cases h2 with | cons _ _ t2 ts2 f2 h3 =>
  obtain ⟨x2, rfl⟩ := fit_i f2
  cases h3 with | cons _ _ t3 ts3 f3 h4 =>
  obtain ⟨x3, rfl⟩ := fit_i f3
  cases h4 with | cons _ _ t4 ts4 f4 h5 =>
  obtain ⟨x4, rfl⟩ := fit_i f4
  cases h5 with | cons _ _ t5 ts5 f5 h6 =>
  obtain ⟨x5, rfl⟩ := fit_i f5
  cases h6 with | cons _ _ t6 ts6 f6 h7 =>
  obtain ⟨x6, rfl⟩ := fit_i f6
  cases h7
  exact ⟨⟨x0, ⟨x1, x2, x3, x4, x5, x6⟩⟩, rfl⟩
theorem fit_lLEnt {t : T} (h : E.Fit (.sl shLEnt) t) : ∃ l : List LEnt, t = .s false 7 (l.map eLEnt) ∧ l.length ≤ maxLen := by
  cases h with
  | sl _ es h hl =>
    obtain ⟨l, rfl⟩ := E.FitEs.map (enc := eLEnt) (fun e he => fit_LEnt he) h
    exact ⟨l, rfl, by simpa using hl⟩
structure Conf where
  epoch : Int
  primary : Int
  reps : List Int
  wits : List Int
instance : Inhabited Conf := ⟨⟨0, 0, [], []⟩⟩
noncomputable instance : DecidableEq Conf := fun a b => Classical.propDecidable (a = b)
def eConf (o : Bool) (x : Conf) : List T := [.v (vi x.epoch), .v (vi x.primary), .s o 1 (x.reps.map eInt), .s o 1 (x.wits.map eInt)]
theorem eConf_eq (o : Bool) (x : Conf) : eConf o x = [.v (vi x.epoch), .v (vi x.primary), .s o 1 (x.reps.map eInt), .s o 1 (x.wits.map eInt)] := rfl
theorem own_eConf (l : List Conf) : ownEs (l.map (eConf true)) = true := E.ownEs_map (fun x => by simp [eConf, ownE, ownT, own_eInt]) l
theorem bor_eConf (o : Bool) (l : List Conf) : borEs (l.map (eConf o)) = l.map (eConf false) := E.borEs_map (fun x => by simp [eConf, borE, borT, bor_eInt]) l
theorem one_eConf (o : Bool) (l : List Conf) : oneEs (l.map (eConf o)) = true := E.oneEs_map (fun _ => rfl) l
def shConf : List E.Sh := [.i .i64, .i .i64, .sl [.i .i64], .sl [.i .i64]]
def LnConf (x : Conf) : Prop := (x.reps.length ≤ maxLen) ∧ (x.wits.length ≤ maxLen)
theorem fit_Conf {ts : List T} (h0 : E.FitAll shConf ts) : ∃ x : Conf, ts = eConf false x ∧ LnConf x := by
  unfold shConf at h0
  cases h0 with | cons _ _ t0 ts0 f0 h1 =>
  obtain ⟨x0, rfl⟩ := fit_i f0
  cases h1 with | cons _ _ t1 ts1 f1 h2 =>
  obtain ⟨x1, rfl⟩ := fit_i f1
  cases h2 with | cons _ _ t2 ts2 f2 h3 =>
  obtain ⟨x2, rfl, q2⟩ := fit_li f2
  cases h3 with | cons _ _ t3 ts3 f3 h4 =>
  obtain ⟨x3, rfl, q3⟩ := fit_li f3
  cases h4
  exact ⟨⟨x0, x1, x2, x3⟩, rfl, q2, q3⟩
theorem fit_lConf {t : T} (h : E.Fit (.sl shConf) t) : ∃ l : List Conf, t = .s false 4 (l.map (eConf false)) ∧ (l.length ≤ maxLen ∧ ∀ y ∈ l, LnConf y) := by
  cases h with
  | sl _ es h hl =>
    obtain ⟨l, rfl, hp⟩ := E.FitEs.mapP (enc := (eConf false)) (p := LnConf) (fun e he => fit_Conf he) h
    exact ⟨l, rfl, by simpa using hl, hp⟩
structure Plc where
  rack : Int
  cap : Int
  load : Int
instance : Inhabited Plc := ⟨⟨0, 0, 0⟩⟩
noncomputable instance : DecidableEq Plc := fun a b => Classical.propDecidable (a = b)
def ePlc (x : Plc) : List T := [.v (vi x.rack), .v (vi x.cap), .v (vi x.load)]
theorem ePlc_eq (x : Plc) : ePlc x = [.v (vi x.rack), .v (vi x.cap), .v (vi x.load)] := rfl
theorem own_ePlc (l : List Plc) : ownEs (l.map ePlc) = true := E.ownEs_map (fun _ => rfl) l
theorem bor_ePlc (l : List Plc) : borEs (l.map ePlc) = l.map ePlc := E.borEs_map (fun _ => rfl) l
theorem scal_ePlc (l : List Plc) : scalEs (l.map ePlc) = true := E.scalEs_map (fun _ => rfl) l
theorem one_ePlc (l : List Plc) : oneEs (l.map ePlc) = true := E.oneEs_map (fun _ => rfl) l
def shPlc : List E.Sh := [.i .i64, .i .i64, .i .i64]
theorem fit_Plc {ts : List T} (h0 : E.FitAll shPlc ts) : ∃ x : Plc, ts = ePlc x := by
  unfold shPlc at h0
  cases h0 with | cons _ _ t0 ts0 f0 h1 =>
  obtain ⟨x0, rfl⟩ := fit_i f0
  cases h1 with | cons _ _ t1 ts1 f1 h2 =>
  obtain ⟨x1, rfl⟩ := fit_i f1
  cases h2 with | cons _ _ t2 ts2 f2 h3 =>
  obtain ⟨x2, rfl⟩ := fit_i f2
  cases h3
  exact ⟨⟨x0, x1, x2⟩, rfl⟩
theorem fit_lPlc {t : T} (h : E.Fit (.sl shPlc) t) : ∃ l : List Plc, t = .s false 3 (l.map ePlc) ∧ l.length ≤ maxLen := by
  cases h with
  | sl _ es h hl =>
    obtain ⟨l, rfl⟩ := E.FitEs.map (enc := ePlc) (fun e he => fit_Plc he) h
    exact ⟨l, rfl, by simpa using hl⟩
structure MLog where
  confs : List Conf
  act : Int
instance : Inhabited MLog := ⟨⟨[], 0⟩⟩
noncomputable instance : DecidableEq MLog := fun a b => Classical.propDecidable (a = b)
def eMLog (o : Bool) (x : MLog) : List T := [.s o 4 (x.confs.map (eConf o)), .v (vi x.act)]
theorem eMLog_eq (o : Bool) (x : MLog) : eMLog o x = [.s o 4 (x.confs.map (eConf o)), .v (vi x.act)] := rfl
theorem own_eMLog (l : List MLog) : ownEs (l.map (eMLog true)) = true := E.ownEs_map (fun x => by simp [eMLog, ownE, ownT, own_eConf]) l
theorem bor_eMLog (o : Bool) (l : List MLog) : borEs (l.map (eMLog o)) = l.map (eMLog false) := E.borEs_map (fun x => by simp [eMLog, borE, borT, bor_eConf]) l
theorem one_eMLog (o : Bool) (l : List MLog) : oneEs (l.map (eMLog o)) = true := E.oneEs_map (fun _ => rfl) l
structure Lse where
  epoch : Int
  holder : Int
  til : Int
instance : Inhabited Lse := ⟨⟨0, 0, 0⟩⟩
noncomputable instance : DecidableEq Lse := fun a b => Classical.propDecidable (a = b)
def eLse (x : Lse) : List T := [.v (vi x.epoch), .v (vi x.holder), .v (vi x.til)]
theorem eLse_eq (x : Lse) : eLse x = [.v (vi x.epoch), .v (vi x.holder), .v (vi x.til)] := rfl
theorem own_eLse (l : List Lse) : ownEs (l.map eLse) = true := E.ownEs_map (fun _ => rfl) l
theorem bor_eLse (l : List Lse) : borEs (l.map eLse) = l.map eLse := E.borEs_map (fun _ => rfl) l
theorem scal_eLse (l : List Lse) : scalEs (l.map eLse) = true := E.scalEs_map (fun _ => rfl) l
theorem one_eLse (l : List Lse) : oneEs (l.map eLse) = true := E.oneEs_map (fun _ => rfl) l
structure Srv where
  up : Bool
  intact : Bool
  ver : Int
  epoch : Int
  conf : Conf
  first : Int
  log : List LEnt
  commit : Int
  learned : List LEnt
instance : Inhabited Srv := ⟨⟨false, false, 0, 0, ⟨0, 0, [], []⟩, 0, [], 0, []⟩⟩
noncomputable instance : DecidableEq Srv := fun a b => Classical.propDecidable (a = b)
def eSrv (o : Bool) (x : Srv) : List T := [.v (.bool x.up), .v (.bool x.intact), .v (vi x.ver), .v (vi x.epoch), .v (vi x.conf.epoch), .v (vi x.conf.primary), .s o 1 (x.conf.reps.map eInt), .s o 1 (x.conf.wits.map eInt), .v (vi x.first), .s o 7 (x.log.map eLEnt), .v (vi x.commit), .s o 7 (x.learned.map eLEnt)]
theorem eSrv_eq (o : Bool) (x : Srv) : eSrv o x = [.v (.bool x.up), .v (.bool x.intact), .v (vi x.ver), .v (vi x.epoch), .v (vi x.conf.epoch), .v (vi x.conf.primary), .s o 1 (x.conf.reps.map eInt), .s o 1 (x.conf.wits.map eInt), .v (vi x.first), .s o 7 (x.log.map eLEnt), .v (vi x.commit), .s o 7 (x.learned.map eLEnt)] := rfl
theorem own_eSrv (l : List Srv) : ownEs (l.map (eSrv true)) = true := E.ownEs_map (fun x => by simp [eSrv, ownE, ownT, own_eLEnt, own_eInt]) l
theorem bor_eSrv (o : Bool) (l : List Srv) : borEs (l.map (eSrv o)) = l.map (eSrv false) := E.borEs_map (fun x => by simp [eSrv, borE, borT, bor_eLEnt, bor_eInt]) l
theorem one_eSrv (o : Bool) (l : List Srv) : oneEs (l.map (eSrv o)) = true := E.oneEs_map (fun _ => rfl) l
def shSrv : List E.Sh := [.b, .b, .i .i64, .i .i64, .i .i64, .i .i64, .sl [.i .i64], .sl [.i .i64], .i .i64, .sl [.i .i64, .i .i64, .i .i64, .i .i64, .i .i64, .i .i64, .i .i64], .i .i64, .sl [.i .i64, .i .i64, .i .i64, .i .i64, .i .i64, .i .i64, .i .i64]]
def LnSrv (x : Srv) : Prop := (x.conf.reps.length ≤ maxLen) ∧ (x.conf.wits.length ≤ maxLen) ∧ (x.log.length ≤ maxLen) ∧ (x.learned.length ≤ maxLen)
theorem fit_Srv {ts : List T} (h0 : E.FitAll shSrv ts) : ∃ x : Srv, ts = eSrv false x ∧ LnSrv x := by
  unfold shSrv at h0
  cases h0 with | cons _ _ t0 ts0 f0 h1 =>
  obtain ⟨x0, rfl⟩ := fit_b f0
  cases h1 with | cons _ _ t1 ts1 f1 h2 =>
  obtain ⟨x1, rfl⟩ := fit_b f1
  cases h2 with | cons _ _ t2 ts2 f2 h3 =>
  obtain ⟨x2, rfl⟩ := fit_i f2
  cases h3 with | cons _ _ t3 ts3 f3 h4 =>
  obtain ⟨x3, rfl⟩ := fit_i f3
  cases h4 with | cons _ _ t4 ts4 f4 h5 =>
  obtain ⟨x4, rfl⟩ := fit_i f4
  cases h5 with | cons _ _ t5 ts5 f5 h6 =>
  obtain ⟨x5, rfl⟩ := fit_i f5
  cases h6 with | cons _ _ t6 ts6 f6 h7 =>
  obtain ⟨x6, rfl, q6⟩ := fit_li f6
  cases h7 with | cons _ _ t7 ts7 f7 h8 =>
  obtain ⟨x7, rfl, q7⟩ := fit_li f7
  cases h8 with | cons _ _ t8 ts8 f8 h9 =>
  obtain ⟨x8, rfl⟩ := fit_i f8
  cases h9 with | cons _ _ t9 ts9 f9 h10 =>
  obtain ⟨x9, rfl, q9⟩ := fit_lLEnt f9
  cases h10 with | cons _ _ t10 ts10 f10 h11 =>
  obtain ⟨x10, rfl⟩ := fit_i f10
  cases h11 with | cons _ _ t11 ts11 f11 h12 =>
  obtain ⟨x11, rfl, q11⟩ := fit_lLEnt f11
  cases h12
  exact ⟨⟨x0, x1, x2, x3, ⟨x4, x5, x6, x7⟩, x8, x9, x10, x11⟩, rfl, q6, q7, q9, q11⟩
theorem fit_lSrv {t : T} (h : E.Fit (.sl shSrv) t) : ∃ l : List Srv, t = .s false 12 (l.map (eSrv false)) ∧ (l.length ≤ maxLen ∧ ∀ y ∈ l, LnSrv y) := by
  cases h with
  | sl _ es h hl =>
    obtain ⟨l, rfl, hp⟩ := E.FitEs.mapP (enc := (eSrv false)) (p := LnSrv) (fun e he => fit_Srv he) h
    exact ⟨l, rfl, by simpa using hl, hp⟩
structure Clu where
  now : Int
  srvs : List Srv
  sides : List Int
  mast : MLog
  mup : Int
  lse : Lse
  plcs : List Plc
instance : Inhabited Clu := ⟨⟨0, [], [], ⟨[], 0⟩, 0, ⟨0, 0, 0⟩, []⟩⟩
noncomputable instance : DecidableEq Clu := fun a b => Classical.propDecidable (a = b)
def eClu (o : Bool) (x : Clu) : List T := [.v (vi x.now), .s o 12 (x.srvs.map (eSrv o)), .s o 1 (x.sides.map eInt), .s o 4 (x.mast.confs.map (eConf o)), .v (vi x.mast.act), .v (vi x.mup), .v (vi x.lse.epoch), .v (vi x.lse.holder), .v (vi x.lse.til), .s o 3 (x.plcs.map ePlc)]
theorem eClu_eq (o : Bool) (x : Clu) : eClu o x = [.v (vi x.now), .s o 12 (x.srvs.map (eSrv o)), .s o 1 (x.sides.map eInt), .s o 4 (x.mast.confs.map (eConf o)), .v (vi x.mast.act), .v (vi x.mup), .v (vi x.lse.epoch), .v (vi x.lse.holder), .v (vi x.lse.til), .s o 3 (x.plcs.map ePlc)] := rfl
theorem own_eClu (l : List Clu) : ownEs (l.map (eClu true)) = true := E.ownEs_map (fun x => by simp [eClu, ownE, ownT, own_eConf, own_ePlc, own_eSrv, own_eInt]) l
theorem bor_eClu (o : Bool) (l : List Clu) : borEs (l.map (eClu o)) = l.map (eClu false) := E.borEs_map (fun x => by simp [eClu, borE, borT, bor_eConf, bor_ePlc, bor_eSrv, bor_eInt]) l
theorem one_eClu (o : Bool) (l : List Clu) : oneEs (l.map (eClu o)) = true := E.oneEs_map (fun _ => rfl) l
def shClu : List E.Sh := [.i .i64, .sl [.b, .b, .i .i64, .i .i64, .i .i64, .i .i64, .sl [.i .i64], .sl [.i .i64], .i .i64, .sl [.i .i64, .i .i64, .i .i64, .i .i64, .i .i64, .i .i64, .i .i64], .i .i64, .sl [.i .i64, .i .i64, .i .i64, .i .i64, .i .i64, .i .i64, .i .i64]], .sl [.i .i64], .sl [.i .i64, .i .i64, .sl [.i .i64], .sl [.i .i64]], .i .i64, .i .i64, .i .i64, .i .i64, .i .i64, .sl [.i .i64, .i .i64, .i .i64]]
def LnClu (x : Clu) : Prop := (x.srvs.length ≤ maxLen ∧ ∀ y ∈ x.srvs, LnSrv y) ∧ (x.sides.length ≤ maxLen) ∧ (x.mast.confs.length ≤ maxLen ∧ ∀ y ∈ x.mast.confs, LnConf y) ∧ (x.plcs.length ≤ maxLen)
theorem fit_Clu {ts : List T} (h0 : E.FitAll shClu ts) : ∃ x : Clu, ts = eClu false x ∧ LnClu x := by
  unfold shClu at h0
  cases h0 with | cons _ _ t0 ts0 f0 h1 =>
  obtain ⟨x0, rfl⟩ := fit_i f0
  cases h1 with | cons _ _ t1 ts1 f1 h2 =>
  obtain ⟨x1, rfl, q1⟩ := fit_lSrv f1
  cases h2 with | cons _ _ t2 ts2 f2 h3 =>
  obtain ⟨x2, rfl, q2⟩ := fit_li f2
  cases h3 with | cons _ _ t3 ts3 f3 h4 =>
  obtain ⟨x3, rfl, q3⟩ := fit_lConf f3
  cases h4 with | cons _ _ t4 ts4 f4 h5 =>
  obtain ⟨x4, rfl⟩ := fit_i f4
  cases h5 with | cons _ _ t5 ts5 f5 h6 =>
  obtain ⟨x5, rfl⟩ := fit_i f5
  cases h6 with | cons _ _ t6 ts6 f6 h7 =>
  obtain ⟨x6, rfl⟩ := fit_i f6
  cases h7 with | cons _ _ t7 ts7 f7 h8 =>
  obtain ⟨x7, rfl⟩ := fit_i f7
  cases h8 with | cons _ _ t8 ts8 f8 h9 =>
  obtain ⟨x8, rfl⟩ := fit_i f8
  cases h9 with | cons _ _ t9 ts9 f9 h10 =>
  obtain ⟨x9, rfl, q9⟩ := fit_lPlc f9
  cases h10
  exact ⟨⟨x0, x1, x2, ⟨x3, x4⟩, x5, ⟨x6, x7, x8⟩, x9⟩, rfl, q1, q2, q3, q9⟩
theorem fit_lClu {t : T} (h : E.Fit (.sl shClu) t) : ∃ l : List Clu, t = .s false 10 (l.map (eClu false)) ∧ (l.length ≤ maxLen ∧ ∀ y ∈ l, LnClu y) := by
  cases h with
  | sl _ es h hl =>
    obtain ⟨l, rfl, hp⟩ := E.FitEs.mapP (enc := (eClu false)) (p := LnClu) (fun e he => fit_Clu he) h
    exact ⟨l, rfl, by simpa using hl, hp⟩
structure Rep where
  code : Int
  res : Res
  idx : Int
instance : Inhabited Rep := ⟨⟨0, ⟨false, 0⟩, 0⟩⟩
noncomputable instance : DecidableEq Rep := fun a b => Classical.propDecidable (a = b)
def eRep (x : Rep) : List T := [.v (vi x.code), .v (.bool x.res.done), .v (vi x.res.val), .v (vi x.idx)]
theorem eRep_eq (x : Rep) : eRep x = [.v (vi x.code), .v (.bool x.res.done), .v (vi x.res.val), .v (vi x.idx)] := rfl
theorem own_eRep (l : List Rep) : ownEs (l.map eRep) = true := E.ownEs_map (fun _ => rfl) l
theorem bor_eRep (l : List Rep) : borEs (l.map eRep) = l.map eRep := E.borEs_map (fun _ => rfl) l
theorem scal_eRep (l : List Rep) : scalEs (l.map eRep) = true := E.scalEs_map (fun _ => rfl) l
theorem one_eRep (l : List Rep) : oneEs (l.map eRep) = true := E.oneEs_map (fun _ => rfl) l
structure Dmg where
  srv : Int
  idx : Int
instance : Inhabited Dmg := ⟨⟨0, 0⟩⟩
noncomputable instance : DecidableEq Dmg := fun a b => Classical.propDecidable (a = b)
def eDmg (x : Dmg) : List T := [.v (vi x.srv), .v (vi x.idx)]
theorem eDmg_eq (x : Dmg) : eDmg x = [.v (vi x.srv), .v (vi x.idx)] := rfl
theorem own_eDmg (l : List Dmg) : ownEs (l.map eDmg) = true := E.ownEs_map (fun _ => rfl) l
theorem bor_eDmg (l : List Dmg) : borEs (l.map eDmg) = l.map eDmg := E.borEs_map (fun _ => rfl) l
theorem scal_eDmg (l : List Dmg) : scalEs (l.map eDmg) = true := E.scalEs_map (fun _ => rfl) l
theorem one_eDmg (l : List Dmg) : oneEs (l.map eDmg) = true := E.oneEs_map (fun _ => rfl) l
theorem sz_eROp (l : List ROp) : szEs (l.map eROp) = true := szEs_map (fun x => by simp [eROp, szE, szT]) l
theorem sz_eRes (l : List Res) : szEs (l.map eRes) = true := szEs_map (fun x => by simp [eRes, szE, szT]) l
theorem sz_eSess (l : List Sess) : szEs (l.map eSess) = true := szEs_map (fun x => by simp [eSess, szE, szT]) l
theorem sz_eMach (o : Bool) (l : List Mach) : szEs (l.map (eMach o)) = true := szEs_map (fun x => by simp [eMach, szE, szT, sz_eSess, sz_eInt]) l
theorem sz_eLEnt (l : List LEnt) : szEs (l.map eLEnt) = true := szEs_map (fun x => by simp [eLEnt, szE, szT]) l
theorem sz_eConf (o : Bool) (l : List Conf) : szEs (l.map (eConf o)) = true := szEs_map (fun x => by simp [eConf, szE, szT, sz_eInt]) l
theorem sz_ePlc (l : List Plc) : szEs (l.map ePlc) = true := szEs_map (fun x => by simp [ePlc, szE, szT]) l
theorem sz_eMLog (o : Bool) (l : List MLog) : szEs (l.map (eMLog o)) = true := szEs_map (fun x => by simp [eMLog, szE, szT, sz_eConf]) l
theorem sz_eLse (l : List Lse) : szEs (l.map eLse) = true := szEs_map (fun x => by simp [eLse, szE, szT]) l
theorem sz_eSrv (o : Bool) (l : List Srv) : szEs (l.map (eSrv o)) = true := szEs_map (fun x => by simp [eSrv, szE, szT, sz_eLEnt, sz_eInt]) l
theorem sz_eClu (o : Bool) (l : List Clu) : szEs (l.map (eClu o)) = true := szEs_map (fun x => by simp [eClu, szE, szT, sz_eConf, sz_ePlc, sz_eSrv, sz_eInt]) l
theorem sz_eRep (l : List Rep) : szEs (l.map eRep) = true := szEs_map (fun x => by simp [eRep, szE, szT]) l
theorem sz_eDmg (l : List Dmg) : szEs (l.map eDmg) = true := szEs_map (fun x => by simp [eDmg, szE, szT]) l
theorem SZ : (∀ l : List Int, szEs (l.map eInt) = true) ∧ (∀ (l : List ROp), szEs (l.map eROp) = true) ∧ (∀ (l : List Res), szEs (l.map eRes) = true) ∧ (∀ (l : List Sess), szEs (l.map eSess) = true) ∧ (∀ o (l : List Mach), szEs (l.map (eMach o)) = true) ∧ (∀ (l : List LEnt), szEs (l.map eLEnt) = true) ∧ (∀ o (l : List Conf), szEs (l.map (eConf o)) = true) ∧ (∀ (l : List Plc), szEs (l.map ePlc) = true) ∧ (∀ o (l : List MLog), szEs (l.map (eMLog o)) = true) ∧ (∀ (l : List Lse), szEs (l.map eLse) = true) ∧ (∀ o (l : List Srv), szEs (l.map (eSrv o)) = true) ∧ (∀ o (l : List Clu), szEs (l.map (eClu o)) = true) ∧ (∀ (l : List Rep), szEs (l.map eRep) = true) ∧ (∀ (l : List Dmg), szEs (l.map eDmg) = true) := ⟨sz_eInt, sz_eROp, sz_eRes, sz_eSess, sz_eMach, sz_eLEnt, sz_eConf, sz_ePlc, sz_eMLog, sz_eLse, sz_eSrv, sz_eClu, sz_eRep, sz_eDmg⟩
theorem OWN : (∀ l : List Int, ownEs (l.map eInt) = true) ∧ (∀ l : List ROp, ownEs (l.map eROp) = true) ∧ (∀ l : List Res, ownEs (l.map eRes) = true) ∧ (∀ l : List Sess, ownEs (l.map eSess) = true) ∧ (∀ l : List Mach, ownEs (l.map (eMach true)) = true) ∧ (∀ l : List LEnt, ownEs (l.map eLEnt) = true) ∧ (∀ l : List Conf, ownEs (l.map (eConf true)) = true) ∧ (∀ l : List Plc, ownEs (l.map ePlc) = true) ∧ (∀ l : List MLog, ownEs (l.map (eMLog true)) = true) ∧ (∀ l : List Lse, ownEs (l.map eLse) = true) ∧ (∀ l : List Srv, ownEs (l.map (eSrv true)) = true) ∧ (∀ l : List Clu, ownEs (l.map (eClu true)) = true) ∧ (∀ l : List Rep, ownEs (l.map eRep) = true) ∧ (∀ l : List Dmg, ownEs (l.map eDmg) = true) := ⟨own_eInt, own_eROp, own_eRes, own_eSess, own_eMach, own_eLEnt, own_eConf, own_ePlc, own_eMLog, own_eLse, own_eSrv, own_eClu, own_eRep, own_eDmg⟩
theorem DE : (∀ x, eInt x = [.v (vi x)]) ∧ (∀ x, eROp x = [.v (vi x.client), .v (vi x.seq), .v (vi x.kind), .v (vi x.obj), .v (vi x.old), .v (vi x.val)]) ∧ (∀ x, eRes x = [.v (.bool x.done), .v (vi x.val)]) ∧ (∀ x, eSess x = [.v (vi x.client), .v (vi x.seq), .v (.bool x.res.done), .v (vi x.res.val)]) ∧ (∀ o x, eMach o x = [.s o 1 (x.objs.map eInt), .s o 4 (x.sess.map eSess)]) ∧ (∀ x, eLEnt x = [.v (vi x.epoch), .v (vi x.op.client), .v (vi x.op.seq), .v (vi x.op.kind), .v (vi x.op.obj), .v (vi x.op.old), .v (vi x.op.val)]) ∧ (∀ o x, eConf o x = [.v (vi x.epoch), .v (vi x.primary), .s o 1 (x.reps.map eInt), .s o 1 (x.wits.map eInt)]) ∧ (∀ x, ePlc x = [.v (vi x.rack), .v (vi x.cap), .v (vi x.load)]) ∧ (∀ o x, eMLog o x = [.s o 4 (x.confs.map (eConf o)), .v (vi x.act)]) ∧ (∀ x, eLse x = [.v (vi x.epoch), .v (vi x.holder), .v (vi x.til)]) ∧ (∀ o x, eSrv o x = [.v (.bool x.up), .v (.bool x.intact), .v (vi x.ver), .v (vi x.epoch), .v (vi x.conf.epoch), .v (vi x.conf.primary), .s o 1 (x.conf.reps.map eInt), .s o 1 (x.conf.wits.map eInt), .v (vi x.first), .s o 7 (x.log.map eLEnt), .v (vi x.commit), .s o 7 (x.learned.map eLEnt)]) ∧ (∀ o x, eClu o x = [.v (vi x.now), .s o 12 (x.srvs.map (eSrv o)), .s o 1 (x.sides.map eInt), .s o 4 (x.mast.confs.map (eConf o)), .v (vi x.mast.act), .v (vi x.mup), .v (vi x.lse.epoch), .v (vi x.lse.holder), .v (vi x.lse.til), .s o 3 (x.plcs.map ePlc)]) ∧ (∀ x, eRep x = [.v (vi x.code), .v (.bool x.res.done), .v (vi x.res.val), .v (vi x.idx)]) ∧ (∀ x, eDmg x = [.v (vi x.srv), .v (vi x.idx)]) := ⟨eInt_eq, eROp_eq, eRes_eq, eSess_eq, eMach_eq, eLEnt_eq, eConf_eq, ePlc_eq, eMLog_eq, eLse_eq, eSrv_eq, eClu_eq, eRep_eq, eDmg_eq⟩
theorem BOR : (∀ l : List Int, borEs (l.map eInt) = l.map eInt) ∧ (∀ (l : List ROp), borEs (l.map eROp) = l.map eROp) ∧ (∀ (l : List Res), borEs (l.map eRes) = l.map eRes) ∧ (∀ (l : List Sess), borEs (l.map eSess) = l.map eSess) ∧ (∀ o (l : List Mach), borEs (l.map (eMach o)) = l.map (eMach false)) ∧ (∀ (l : List LEnt), borEs (l.map eLEnt) = l.map eLEnt) ∧ (∀ o (l : List Conf), borEs (l.map (eConf o)) = l.map (eConf false)) ∧ (∀ (l : List Plc), borEs (l.map ePlc) = l.map ePlc) ∧ (∀ o (l : List MLog), borEs (l.map (eMLog o)) = l.map (eMLog false)) ∧ (∀ (l : List Lse), borEs (l.map eLse) = l.map eLse) ∧ (∀ o (l : List Srv), borEs (l.map (eSrv o)) = l.map (eSrv false)) ∧ (∀ o (l : List Clu), borEs (l.map (eClu o)) = l.map (eClu false)) ∧ (∀ (l : List Rep), borEs (l.map eRep) = l.map eRep) ∧ (∀ (l : List Dmg), borEs (l.map eDmg) = l.map eDmg) := ⟨bor_eInt, bor_eROp, bor_eRes, bor_eSess, bor_eMach, bor_eLEnt, bor_eConf, bor_ePlc, bor_eMLog, bor_eLse, bor_eSrv, bor_eClu, bor_eRep, bor_eDmg⟩
theorem ONE : (∀ l : List Int, oneEs (l.map eInt) = true) ∧ (∀ (l : List ROp), oneEs (l.map eROp) = true) ∧ (∀ (l : List Res), oneEs (l.map eRes) = true) ∧ (∀ (l : List Sess), oneEs (l.map eSess) = true) ∧ (∀ o (l : List Mach), oneEs (l.map (eMach o)) = true) ∧ (∀ (l : List LEnt), oneEs (l.map eLEnt) = true) ∧ (∀ o (l : List Conf), oneEs (l.map (eConf o)) = true) ∧ (∀ (l : List Plc), oneEs (l.map ePlc) = true) ∧ (∀ o (l : List MLog), oneEs (l.map (eMLog o)) = true) ∧ (∀ (l : List Lse), oneEs (l.map eLse) = true) ∧ (∀ o (l : List Srv), oneEs (l.map (eSrv o)) = true) ∧ (∀ o (l : List Clu), oneEs (l.map (eClu o)) = true) ∧ (∀ (l : List Rep), oneEs (l.map eRep) = true) ∧ (∀ (l : List Dmg), oneEs (l.map eDmg) = true) := ⟨one_eInt, one_eROp, one_eRes, one_eSess, one_eMach, one_eLEnt, one_eConf, one_ePlc, one_eMLog, one_eLse, one_eSrv, one_eClu, one_eRep, one_eDmg⟩
theorem SCAL : (∀ l : List Int, scalEs (l.map eInt) = true) ∧ (∀ l : List ROp, scalEs (l.map eROp) = true) ∧ (∀ l : List Res, scalEs (l.map eRes) = true) ∧ (∀ l : List Sess, scalEs (l.map eSess) = true) ∧ (∀ l : List LEnt, scalEs (l.map eLEnt) = true) ∧ (∀ l : List Plc, scalEs (l.map ePlc) = true) ∧ (∀ l : List Lse, scalEs (l.map eLse) = true) ∧ (∀ l : List Rep, scalEs (l.map eRep) = true) ∧ (∀ l : List Dmg, scalEs (l.map eDmg) = true) := ⟨scal_eInt, scal_eROp, scal_eRes, scal_eSess, scal_eLEnt, scal_ePlc, scal_eLse, scal_eRep, scal_eDmg⟩
theorem ETA : (∀ x : ROp, ROp.mk x.client x.seq x.kind x.obj x.old x.val = x) ∧ (∀ x : Res, Res.mk x.done x.val = x) ∧ (∀ x : Sess, Sess.mk x.client x.seq x.res = x) ∧ (∀ x : Mach, Mach.mk x.objs x.sess = x) ∧ (∀ x : LEnt, LEnt.mk x.epoch x.op = x) ∧ (∀ x : Conf, Conf.mk x.epoch x.primary x.reps x.wits = x) ∧ (∀ x : Plc, Plc.mk x.rack x.cap x.load = x) ∧ (∀ x : MLog, MLog.mk x.confs x.act = x) ∧ (∀ x : Lse, Lse.mk x.epoch x.holder x.til = x) ∧ (∀ x : Srv, Srv.mk x.up x.intact x.ver x.epoch x.conf x.first x.log x.commit x.learned = x) ∧ (∀ x : Clu, Clu.mk x.now x.srvs x.sides x.mast x.mup x.lse x.plcs = x) ∧ (∀ x : Rep, Rep.mk x.code x.res x.idx = x) ∧ (∀ x : Dmg, Dmg.mk x.srv x.idx = x) := ⟨fun _ => rfl, fun _ => rfl, fun _ => rfl, fun _ => rfl, fun _ => rfl, fun _ => rfl, fun _ => rfl, fun _ => rfl, fun _ => rfl, fun _ => rfl, fun _ => rfl, fun _ => rfl, fun _ => rfl⟩
end Go.Abs
set_option linter.unusedVariables false
set_option linter.unusedSimpArgs false
namespace Go.Abs
def inR (x lo hi : Int) : Bool := decide (lo ≤ x) && decide (x ≤ hi)
theorem inR_iff {x lo hi : Int} : inR x lo hi = true ↔ lo ≤ x ∧ x ≤ hi := by simp [inR]
theorem inR_of {x lo hi : Int} (h : inR x lo hi = true) : lo ≤ x ∧ x ≤ hi := inR_iff.1 h
theorem inR_no {x lo hi : Int} (h : inR x lo hi = false) : x < lo ∨ hi < x := by
  simp only [inR, Bool.and_eq_false_iff, decide_eq_false_iff_not] at h; omega
def srvGo : Option Int → List Int → Bool
  | _, [] => true
  | p, x :: xs => inR x 0 4 && (match p with
    | none => true
    | some y => decide (y < x)) && srvGo (some x) xs
def areServers (l : List Int) : Bool := srvGo none l
def Asc (l : List Int) : Prop := l.Pairwise (· < ·)
theorem srvGo_some {l : List Int} : ∀ {y : Int}, srvGo (some y) l = true → Asc l ∧ ∀ x ∈ l, y < x ∧ 0 ≤ x ∧ x ≤ 4 := by
  induction l with
  | nil => intro y _; exact ⟨.nil, by simp⟩
  | cons x l ih =>
    intro y h
    simp only [srvGo, Bool.and_eq_true, decide_eq_true_eq, inR_iff] at h
    obtain ⟨h1, h2⟩ := ih h.2
    refine ⟨.cons (fun z hz => (h2 z hz).1) h1, fun z hz => ?_⟩
    rcases List.mem_cons.1 hz with rfl | hz
    · omega
    · have := h2 z hz; omega
theorem areServers_of {l : List Int} (h : areServers l = true) : Asc l ∧ ∀ x ∈ l, 0 ≤ x ∧ x ≤ 4 := by
  cases l with
  | nil => exact ⟨.nil, by simp⟩
  | cons x l =>
    simp only [areServers, srvGo, Bool.and_eq_true, inR_iff, Bool.and_true] at h
    obtain ⟨h1, h2⟩ := srvGo_some h.2
    refine ⟨.cons (fun z hz => (h2 z hz).1) h1, fun z hz => ?_⟩
    rcases List.mem_cons.1 hz with rfl | hz
    · omega
    · have := h2 z hz; omega
theorem asc_len : ∀ {l : List Int} (lo hi : Int), Asc l → (∀ x ∈ l, lo ≤ x ∧ x ≤ hi) → (l.length : Int) ≤ max 0 (hi - lo + 1)
  | [], lo, hi, _, _ => by simp; omega
  | x :: l, lo, hi, h, hb => by
    cases h with | cons h1 h2 =>
    have hx := hb x (by simp)
    have ih := asc_len (x + 1) hi h2 fun z hz => ⟨by have := h1 z hz; omega, (hb z (by simp [hz])).2⟩
    simp only [List.length_cons]
    omega
theorem areServers_len {l : List Int} (h : areServers l = true) : l.length ≤ 5 := by
  obtain ⟨h1, h2⟩ := areServers_of h
  have := asc_len 0 4 h1 h2
  omega
theorem areServers_iff {l : List Int} : areServers l = true ↔ Asc l ∧ ∀ x ∈ l, 0 ≤ x ∧ x ≤ 4 := by
  refine ⟨areServers_of, fun ⟨h1, h2⟩ => ?_⟩
  have key : ∀ (l : List Int) (y : Int), Asc l → (∀ x ∈ l, y < x ∧ 0 ≤ x ∧ x ≤ 4) → srvGo (some y) l = true := by
    intro l
    induction l with
    | nil => intro y _ _; rfl
    | cons x l ih =>
      intro y h1 h2
      cases h1 with | cons h3 h4 =>
      have := h2 x (by simp)
      simp only [srvGo, Bool.and_eq_true, decide_eq_true_eq, inR_iff]
      exact ⟨⟨⟨this.2.1, this.2.2⟩, this.1⟩, ih x h4 fun z hz => ⟨h3 z hz, (h2 z (by simp [hz])).2⟩⟩
  cases l with
  | nil => rfl
  | cons x l =>
    cases h1 with | cons h3 h4 =>
    have := h2 x (by simp)
    simp only [areServers, srvGo, Bool.and_eq_true, inR_iff, Bool.and_true]
    exact ⟨this, key l x h4 fun z hz => ⟨h3 z hz, h2 z (by simp [hz])⟩⟩
def putI : List Int → Int → List Int
  | [], x => [x]
  | y :: ys, x => if y < x then y :: putI ys x else if y = x then y :: ys else x :: y :: ys
def puts (l : List Int) : List Int := l.foldl putI []
theorem mem_putI {l : List Int} {x z : Int} : z ∈ putI l x ↔ z ∈ l ∨ z = x := by
  induction l with
  | nil => simp [putI]
  | cons y l ih =>
    simp only [putI]
    split
    · simp only [List.mem_cons, ih]; exact or_assoc.symm
    · split
      · rename_i h; subst h; simp; intro h; exact .inl h
      · simp only [List.mem_cons]; exact or_comm
theorem asc_putI {l : List Int} {x : Int} (h : Asc l) : Asc (putI l x) := by
  induction l with
  | nil => simp [putI, Asc]
  | cons y l ih =>
    cases h with | cons h1 h2 =>
    simp only [putI]
    split
    · rename_i hy
      refine .cons (fun z hz => ?_) (ih h2)
      rcases mem_putI.1 hz with hz | rfl
      · exact h1 z hz
      · exact hy
    · split
      · exact .cons h1 h2
      · refine .cons (fun z hz => ?_) (.cons h1 h2)
        rcases List.mem_cons.1 hz with rfl | hz
        · omega
        · have := h1 z hz; omega
theorem foldl_putI_asc {l : List Int} : ∀ {s : List Int}, Asc s → Asc (l.foldl putI s) := by
  induction l with
  | nil => intro s h; exact h
  | cons x l ih => intro s h; exact ih (asc_putI h)
theorem foldl_putI_mem {l : List Int} : ∀ {s : List Int} {z : Int}, z ∈ l.foldl putI s ↔ z ∈ s ∨ z ∈ l := by
  induction l with
  | nil => intro s z; simp
  | cons x l ih => intro s z; simp only [List.foldl_cons, ih, mem_putI, List.mem_cons]; exact or_assoc
theorem asc_puts (l : List Int) : Asc (puts l) := foldl_putI_asc .nil
theorem mem_puts {l : List Int} {z : Int} : z ∈ puts l ↔ z ∈ l := by simp [puts, foldl_putI_mem]
theorem asc_ext : ∀ {a b : List Int}, Asc a → Asc b → (∀ z, z ∈ a ↔ z ∈ b) → a = b
  | [], [], _, _, _ => rfl
  | [], y :: b, _, _, h => by have := (h y).2 (by simp); simp at this
  | x :: a, [], _, _, h => by have := (h x).1 (by simp); simp at this
  | x :: a, y :: b, ha, hb, h => by
    cases ha with | cons a1 a2 =>
    cases hb with | cons b1 b2 =>
    have hxy : x = y := by
      rcases List.mem_cons.1 ((h x).1 (by simp)) with e | e
      · exact e
      · rcases List.mem_cons.1 ((h y).2 (by simp)) with e2 | e2
        · exact e2.symm
        · have := b1 x e; have := a1 y e2; omega
    subst hxy
    congr 1
    refine asc_ext a2 b2 fun z => ⟨fun hz => ?_, fun hz => ?_⟩
    · rcases List.mem_cons.1 ((h z).1 (by simp [hz])) with e | e
      · have := a1 z hz; omega
      · exact e
    · rcases List.mem_cons.1 ((h z).2 (by simp [hz])) with e | e
      · have := b1 z hz; omega
      · exact e
theorem asc_filter {l : List Int} {p : Int → Bool} (h : Asc l) : Asc (l.filter p) := List.Pairwise.filter p h
def unite (a b : List Int) : List Int := b.foldl putI (a.foldl putI [])
def common (a b : List Int) : List Int := puts (a.filter fun x => b.contains x)
def without (a b : List Int) : List Int := puts (a.filter fun x => !b.contains x)
theorem unite_eq (a b : List Int) : unite a b = puts (a ++ b) := by simp [unite, puts, List.foldl_append]
theorem mem_unite {a b : List Int} {z : Int} : z ∈ unite a b ↔ z ∈ a ∨ z ∈ b := by rw [unite_eq, mem_puts, List.mem_append]
theorem mem_common {a b : List Int} {z : Int} : z ∈ common a b ↔ z ∈ a ∧ z ∈ b := by simp [common, mem_puts]
theorem mem_without {a b : List Int} {z : Int} : z ∈ without a b ↔ z ∈ a ∧ z ∉ b := by simp [without, mem_puts]
theorem without_eq (a b : List Int) : without a b = (puts a).filter fun x => !b.contains x :=
  asc_ext (asc_puts _) (asc_filter (asc_puts a)) fun z => by simp [mem_without, mem_puts]
theorem common_eq (a b : List Int) : common a b = without a (without a b) :=
  asc_ext (asc_puts _) (asc_puts _) fun z => by
    rw [mem_common, mem_without, mem_without]
    constructor
    · rintro ⟨h1, h2⟩; exact ⟨h1, fun h => h.2 h2⟩
    · rintro ⟨h1, h2⟩; exact ⟨h1, Classical.byContradiction fun h => h2 ⟨h1, h⟩⟩
def validOp (o : ROp) : Bool := inR o.client 0 2 && inR o.seq 1 99 && inR o.obj 0 2 && inR o.val 0 9 && (o.kind == 1 && o.old == 0 || o.kind == 2 && inR o.old 0 9)
def isNew (o : ROp) : Bool := o.kind == 2
end Go.Abs
set_option linter.unusedVariables false
set_option linter.unusedSimpArgs false
namespace Go.Abs
noncomputable section
def noRes : Res := ⟨false, 0⟩
def noMach : Mach := ⟨[], []⟩
def newMach : Mach := ⟨[0, 0, 0], []⟩
def noConf : Conf := ⟨0, 0, [], []⟩
def noLse : Lse := ⟨0, 0, 0⟩
def sessGo : Option Int → List Sess → Bool
  | _, [] => true
  | p, s :: ss => inR s.client 0 2 && (match p with
    | none => true
    | some y => decide (y < s.client)) && inR s.seq 1 99 && inR s.res.val 0 9 && sessGo (some s.client) ss
def validMach (m : Mach) : Bool := ((m.objs.length : Int) == 3) && m.objs.all (fun v => inR v 0 9) && sessGo none m.sess
def sessOf (m : Mach) (c : Int) : Option Sess := m.sess.find? fun s => s.client == c
def before (ss : List Sess) (c : Int) : Nat := (ss.takeWhile fun s => decide (s.client < c)).length
def stepOp (m : Mach) (o : ROp) (had : Bool) : Mach × Res :=
  let was := at' m.objs o.obj.toNat
  let r : Res := ⟨o.kind == 1 || was == o.old, was⟩
  let k := before m.sess o.client
  (⟨if r.done then m.objs.set o.obj.toNat o.val else m.objs, if had then m.sess.set k ⟨o.client, o.seq, r⟩ else m.sess.take k ++ ⟨o.client, o.seq, r⟩ :: m.sess.drop k⟩, r)
def applyOp (m : Mach) (o : ROp) : Mach × Res × Bool :=
  if validMach m && validOp o then
    match sessOf m o.client with
    | some s => if o.seq < s.seq then (m, noRes, false) else if s.seq = o.seq then (m, s.res, true) else ((stepOp m o true).1, (stepOp m o true).2, true)
    | none => ((stepOp m o false).1, (stepOp m o false).2, true)
  else (m, noRes, false)
def logGo : Option Int → List LEnt → Bool
  | _, [] => true
  | p, e :: es => inR e.epoch 1 20 && (match p with
    | none => true
    | some y => decide (y ≤ e.epoch)) && validOp e.op && logGo (some e.epoch) es
def isLog (l : List LEnt) : Bool := logGo none l && decide ((l.length : Int) ≤ 16)
def comPre : List LEnt → List LEnt → Nat
  | x :: xs, y :: ys => if x = y then comPre xs ys + 1 else 0
  | _, _ => 0
def replayM (l : List LEnt) : Mach := l.foldl (fun m e => (applyOp m e.op).1) newMach
def replay (l : List LEnt) : Mach × Bool := if isLog l then (replayM l, true) else (noMach, false)
def resAt (l : List LEnt) (i : Int) : Res × Bool :=
  if isLog l && inR i 0 ((l.length : Int) - 1) then ((applyOp (replay (l.take i.toNat)).1 (at' l i.toNat).op).2.1, (applyOp (replay (l.take i.toNat)).1 (at' l i.toNat).op).2.2) else (noRes, false)
def findGo (c s : Int) (i : Nat) : List LEnt → Int
  | [] => -1
  | e :: es => if e.op.client = c ∧ e.op.seq = s then i else findGo c s (i + 1) es
def findOp (l : List LEnt) (c s : Int) : Int := findGo c s 0 l
def validConf (c : Conf) : Bool := inR c.epoch 1 20 && areServers c.reps && areServers c.wits && c.reps.contains c.primary && (((common c.reps c.wits).length : Int) == 0)
def membersOf (c : Conf) : List Int := if validConf c then unite c.reps c.wits else []
def roleOf (c : Conf) (id : Int) : Int := if validConf c then (if id = c.primary then 1 else if c.reps.contains id then 2 else if c.wits.contains id then 3 else 0) else 0
def arePlaces (l : List Plc) : Bool := ((l.length : Int) == 5) && l.all fun p => inR p.rack 0 9 && inR p.cap 0 9 && inR p.load 0 99
def hasRoom (l : List Plc) (id : Int) : Bool := arePlaces l && inR id 0 4 && decide ((at' l id.toNat).load < (at' l id.toNat).cap)
def racksOf (l : List Plc) (ms : List Int) : List Int := if arePlaces l && areServers ms then puts (ms.map fun id => (at' l id.toNat).rack) else []
def confsGo (i : Nat) : List Conf → Bool
  | [] => true
  | c :: cs => validConf c && (c.epoch == (i : Int) + 1) && confsGo (i + 1) cs
def isML (m : MLog) : Bool := confsGo 0 m.confs && inR m.act 0 m.confs.length
def confAt (m : MLog) (e : Int) : Conf × Bool := if isML m && inR e 1 m.confs.length then (at' m.confs (e - 1).toNat, true) else (noConf, false)
def lastChosen (m : MLog) : Conf × Bool := confAt m m.confs.length
def lastAct (m : MLog) : Conf × Bool := confAt m m.act
def isLease (l : Lse) : Bool := (l == noLse) || inR l.epoch 1 20 && inR l.holder 0 4 && inR l.til 1 1049
def safeTime (l : Lse) : Int := if l = noLse ∨ isLease l = false then 0 else l.til + 3
def leaseOver (l : Lse) (now : Int) : Bool := isLease l && inR now 0 999 && decide (safeTime l ≤ now)
def lastE (l : List LEnt) : Int := match l.getLast? with
  | some e => e.epoch
  | none => 0
def isTail (first : Int) (t : List LEnt) : Bool := isLog t && decide ((t.length : Int) ≤ 3) && inR first 0 (16 - (t.length : Int)) && ((first == 0) || ((t.length : Int) == 3))
def validSrv (s : Srv) (id : Int) : Bool :=
  if inR s.ver 1 2 && inR s.epoch 0 20 && isLog s.log && isLog s.learned && inR s.first 0 16 && decide (s.first + s.log.length ≤ 16) && inR s.commit 0 (s.first + s.log.length) then
    if s.conf = noConf then (s.first == 0) && (s.commit == 0) && ((s.log.length : Int) == 0)
    else if s.intact && decide (s.conf.epoch ≤ s.epoch) && decide (lastE s.log ≤ s.conf.epoch) then
      (if roleOf s.conf id = 1 ∨ roleOf s.conf id = 2 then s.first == 0 else if roleOf s.conf id = 3 then isTail s.first s.log else false)
    else false
  else false
def primNow (s : Srv) (id : Int) : Bool := validSrv s id && s.up && (roleOf s.conf id == 1) && (s.epoch == s.conf.epoch)
def sealS (s : Srv) (e : Int) : Srv × Bool := if inR e 1 20 && decide (0 ≤ s.epoch) && decide (s.epoch < e) then (⟨s.up, s.intact, s.ver, e, s.conf, s.first, s.log, s.commit, s.learned⟩, true) else (s, false)
def hasNew (l : List LEnt) : Bool := l.any fun e => isNew e.op
def cutTail (l : List LEnt) : Int × List LEnt := if isLog l then (max 0 ((l.length : Int) - 3), l.drop (l.length - 3)) else (0, [])
def install (s : Srv) (c : Conf) (id : Int) (l : List LEnt) : Srv × Bool :=
  if roleOf c id = 0 ∨ isLog l = false ∨ inR s.ver 1 2 = false ∨ inR s.epoch 0 c.epoch = false ∨ c.epoch < lastE l ∨ (s.ver = 1 ∧ hasNew l = true) then (s, false)
  else if roleOf c id = 3 then (⟨s.up, true, s.ver, c.epoch, c, (cutTail l).1, (cutTail l).2, l.length, []⟩, true)
  else (⟨s.up, true, s.ver, c.epoch, c, 0, l, l.length, []⟩, true)
def comPart (s : Srv) : List LEnt := if s.first < 0 ∨ inR s.commit s.first (IntKind.i64.wrap (s.first + s.log.length)) = false then [] else s.log.take (s.commit - s.first).toNat
def joinTail (base : List LEnt) (first : Int) (t : List LEnt) : Option (List LEnt) :=
  if isLog base && isTail first t && decide (first ≤ base.length) then
    let both := min t.length (base.length - first.toNat)
    let out := base ++ t.drop both
    if (base.drop first.toNat).take both = t.take both ∧ isLog out = true then some out else none
  else none
def side (x : Int) : Bool := inR x 0 3
def areSides (l : List Int) : Bool := ((l.length : Int) == 5) && l.all side
def sameSide (l : List Int) (a b : Int) : Bool := areSides l && inR a 0 4 && inR b 0 4 && (at' l a.toNat == at' l b.toNat)
def srvsOK (c : Clu) (i : Nat) : List Srv → Bool
  | [] => true
  | s :: ss => validSrv s i && decide (s.epoch ≤ c.mast.confs.length) && decide (lastE s.learned ≤ c.mast.act) &&
    (decide (s.conf = noConf) || ((confAt c.mast s.conf.epoch).2 && decide ((confAt c.mast s.conf.epoch).1 = s.conf) && decide (s.conf.epoch ≤ c.mast.act))) && srvsOK c (i + 1) ss
def validClu (c : Clu) : Bool := inR c.now 0 999 && ((c.srvs.length : Int) == 5) && areSides c.sides && isML c.mast && isLease c.lse && arePlaces c.plcs && inR c.mup 0 3 && decide (c.lse.epoch ≤ c.mast.act) && srvsOK c 0 c.srvs
def srvAt (c : Clu) (id : Int) : Srv := at' c.srvs id.toNat
def hasSrv (c : Clu) (id : Int) : Bool := validClu c && inR id 0 4
def setSrv (c : Clu) (id : Int) (s : Srv) : Clu := ⟨c.now, c.srvs.set id.toNat s, c.sides, c.mast, c.mup, c.lse, c.plcs⟩
def whereGo (p : Int → Srv → Bool) (i : Nat) : List Srv → List Int
  | [] => []
  | s :: ss => if p i s then (i : Int) :: whereGo p (i + 1) ss else whereGo p (i + 1) ss
def hears (c : Clu) (id m : Int) : Bool := sameSide c.sides id m && (srvAt c m).up && ((srvAt c m).epoch == (srvAt c id).epoch) && decide ((srvAt c m).conf = (srvAt c id).conf) && decide ((srvAt c m).commit ≤ (srvAt c id).log.length)
def primAt (c : Clu) (id : Int) : Bool := hasSrv c id && primNow (srvAt c id) id
def groupFmt (c : Clu) (id : Int) : Int := if primAt c id then (membersOf (srvAt c id).conf).foldl (fun m x => min m (srvAt c x).ver) 2 else 0
def mastersWork (c : Clu) : Bool := decide (3 < 2 * c.mup)
def hasEpoch (c : Clu) (id o e : Int) : Bool := (srvAt c o).up && sameSide c.sides id o && ((srvAt c o).conf.epoch == e)
def sourcesFor (c : Clu) (id : Int) : List Int := if (lastAct c.mast).2 && hasSrv c id then (lastAct c.mast).1.reps.filter fun o => hasEpoch c id o (lastAct c.mast).1.epoch else []
def bestOf (c : Clu) (b : Int) : List Int → Int
  | [] => b
  | o :: os => bestOf c (if b < 0 ∨ (srvAt c b).log.length < (srvAt c o).log.length then o else b) os
def bestSource (c : Clu) (id : Int) : Int := bestOf c (-1) (sourcesFor c id)
def servingPrim (c : Clu) : Int :=
  let x := (lastAct c.mast).1
  if (lastAct c.mast).2 && primAt c x.primary && ((srvAt c x.primary).conf.epoch == x.epoch) && (membersOf x).all (fun id => hears c x.primary id) then x.primary else -1
def isServing (c : Clu) : Bool := servingPrim c != -1
end
end Go.Abs
set_option linter.unusedVariables false
set_option linter.unusedSimpArgs false
namespace Go.Abs
theorem isLog_len {l : List LEnt} (h : isLog l = true) : l.length ≤ 16 := by
  simp only [isLog, Bool.and_eq_true, decide_eq_true_eq] at h; omega
theorem confsGo_at : ∀ {cs : List Conf} {i : Nat}, confsGo i cs = true → ∀ {j : Nat}, j < cs.length → validConf (at' cs j) = true ∧ (at' cs j).epoch = (i : Int) + j + 1
  | [], i, _, j, h => by simp at h
  | c :: cs, i, h, 0, _ => by
    simp only [confsGo, Bool.and_eq_true, beq_iff_eq] at h
    exact ⟨h.1.1, by simpa [at'] using h.1.2⟩
  | c :: cs, i, h, j + 1, hj => by
    simp only [confsGo, Bool.and_eq_true, beq_iff_eq] at h
    have := confsGo_at h.2 (j := j) (by simpa using hj)
    refine ⟨this.1, ?_⟩
    have h2 := this.2
    simp only [at', List.getD_cons_succ] at h2 ⊢
    omega
theorem validConf_of {c : Conf} (h : validConf c = true) : 1 ≤ c.epoch ∧ c.epoch ≤ 20 ∧ areServers c.reps = true ∧ areServers c.wits = true ∧ c.primary ∈ c.reps ∧ common c.reps c.wits = [] := by
  simp only [validConf, Bool.and_eq_true, inR_iff, List.contains_iff_mem, beq_iff_eq] at h
  obtain ⟨⟨⟨⟨⟨h1, h2⟩, h3⟩, h4⟩, h5⟩, h6⟩ := h
  exact ⟨h1, h2, h3, h4, h5, List.eq_nil_of_length_eq_zero (by omega)⟩
theorem isML_of {m : MLog} (h : isML m = true) : m.confs.length ≤ 20 ∧ 0 ≤ m.act ∧ m.act ≤ m.confs.length := by
  simp only [isML, Bool.and_eq_true, inR_iff] at h
  refine ⟨?_, h.2⟩
  by_cases h0 : m.confs.length = 0
  · omega
  · have := confsGo_at h.1 (j := m.confs.length - 1) (by omega)
    have h3 := validConf_of this.1
    have h4 := this.2
    simp only [Int.natCast_zero] at h4
    omega
theorem validClu_of {c : Clu} (h : validClu c = true) : 0 ≤ c.now ∧ c.now ≤ 999 ∧ c.srvs.length = 5 ∧ areSides c.sides = true ∧ isML c.mast = true ∧ isLease c.lse = true ∧ arePlaces c.plcs = true ∧ 0 ≤ c.mup ∧ c.mup ≤ 3 ∧ c.lse.epoch ≤ c.mast.act ∧ srvsOK c 0 c.srvs = true := by
  simp only [validClu, Bool.and_eq_true, inR_iff, beq_iff_eq, decide_eq_true_eq] at h
  obtain ⟨⟨⟨⟨⟨⟨⟨⟨h1, h2⟩, h3⟩, h4⟩, h5⟩, h6⟩, h7⟩, h8⟩, h9⟩ := h
  exact ⟨h1.1, h1.2, by omega, h3, h4, h5, h6, h7.1, h7.2, h8, h9⟩
theorem areSides_len {l : List Int} (h : areSides l = true) : l.length = 5 := by
  simp only [areSides, Bool.and_eq_true, beq_iff_eq] at h
  omega
theorem arePlaces_len {l : List Plc} (h : arePlaces l = true) : l.length = 5 := by
  simp only [arePlaces, Bool.and_eq_true, beq_iff_eq] at h
  omega
theorem srvsOK_at {c : Clu} : ∀ {ss : List Srv} {i : Nat}, srvsOK c i ss = true → ∀ {j : Nat}, j < ss.length → validSrv (at' ss j) (((i + j : Nat)) : Int) = true ∧ (at' ss j).epoch ≤ c.mast.confs.length ∧ lastE (at' ss j).learned ≤ c.mast.act ∧
    ((at' ss j).conf = noConf ∨ ((confAt c.mast (at' ss j).conf.epoch).2 = true ∧ (confAt c.mast (at' ss j).conf.epoch).1 = (at' ss j).conf ∧ (at' ss j).conf.epoch ≤ c.mast.act))
  | [], i, _, j, h => by simp at h
  | s :: ss, i, h, 0, _ => by
    simp only [srvsOK, Bool.and_eq_true, Bool.or_eq_true, decide_eq_true_eq] at h
    obtain ⟨⟨⟨⟨h1, h2⟩, h3⟩, h4⟩, h5⟩ := h
    refine ⟨by simpa [at'] using h1, by simpa [at'] using h2, by simpa [at'] using h3, ?_⟩
    rcases h4 with h4 | h4
    · exact .inl (by simpa [at'] using h4)
    · exact .inr (by simpa [at'] using ⟨h4.1.1, h4.1.2, h4.2⟩)
  | s :: ss, i, h, j + 1, hj => by
    simp only [srvsOK, Bool.and_eq_true] at h
    have := srvsOK_at h.2 (j := j) (by simpa using hj)
    simp only [at', List.getD_cons_succ] at this ⊢
    rw [show i + (j + 1) = i + 1 + j by omega]
    exact this
end Go.Abs
set_option linter.unusedVariables false
set_option linter.unusedSimpArgs false
namespace Go.Abs
def Srt (l : List Int) : Prop := l.Pairwise (· ≤ ·)
def srt (l : List Int) : List Int := l.mergeSort fun a b => decide (a ≤ b)
theorem srt_uniq : ∀ {a b : List Int}, a.Perm b → Srt a → Srt b → a = b
  | [], b, hp, _, _ => (List.Perm.nil_eq hp)
  | x :: a, [], hp, _, _ => by simp at hp
  | x :: a, y :: b, hp, ha, hb => by
    obtain ⟨h1, h2⟩ := List.pairwise_cons.1 ha
    obtain ⟨h3, h4⟩ := List.pairwise_cons.1 hb
    have hx : x ∈ y :: b := hp.subset (List.mem_cons_self ..)
    have hy : y ∈ x :: a := hp.symm.subset (List.mem_cons_self ..)
    have e : x = y := by
      rcases List.mem_cons.1 hx with h | h
      · exact h
      · rcases List.mem_cons.1 hy with h' | h'
        · exact h'.symm
        · have := h1 y h'; have := h3 x h; omega
    subst e
    rw [srt_uniq (List.Perm.cons_inv hp) h2 h4]
theorem srt_perm (l : List Int) : (srt l).Perm l := List.mergeSort_perm l _
theorem srt_srt (l : List Int) : Srt (srt l) := by
  have := List.pairwise_mergeSort (le := fun a b : Int => decide (a ≤ b)) (by intro a b c; simp; omega) (by intro a b; simp; omega) l
  exact this.imp (by intro a b h; simpa using h)
theorem srt_len (l : List Int) : (srt l).length = l.length := (srt_perm l).length_eq
theorem srt_of {a l : List Int} (hp : a.Perm l) (hs : Srt a) : a = srt l := srt_uniq (hp.trans (srt_perm l).symm) hs (srt_srt l)
def InsI (d : List Int) (i j : Nat) : Prop := ∀ a b, a < b → b ≤ i → b ≠ j → at' d a ≤ at' d b
theorem srt_of_at {d : List Int} (h : ∀ a b, a < b → b < d.length → at' d a ≤ at' d b) : Srt d := by
  refine List.pairwise_iff_getElem.2 fun i j hi hj hij => ?_
  have := h i j hij hj
  simpa [at', hi, hj] using this
theorem InsI.done {d : List Int} {i j : Nat} (h : InsI d i j) (hj : j = 0 ∨ at' d (j - 1) ≤ at' d j) : ∀ a b, a < b → b ≤ i → at' d a ≤ at' d b := by
  intro a b hab hb
  by_cases hbj : b = j
  · subst hbj
    rcases hj with hj | hj
    · omega
    · by_cases haj : a = b - 1
      · rw [haj]; exact hj
      · have := h a (b - 1) (by omega) (by omega) (by omega)
        omega
  · exact h a b hab hb hbj
def swp (d : List Int) (j : Nat) : List Int := (d.set j (at' d (j - 1))).set (j - 1) (at' d j)
theorem swp_len (d : List Int) (j : Nat) : (swp d j).length = d.length := by simp [swp]
theorem swp_at {d : List Int} {j : Nat} (hj : 0 < j) (hd : j < d.length) (a : Nat) : at' (swp d j) a = if a = j then at' d (j - 1) else if a = j - 1 then at' d j else at' d a := by
  simp only [swp, at', List.getD_eq_getElem?_getD, List.getElem?_set, List.length_set]
  by_cases h1 : a = j - 1
  · subst h1
    simp only [if_true, show ¬ (j - 1 = j) by omega, if_false, show j - 1 < d.length by omega, Option.getD_some]
  · by_cases h2 : a = j
    · subst h2
      simp only [show ¬ (a - 1 = a) by omega, if_false, if_true, hd, Option.getD_some]
    · simp only [show ¬ (j - 1 = a) by omega, show ¬ (j = a) by omega, if_false, if_neg h1, if_neg h2]
theorem swp_perm {d : List Int} {j : Nat} (hj : 0 < j) (hd : j < d.length) : (swp d j).Perm d := by
  have h1 : d = d.take (j - 1) ++ (at' d (j - 1) :: at' d j :: d.drop (j + 1)) := by
    have e1 := List.take_append_drop (j - 1) d
    have e2 : d.drop (j - 1) = at' d (j - 1) :: at' d j :: d.drop (j + 1) := by
      rw [drop_at (by omega), show j - 1 + 1 = j by omega, drop_at hd]
    rw [e2] at e1
    exact e1.symm
  have h2 : swp d j = d.take (j - 1) ++ (at' d j :: at' d (j - 1) :: d.drop (j + 1)) := by
    apply List.ext_getElem?
    intro k
    have hl : (d.take (j - 1)).length = j - 1 := by simp; omega
    by_cases hk : k < j - 1
    · rw [List.getElem?_append_left (by omega)]
      simp only [swp, List.getElem?_set, List.length_set, List.getElem?_take]
      simp [show ¬ (j - 1 = k) by omega, show ¬ (j = k) by omega, hk]
    · rw [List.getElem?_append_right (by omega), hl]
      by_cases h3 : k = j - 1
      · subst h3
        simp [swp, show j - 1 < d.length by omega]
      · by_cases h4 : k = j
        · subst h4
          rw [show k - (k - 1) = 1 by omega]
          simp [swp, List.getElem?_set, show ¬ (k - 1 = k) by omega, hd]
        · obtain ⟨m, rfl⟩ : ∃ m, k = j + 1 + m := ⟨k - (j + 1), by omega⟩
          rw [show j + 1 + m - (j - 1) = m + 1 + 1 by omega]
          simp only [swp, List.getElem?_set, List.length_set, List.getElem?_cons_succ, List.getElem?_drop]
          simp [show ¬ (j - 1 = j + 1 + m) by omega, show ¬ (j = j + 1 + m) by omega]
  rw [h2]
  conv => rhs; rw [h1]
  exact List.Perm.append_left _ (List.Perm.swap ..)
theorem InsI.step {d : List Int} {i j : Nat} (h : InsI d i j) (hj : 0 < j) (hji : j ≤ i) (hi : i < d.length) (hlt : at' d j < at' d (j - 1)) : InsI (swp d j) i (j - 1) := by
  intro a b hab hb hbj
  rw [swp_at hj (by omega), swp_at hj (by omega)]
  by_cases h1 : b = j
  · subst h1
    simp only [if_true, show ¬ (a = b) by omega, if_false]
    split
    · omega
    · rename_i h2
      exact h a (b - 1) (by omega) (by omega) (by omega)
  · simp only [if_neg h1, if_neg hbj]
    have hb' : b ≠ j := h1
    split
    · rename_i h2; exact h (j - 1) b (by omega) hb hb'
    · split
      · rename_i h2 h3; exact h j b (by omega) hb hb'
      · exact h a b hab hb hb'
theorem InsI.start {d : List Int} {i : Nat} (h : ∀ a b, a < b → b < i → at' d a ≤ at' d b) : InsI d i i := fun a b hab hb hbi => h a b hab (by omega)
def compGo : Option Int → List Int → List Int
  | _, [] => []
  | p, x :: xs => if p = some x then compGo p xs else x :: compGo (some x) xs
def comp (l : List Int) : List Int := compGo none l
theorem compGo_some : ∀ {l : List Int} {p : Int}, Srt (p :: l) → Asc (compGo (some p) l) ∧ (∀ x ∈ compGo (some p) l, p < x) ∧ ∀ x, x ∈ p :: compGo (some p) l ↔ x ∈ p :: l
  | [], p, h => ⟨.nil, by simp [compGo], by simp [compGo]⟩
  | x :: l, p, h => by
    obtain ⟨h1, h2⟩ := List.pairwise_cons.1 h
    have hpx := h1 x (List.mem_cons_self ..)
    by_cases e : p = x
    · subst e
      obtain ⟨k1, k2, k3⟩ := compGo_some h2
      simp only [compGo, if_true]
      refine ⟨k1, k2, fun z => ?_⟩
      rw [k3 z]; simp
    · obtain ⟨k1, k2, k3⟩ := compGo_some h2
      have e' : ¬ (some p = some x) := fun h => e (Option.some.inj h)
      simp only [compGo, if_neg e']
      refine ⟨List.pairwise_cons.2 ⟨k2, k1⟩, fun z hz => ?_, fun z => ?_⟩
      · rcases List.mem_cons.1 hz with rfl | hz
        · omega
        · have := k2 z hz; omega
      · rw [List.mem_cons, k3 z, List.mem_cons]; simp
theorem comp_srt (l : List Int) : comp (srt l) = puts l := by
  have hs := srt_srt l
  have hm : ∀ z, z ∈ srt l ↔ z ∈ l := fun z => (srt_perm l).mem_iff
  cases h : srt l with
  | nil => 
    have : l = [] := by
      cases l with
      | nil => rfl
      | cons x l => have := (hm x).2 (List.mem_cons_self ..); rw [h] at this; simp at this
    subst this; rfl
  | cons x s =>
    rw [h] at hs
    obtain ⟨k1, k2, k3⟩ := compGo_some hs
    have e : comp (x :: s) = x :: compGo (some x) s := by simp [comp, compGo]
    rw [e]
    refine asc_ext (List.pairwise_cons.2 ⟨k2, k1⟩) (asc_puts l) fun z => ?_
    rw [k3 z, ← h, hm z, mem_puts]
theorem comp_id : ∀ (n : Nat) (l : List Int) (p : Option Int), n ≤ l.length → (p = none ∨ l = [] ∨ n = 0 ∨ p ≠ some (at' l 0)) → (∀ k, 0 < k → k < n → at' l k ≠ at' l (k - 1)) → 0 < n → compGo p l = l.take n ++ compGo (some (at' l (n - 1))) (l.drop n)
  | 0, l, p, hn, h0, h, hpos => by omega
  | n + 1, [], p, hn, h0, h, hpos => by simp at hn
  | n + 1, x :: l, p, hn, h0, h, hpos => by
    have hp : ¬ (p = some x) := by
      rcases h0 with h0 | h0 | h0 | h0
      · rw [h0]; simp
      · simp at h0
      · omega
      · simpa [at'] using h0
    simp only [compGo, if_neg hp, List.take_succ_cons, List.drop_succ_cons, List.cons_append]
    congr 1
    by_cases hn0 : n = 0
    · subst hn0; simp [at']
    · have := comp_id n l (some x) (by simpa using hn) (.inr (.inr (.inr (by
          have := h 1 (by omega) (by omega)
          simp only [at'] at this ⊢
          simpa using fun e => this e.symm)))) (fun k hk hkn => by
            have := h (k + 1) (by omega) (by omega)
            simp only [at', Nat.add_sub_cancel, List.getD_cons_succ] at this ⊢
            obtain ⟨m, rfl⟩ : ∃ m, k = m + 1 := ⟨k - 1, by omega⟩
            simpa using this) (by omega)
      rw [this]
      obtain ⟨m, rfl⟩ : ∃ m, n = m + 1 := ⟨n - 1, by omega⟩
      simp [at']
theorem comp_none {l : List Int} (h : ∀ k, 0 < k → k < l.length → at' l k ≠ at' l (k - 1)) : comp l = l := by
  cases l with
  | nil => rfl
  | cons x l =>
    have := comp_id (x :: l).length (x :: l) none (Nat.le_refl _) (.inl rfl) h (by simp)
    rw [comp, this]
    simp [compGo]
end Go.Abs
set_option linter.unusedVariables false
set_option linter.unusedSimpArgs false
namespace Go.Abs
theorem at_app {α : Type} [Inhabited α] {c l : List α} {k : Nat} (h : c.length ≤ k) : at' (c ++ l.drop c.length) k = at' l k := by
  simp only [at', List.getD_eq_getElem?_getD]
  rw [List.getElem?_append_right h, List.getElem?_drop]
  congr 2; omega
theorem set_app {α : Type} {c l : List α} {x : α} (h : c.length < l.length) : (c ++ l.drop c.length).set c.length x = (c ++ [x]) ++ l.drop (c ++ [x]).length := by
  have e : (l.drop c.length).set 0 x = x :: l.drop (c.length + 1) := by
    rw [List.drop_eq_getElem_cons h]; rfl
  rw [List.set_append_right _ _ (Nat.le_refl _), Nat.sub_self, List.append_assoc, e]
  simp
theorem set_app' {α : Type} {c l : List α} {x : α} (h : c.length < l.length) : (c ++ l.drop c.length).set c.length x = (c ++ [x]) ++ l.drop (c.length + 1) := by
  rw [set_app h]; simp
theorem take_app2 {α β : Type} {c l : List α} {f : α → β} {x : List β} : (((c ++ l.drop c.length).take c.length).map f ++ x).take c.length = c.map f := by
  rw [List.take_append_of_le_length (by simp), List.take_append_of_le_length (Nat.le_refl _), List.take_of_length_le (Nat.le_refl _), List.take_of_length_le (by simp)]
def idxF {α : Type} (p : α → Bool) (i : Nat) : List α → Int
  | [] => -1
  | x :: xs => if p x then i else idxF p (i + 1) xs
theorem idxF_any {α : Type} (p : α → Bool) : ∀ (l : List α) (i : Nat), decide (0 ≤ idxF p i l) = l.any p
  | [], i => by simp [idxF]
  | x :: xs, i => by
    have := idxF_any p xs (i + 1)
    simp only [idxF, List.any_cons]
    by_cases h : p x = true <;> simp [h, this]
theorem idxF_spec {α : Type} [Inhabited α] (p : α → Bool) : ∀ (l : List α) (i : Nat), (idxF p i l = -1 ∧ l.filter (fun x => !p x) = l) ∨ ∃ k, k < l.length ∧ idxF p i l = (i + k : Nat) ∧ p (at' l k) = true ∧ (l.take k).filter (fun x => !p x) = l.take k
  | [], i => .inl (by simp [idxF])
  | x :: xs, i => by
    simp only [idxF]
    by_cases h : p x = true
    · exact .inr ⟨0, by simp, by simp [h], by simpa [at'] using h, by simp⟩
    · have h : p x = false := by simpa using h
      rcases idxF_spec p xs (i + 1) with ⟨h1, h2⟩ | ⟨k, h1, h2, h3, h4⟩
      · exact .inl ⟨by simp [h, h1], by simp [h, h2]⟩
      · exact .inr ⟨k + 1, by simp; omega, by simp [h, h2]; omega, by simpa [at'] using h3, by simp [h, h4]⟩
theorem idxF_no {α : Type} [Inhabited α] {p : α → Bool} {l : List α} (h : idxF p 0 l = -1) : l.filter (fun x => !p x) = l := by
  rcases idxF_spec p l 0 with ⟨_, h2⟩ | ⟨k, _, h2, _⟩
  · exact h2
  · omega
theorem idxF_yes {α : Type} [Inhabited α] {p : α → Bool} {l : List α} (h : ¬ idxF p 0 l = -1) : 0 ≤ idxF p 0 l ∧ idxF p 0 l < l.length ∧ (l.take (idxF p 0 l).toNat).length = (idxF p 0 l).toNat ∧ l.take (idxF p 0 l).toNat ++ (l.drop ((idxF p 0 l).toNat + 1)).filter (fun x => !p x) = l.filter fun x => !p x := by
  rcases idxF_spec p l 0 with ⟨h1, _⟩ | ⟨k, h1, h2, h3, h4⟩
  · exact absurd h1 h
  · have e : (idxF p 0 l).toNat = k := by omega
    refine ⟨by omega, by omega, by rw [e]; simp; omega, ?_⟩
    rw [e]
    have e2 : l.filter (fun x => !p x) = (l.take k).filter (fun x => !p x) ++ (l.drop k).filter (fun x => !p x) := by
      rw [← List.filter_append, List.take_append_drop]
    rw [e2, h4, drop_at h1]
    simp [h3]
end Go.Abs
set_option linter.unusedVariables false
set_option linter.unusedSimpArgs false
namespace Go.Abs
noncomputable section
structure ConfB (c : Conf) : Prop where
  r : c.reps.length ≤ 1048576
  w : c.wits.length ≤ 1048576
structure SrvB (s : Srv) : Prop where
  conf : ConfB s.conf
  log : s.log.length ≤ 1048576
  learned : s.learned.length ≤ 1048576
structure MLB (m : MLog) : Prop where
  len : m.confs.length ≤ 1048576
  confs : ∀ c ∈ m.confs, ConfB c
structure CluB (c : Clu) : Prop where
  srvs : ∀ s ∈ c.srvs, SrvB s
  sl : c.srvs.length ≤ 1048576
  sd : c.sides.length ≤ 1048576
  m : MLB c.mast
  pl : c.plcs.length ≤ 1048576
theorem ConfB.no : ConfB noConf := ⟨Nat.zero_le _, Nat.zero_le _⟩
theorem at_or {α : Type} [Inhabited α] {p : α → Prop} {l : List α} (h : ∀ x ∈ l, p x) (h0 : p default) (i : Nat) : p (at' l i) := by
  by_cases hi : i < l.length
  · exact h _ (E.at_mem hi)
  · simp only [at', List.getD_eq_getElem?_getD, List.getElem?_eq_none (by omega : l.length ≤ i), Option.getD_none]; exact h0
theorem CluB.at {c : Clu} (h : CluB c) (i : Nat) : SrvB (at' c.srvs i) := at_or h.srvs ⟨⟨Nat.zero_le _, Nat.zero_le _⟩, Nat.zero_le _, Nat.zero_le _⟩ i
theorem MLB.get {m : MLog} (h : MLB m) (i : Nat) : ConfB (at' m.confs i) := at_or h.confs ⟨Nat.zero_le _, Nat.zero_le _⟩ i
theorem MLB.at {m : MLog} (h : MLB m) (e : Int) : ConfB (confAt m e).1 := by
  unfold confAt
  split
  · exact h.get _
  · exact ConfB.no
theorem MLB.hm {m : MLog} (h : MLB m) : ∀ c ∈ m.confs, c.reps.length ≤ 1048576 ∧ c.wits.length ≤ 1048576 := fun c hc => ⟨(h.confs c hc).r, (h.confs c hc).w⟩
theorem CluB.hs {c : Clu} (h : CluB c) : ∀ s ∈ c.srvs, (s.conf.reps.length ≤ 1048576 ∧ s.conf.wits.length ≤ 1048576) ∧ s.log.length ≤ 1048576 ∧ s.learned.length ≤ 1048576 := fun s hs => ⟨⟨(h.srvs s hs).conf.r, (h.srvs s hs).conf.w⟩, (h.srvs s hs).log, (h.srvs s hs).learned⟩
theorem CluB.set {c : Clu} (h : CluB c) {id : Int} {s : Srv} (hs : SrvB s) : CluB (setSrv c id s) := by
  refine ⟨fun x hx => ?_, by simpa [setSrv] using h.sl, h.sd, h.m, h.pl⟩
  rcases List.mem_or_eq_of_mem_set hx with hx | rfl
  · exact h.srvs x hx
  · exact hs
theorem cutTail_len (l : List LEnt) : (cutTail l).2.length ≤ l.length := by
  unfold cutTail
  split
  · simp
  · exact Nat.zero_le _
theorem SrvB.inst {s : Srv} {c : Conf} {id : Int} {l : List LEnt} (hs : SrvB s) (hc : ConfB c) (hl : l.length ≤ 1048576) : SrvB (install s c id l).1 := by
  unfold install
  split
  · exact hs
  · split
    · exact ⟨hc, Nat.le_trans (cutTail_len l) hl, Nat.zero_le _⟩
    · exact ⟨hc, hl, Nat.zero_le _⟩
def setLog (s : Srv) (l : List LEnt) : Srv := ⟨s.up, s.intact, s.ver, s.epoch, s.conf, s.first, l, s.commit, s.learned⟩
def setTail (s : Srv) (f : Int) (l : List LEnt) : Srv := ⟨s.up, s.intact, s.ver, s.epoch, s.conf, f, l, s.commit, s.learned⟩
def setCommit (s : Srv) (n : Int) : Srv := ⟨s.up, s.intact, s.ver, s.epoch, s.conf, s.first, s.log, n, s.learned⟩
def appendOn (c : Clu) (id : Int) (o : ROp) : Clu × Int :=
  if hasSrv c id && validOp o then
    if (srvAt c id).up then
      if primNow (srvAt c id) id then
        let l := (srvAt c id).log
        if 0 ≤ findOp l o.client o.seq then (c, if (at' l (findOp l o.client o.seq).toNat).op = o then 0 else 11)
        else if (applyOp (replay l).1 o).2.2 then
          if isNew o = true ∧ groupFmt c id < 2 then (c, 6) else if (l.length : Int) = 16 then (c, 5)
          else (setSrv c id (setLog (srvAt c id) (l ++ [⟨(srvAt c id).epoch, o⟩])), 0)
        else (c, 11)
      else (c, 3)
    else (c, 2)
  else (c, 1)
def pushTo (c : Clu) (id m : Int) : Clu × Bool :=
  if primAt c id = true ∧ roleOf (srvAt c id).conf m ≠ 0 ∧ hears c id m = true then
    (setSrv c m (if roleOf (srvAt c id).conf m = 3 then setTail (srvAt c m) (cutTail (srvAt c id).log).1 (cutTail (srvAt c id).log).2 else setLog (srvAt c m) (srvAt c id).log), true)
  else (c, false)
def pushAll (id : Int) : List Int → Clu × Bool → Clu × Bool
  | [], x => x
  | m :: ms, x => pushAll id ms ((pushTo x.1 id m).1, x.2 && (pushTo x.1 id m).2)
def commitAll (n : Int) : List Int → Clu → Clu
  | [], c => c
  | m :: ms, c => commitAll n ms (setSrv c m (setCommit (srvAt c m) n))
def commitP (c : Clu) (id : Int) : Clu × Bool :=
  if primAt c id then
    let ms := membersOf (srvAt c id).conf
    let x := pushAll id ms (c, true)
    if x.2 then (commitAll (srvAt c id).log.length ms x.1, true) else (x.1, false)
  else (c, false)
def rep0 (code : Int) : Rep := ⟨code, noRes, 0⟩
def clientOp (c : Clu) (id : Int) (o : ROp) : Clu × Rep :=
  let x := appendOn c id o
  if x.2 = 0 then
    let s := srvAt x.1 id
    let i := findOp s.log o.client o.seq
    if s.commit ≤ i then
      let y := commitP x.1 id
      if y.2 then (y.1, ⟨0, (resAt (srvAt y.1 id).log i).1, i⟩) else (y.1, rep0 4)
    else (x.1, ⟨0, (resAt s.log i).1, i⟩)
  else (x.1, rep0 x.2)
def retryGo (o : ROp) : List Int → Clu × Rep → Clu × Rep
  | [], x => x
  | id :: ids, x => if (clientOp x.1 id o).2.code = 0 then clientOp x.1 id o else retryGo o ids (clientOp x.1 id o)
def retryOp (c : Clu) (ids : List Int) (o : ROp) : Clu × Rep := retryGo o (ids.take 10) (c, rep0 1)
def isRep (s : Srv) (id : Int) : Bool := s.conf.reps.contains id
def comData (s : Srv) (id : Int) : List LEnt := if isRep s id = true ∧ s.learned.length < (comPart s).length then comPart s else s.learned
def witIn (c : Clu) (id : Int) (w : Srv) : Nat → List Srv → Option (List LEnt) → Option (List LEnt)
  | _, [], b => b
  | k, s :: ss, b => witIn c id w (k + 1) ss (if s.up = true ∧ sameSide c.sides id k = true then
      match joinTail (comData s k) w.first w.log with
      | some l => match b with
        | none => some l
        | some b => if b.length < l.length then some l else some b
      | none => b
    else b)
def witOut (c : Clu) (id e : Int) : List Int → Option (List LEnt) → Option (List LEnt)
  | [], b => b
  | w :: ws, b => witOut c id e ws (if hasEpoch c id w e then witIn c id (srvAt c w) 0 c.srvs b else b)
def witLog (c : Clu) (id : Int) : Option (List LEnt) := if (lastAct c.mast).2 && hasSrv c id then witOut c id (lastAct c.mast).1.epoch (lastAct c.mast).1.wits none else none
def srcLog (c : Clu) (id : Int) : Option (List LEnt) :=
  if hasSrv c id then
    if c.mast.act = 0 then some []
    else if 0 ≤ bestSource c id then some (srvAt c (bestSource c id)).log else witLog c id
  else none
def sealAll (o : Clu) (id e : Int) : List Int → Clu → Clu
  | [], c => c
  | m :: ms, c => sealAll o id e ms (if (srvAt o m).up = true ∧ sameSide o.sides id m = true then setSrv c m (sealS (srvAt o m) e).1 else c)
def usable (c : Clu) (id : Int) : Bool := (srvAt c id).up && (at' c.sides id.toNat == 0)
def instAll (x : Conf) (l : List LEnt) : List Int → Clu → Clu
  | [], c => c
  | m :: ms, c => instAll x l ms (setSrv c m (install (srvAt c m) x m l).1)
def costGo (c : Clu) (l : List LEnt) : List Int → Int → Int
  | [], n => n
  | id :: ids, n => costGo c l ids (n + (l.length - (if isRep (srvAt c id) id then max (comPre l (srvAt c id).learned) (comPre l (srvAt c id).log) else comPre l (srvAt c id).learned : Nat)))
def cost (c : Clu) (x : Conf) : Int := if validConf x then (match srcLog c x.primary with
  | some l => costGo c l x.reps 0
  | none => -1) else -1
def dataSrv (c : Clu) (id : Int) : Bool := hasSrv c id && isRep (srvAt c id) id
def repairR (c : Clu) (f t : Int) : Clu × Bool :=
  if dataSrv c f && dataSrv c t && (f != t) && sameSide c.sides f t && (srvAt c f).up && (srvAt c t).up && decide ((srvAt c f).conf = (srvAt c t).conf) then
    (setSrv c t (setCommit (setLog (srvAt c t) (srvAt c f).log) (srvAt c f).commit), true) else (c, false)
def better (l : List Plc) (racks : List Int) (a b : Int) : Bool :=
  let x := racks.contains (at' l a.toNat).rack
  let y := racks.contains (at' l b.toNat).rack
  if x = y then decide ((at' l a.toNat).load < (at' l b.toNat).load) else y
def spareGo (l : List Plc) (ms av racks : List Int) : List Int → Int → Int
  | [], b => b
  | id :: ids, b => spareGo l ms av racks ids (if hasRoom l id && !ms.contains id && !av.contains id && (decide (b < 0) || better l racks id b) then id else b)
def spare (l : List Plc) (ms av : List Int) : Int := if areServers ms then spareGo l ms av (racksOf l ms) [0, 1, 2, 3, 4] (-1) else -1
def planGo (l : List Plc) (av : List Int) (want : Int) : Nat → List Int → List Int
  | 0, out => out
  | n + 1, out => if (out.length : Int) < want then (if spare l out av < 0 then out else planGo l av want n (putI out (spare l out av))) else out
def plan (l : List Plc) (ms alive : List Int) (want : Int) : List Int :=
  if arePlaces l && areServers ms && areServers alive && inR want 0 5 then planGo l (without [0, 1, 2, 3, 4] alive) want 6 (common ms alive) else []
def aliveS (c : Clu) : List Int := whereGo (fun i s => usable c i) 0 c.srvs
def nextC (c : Clu) (want wits : Int) : Conf × Bool :=
  if validClu c && inR want 1 3 && inR wits 0 1 && decide ((c.mast.confs.length : Int) < 20) then
    let al := aliveS c
    let old := (lastAct c.mast).1
    let kept := old.reps.filter fun id => usable c id && ((srvAt c id).conf.epoch == old.epoch)
    let r := plan c.plcs kept al want
    if r.length = 0 then (noConf, false)
    else
      let sp := spare c.plcs r (without [0, 1, 2, 3, 4] al)
      (⟨c.mast.confs.length + 1, if 0 < old.epoch ∧ r.contains old.primary = true then old.primary else at' r 0, r, if wits = 1 ∧ 0 ≤ sp then [sp] else []⟩, true)
  else (noConf, false)
end
end Go.Abs
set_option linter.unusedVariables false
set_option linter.unusedSimpArgs false
namespace Go.Abs
theorem validSrv_of {s : Srv} {id : Int} (h : validSrv s id = true) : 1 ≤ s.ver ∧ s.ver ≤ 2 ∧ 0 ≤ s.epoch ∧ s.epoch ≤ 20 ∧ isLog s.log = true ∧ isLog s.learned = true ∧ 0 ≤ s.first ∧ s.first + s.log.length ≤ 16 ∧ 0 ≤ s.commit ∧ s.commit ≤ s.first + s.log.length := by
  unfold validSrv at h
  split at h
  · rename_i h1
    simp only [Bool.and_eq_true, inR_iff, decide_eq_true_eq] at h1
    obtain ⟨⟨⟨⟨⟨⟨h1, h2⟩, h3⟩, h4⟩, h5⟩, h6⟩, h7⟩ := h1
    exact ⟨h1.1, h1.2, h2.1, h2.2, h3, h4, h5.1, h6, h7.1, h7.2⟩
  · simp at h
theorem validSrv_conf {s : Srv} {id : Int} (h : validSrv s id = true) (hc : s.conf ≠ noConf) : validConf s.conf = true ∧ roleOf s.conf id ≠ 0 ∧ s.intact = true ∧ s.conf.epoch ≤ s.epoch ∧ lastE s.log ≤ s.conf.epoch ∧ (roleOf s.conf id = 1 ∨ roleOf s.conf id = 2 → s.first = 0) := by
  unfold validSrv at h
  split at h
  · split at h
    · rename_i h2
      simp only [Bool.and_eq_true, decide_eq_true_eq] at h2
      have hr : roleOf s.conf id ≠ 0 := by
        intro e; rw [e] at h; simp at h
      refine ⟨?_, hr, h2.1.1, h2.1.2, h2.2, fun h3 => ?_⟩
      · unfold roleOf at hr
        split at hr
        · assumption
        · simp at hr
      · rw [if_pos h3] at h; simpa using h
    · simp at h
  · simp at h
theorem hasSrv_of {c : Clu} {id : Int} (h : hasSrv c id = true) : validClu c = true ∧ c.srvs.length = 5 ∧ 0 ≤ id ∧ id ≤ 4 ∧ c.sides.length = 5 ∧ c.mast.confs.length ≤ 20 ∧ c.plcs.length = 5 := by
  simp only [hasSrv, Bool.and_eq_true, inR_iff] at h
  have q := validClu_of h.1
  exact ⟨h.1, q.2.2.1, h.2.1, h.2.2, areSides_len q.2.2.2.1, (isML_of q.2.2.2.2.1).1, arePlaces_len q.2.2.2.2.2.2.1⟩
theorem srv_of {c : Clu} {id : Int} (h : validClu c = true) (h0 : 0 ≤ id) (h1 : id ≤ 4) : validSrv (at' c.srvs id.toNat) id = true ∧ (at' c.srvs id.toNat).epoch ≤ c.mast.confs.length ∧ lastE (at' c.srvs id.toNat).learned ≤ c.mast.act ∧
    ((at' c.srvs id.toNat).conf = noConf ∨ ((confAt c.mast (at' c.srvs id.toNat).conf.epoch).2 = true ∧ (confAt c.mast (at' c.srvs id.toNat).conf.epoch).1 = (at' c.srvs id.toNat).conf ∧ (at' c.srvs id.toNat).conf.epoch ≤ c.mast.act)) := by
  have q := validClu_of h
  have := srvsOK_at q.2.2.2.2.2.2.2.2.2.2 (j := id.toNat) (by omega)
  rwa [show ((0 + id.toNat : Nat) : Int) = id by omega] at this
theorem role_valid {c : Conf} {id : Int} (h : roleOf c id ≠ 0) : validConf c = true := by
  unfold roleOf at h
  split at h
  · assumption
  · simp at h
theorem members_mem {c : Conf} {id : Int} : id ∈ membersOf c ↔ roleOf c id ≠ 0 := by
  unfold membersOf roleOf
  by_cases h : validConf c = true
  · have q := validConf_of h
    simp only [if_pos h, mem_unite]
    by_cases h1 : id = c.primary
    · simp [h1, q.2.2.2.2.1]
    · by_cases h2 : id ∈ c.reps
      · simp [h1, h2]
      · by_cases h3 : id ∈ c.wits <;> simp [h1, h2, h3]
  · simp [h]
theorem members_in {c : Conf} {id : Int} (h : id ∈ membersOf c) : 0 ≤ id ∧ id ≤ 4 := by
  have hv := role_valid (members_mem.1 h)
  have q := validConf_of hv
  unfold membersOf at h
  rw [if_pos hv, mem_unite] at h
  rcases h with h | h
  · exact (areServers_of q.2.2.1).2 id h
  · exact (areServers_of q.2.2.2.1).2 id h
theorem role_in {c : Conf} {id : Int} (h : roleOf c id ≠ 0) : 0 ≤ id ∧ id ≤ 4 := members_in (members_mem.2 h)
theorem role_rep {c : Conf} {id : Int} (h : validConf c = true) : (roleOf c id = 1 ∨ roleOf c id = 2) ↔ c.reps.contains id = true := by
  have q := validConf_of h
  unfold roleOf
  rw [if_pos h]
  by_cases h1 : id = c.primary
  · subst h1; simp [q.2.2.2.2.1]
  · by_cases h2 : id ∈ c.reps
    · simp [h1, h2]
    · by_cases h3 : id ∈ c.wits <;> simp [h1, h2, h3]
theorem primNow_of {s : Srv} {id : Int} (h : primNow s id = true) : validSrv s id = true ∧ s.up = true ∧ roleOf s.conf id = 1 ∧ s.epoch = s.conf.epoch := by
  simpa [primNow, and_assoc] using h
theorem primAt_of {c : Clu} {id : Int} (h : primAt c id = true) : hasSrv c id = true ∧ primNow (at' c.srvs id.toNat) id = true := by
  simpa [primAt, srvAt] using h
theorem primAt_log {c : Clu} {id : Int} (h : primAt c id = true) : (at' c.srvs id.toNat).log.length ≤ 16 ∧ (at' c.srvs id.toNat).first = 0 ∧ 0 ≤ (at' c.srvs id.toNat).commit ∧ (at' c.srvs id.toNat).commit ≤ (at' c.srvs id.toNat).log.length ∧ validConf (at' c.srvs id.toNat).conf = true ∧ isLog (at' c.srvs id.toNat).log = true ∧ 0 ≤ id ∧ id ≤ 4 ∧ c.srvs.length = 5 ∧ c.sides.length = 5 := by
  have q := primAt_of h
  have q0 := hasSrv_of q.1
  have q1 := primNow_of q.2
  have q2 := validSrv_of q1.1
  have e := isLog_len q2.2.2.2.2.1
  have q3 := q1.2.2.1
  have hv := role_valid (c := (at' c.srvs id.toNat).conf) (id := id) (by omega)
  have hne : (at' c.srvs id.toNat).conf ≠ noConf := by
    intro hE; rw [hE] at hv
    have := validConf_of hv
    simp [noConf] at this
  have q4 := (validSrv_conf q1.1 hne).2.2.2.2.2 (.inl q3)
  exact ⟨e, q4, q2.2.2.2.2.2.2.2.2.1, by have := q2.2.2.2.2.2.2.2.2.2; omega, hv, q2.2.2.2.2.1, q0.2.2.1, q0.2.2.2.1, q0.2.1, q0.2.2.2.2.1⟩
end Go.Abs
set_option linter.unusedVariables false
set_option linter.unusedSimpArgs false
namespace Go.Abs
noncomputable section
end
end Go.Abs
set_option linter.unusedVariables false
set_option linter.unusedSimpArgs false
namespace Go.Abs
noncomputable section
def markI : List Int → Int → List Int
  | [], _ => []
  | _ :: xs, k => k :: markI xs (k + 1)
theorem markI_len : ∀ (l : List Int) (k : Int), (markI l k).length = l.length
  | [], k => rfl
  | x :: l, k => by simp [markI, markI_len l]
def heldI : List Int → Int → Int
  | [], k => k
  | x :: xs, k => if x = k then heldI xs (k + 1) else -1
theorem heldI_mark : ∀ (l : List Int) (k : Int), heldI (markI l k) k = k + l.length
  | [], k => by simp [markI, heldI]
  | x :: l, k => by simp [markI, heldI, heldI_mark l]; omega
def entK (k : Int) : LEnt := ⟨k, ⟨k + 1, k + 1 + 1, k + 1 + 1 + 1, k + 1 + 1 + 1 + 1, k + 1 + 1 + 1 + 1 + 1, k + 1 + 1 + 1 + 1 + 1 + 1⟩⟩
def markE : List LEnt → Int → List LEnt
  | [], _ => []
  | _ :: xs, k => entK k :: markE xs (k + 7)
theorem markE_len : ∀ (l : List LEnt) (k : Int), (markE l k).length = l.length
  | [], k => rfl
  | x :: l, k => by simp [markE, markE_len l]
def heldE : List LEnt → Int → Int
  | [], k => k
  | x :: xs, k => if x = entK k then heldE xs (k + 7) else -1
theorem heldE_mark : ∀ (l : List LEnt) (k : Int), heldE (markE l k) k = k + 7 * l.length
  | [], k => by simp [markE, heldE]
  | x :: l, k => by simp [markE, heldE, heldE_mark l]; omega
def plcK (k : Int) : Plc := ⟨k, k + 1, k + 1 + 1⟩
def markP : List Plc → Int → List Plc
  | [], _ => []
  | _ :: xs, k => plcK k :: markP xs (k + 3)
theorem markP_len : ∀ (l : List Plc) (k : Int), (markP l k).length = l.length
  | [], k => rfl
  | x :: l, k => by simp [markP, markP_len l]
def heldP : List Plc → Int → Int
  | [], k => k
  | x :: xs, k => if x = plcK k then heldP xs (k + 3) else -1
theorem heldP_mark : ∀ (l : List Plc) (k : Int), heldP (markP l k) k = k + 3 * l.length
  | [], k => by simp [markP, heldP]
  | x :: l, k => by simp [markP, heldP, heldP_mark l]; omega
def markC (c : Conf) (k : Int) : Conf := ⟨c.epoch, c.primary, markI c.reps k, markI c.wits (k + c.reps.length)⟩
def endC (c : Conf) (k : Int) : Int := k + c.reps.length + c.wits.length
def heldC (c : Conf) (k : Int) : Int := if heldI c.reps k < 0 then -1 else if heldI c.wits (heldI c.reps k) < 0 then -1 else heldI c.wits (heldI c.reps k)
theorem heldC_mark {c : Conf} {k : Int} (h : 0 ≤ k) : heldC (markC c k) k = endC c k := by
  simp only [heldC, markC, endC, heldI_mark]
  rw [if_neg (by omega), if_neg (by omega)]
def confK (c : Conf) (k : Int) : Conf := ⟨k, k + 1, markI c.reps (k + 1 + 1), markI c.wits (k + 1 + 1 + c.reps.length)⟩
def markCs : List Conf → Int → List Conf
  | [], _ => []
  | c :: cs, k => confK c k :: markCs cs (endC c (k + 1 + 1))
def endCs : List Conf → Int → Int
  | [], k => k
  | c :: cs, k => endCs cs (endC c (k + 1 + 1))
theorem markCs_len : ∀ (l : List Conf) (k : Int), (markCs l k).length = l.length
  | [], k => rfl
  | x :: l, k => by simp [markCs, markCs_len l]
def heldCs : List Conf → Int → Int
  | [], k => k
  | c :: cs, k => if c.epoch = k ∧ c.primary = k + 1 ∧ 0 ≤ heldC c (k + 1 + 1) then heldCs cs (heldC c (k + 1 + 1)) else -1
theorem heldCs_mark : ∀ (l : List Conf) (k : Int), 0 ≤ k → heldCs (markCs l k) k = endCs l k
  | [], k, h => by simp [markCs, heldCs, endCs]
  | c :: l, k, h => by
    have e : heldC (confK c k) (k + 1 + 1) = endC c (k + 1 + 1) := heldC_mark (c := c) (by omega)
    have h2 : 0 ≤ endC c (k + 1 + 1) := by simp only [endC]; omega
    simp only [markCs, heldCs, endCs, e]
    rw [if_pos ⟨rfl, rfl, h2⟩]
    exact heldCs_mark l _ h2
def b3 (k : Int) : Bool := Int.tmod k 3 == 0
def srvK (s : Srv) (k : Int) : Srv :=
  ⟨b3 k, b3 (k + 1), k + 1 + 1, k + 1 + 1 + 1, confK s.conf (k + 1 + 1 + 1 + 1), endC s.conf (k + 1 + 1 + 1 + 1 + 1 + 1), markE s.log (endC s.conf (k + 1 + 1 + 1 + 1 + 1 + 1) + 1), endC s.conf (k + 1 + 1 + 1 + 1 + 1 + 1) + 1 + 7 * s.log.length, markE s.learned (endC s.conf (k + 1 + 1 + 1 + 1 + 1 + 1) + 1 + 7 * s.log.length + 1)⟩
def endS (s : Srv) (k : Int) : Int := endC s.conf (k + 1 + 1 + 1 + 1 + 1 + 1) + 1 + 7 * s.log.length + 1 + 7 * s.learned.length
def markSs : List Srv → Int → List Srv
  | [], _ => []
  | s :: ss, k => srvK s k :: markSs ss (endS s k)
def endSs : List Srv → Int → Int
  | [], k => k
  | s :: ss, k => endSs ss (endS s k)
theorem markSs_len : ∀ (l : List Srv) (k : Int), (markSs l k).length = l.length
  | [], k => rfl
  | x :: l, k => by simp [markSs, markSs_len l]
def hR1 (s : Srv) (k : Int) : Int := heldI s.conf.reps (k + 1 + 1 + 1 + 1 + 1 + 1)
def hW1 (s : Srv) (k : Int) : Int := heldI s.conf.wits (hR1 s k)
def hL1 (s : Srv) (k : Int) : Int := heldE s.log (hW1 s k + 1)
def hG1 (s : Srv) (k : Int) : Int := heldE s.learned (hL1 s k + 1)
def SOK (s : Srv) (k : Int) : Prop := s.up = b3 k ∧ s.intact = b3 (k + 1) ∧ s.ver = k + 1 + 1 ∧ s.epoch = k + 1 + 1 + 1 ∧ s.conf.epoch = k + 1 + 1 + 1 + 1 ∧ s.conf.primary = k + 1 + 1 + 1 + 1 + 1 ∧ 0 ≤ hR1 s k ∧ 0 ≤ hW1 s k ∧ s.first = hW1 s k ∧ 0 ≤ hL1 s k ∧ s.commit = hL1 s k ∧ 0 ≤ hG1 s k
instance (s : Srv) (k : Int) : Decidable (SOK s k) := by unfold SOK; infer_instance
def heldSs : List Srv → Int → Int
  | [], k => k
  | s :: ss, k => if SOK s k then heldSs ss (hG1 s k) else -1
theorem endS_ge {s : Srv} {k : Int} : k + 8 ≤ endS s k := by simp only [endS, endC]; omega
theorem srvK_h {s : Srv} {k : Int} (h : 0 ≤ k) : SOK (srvK s k) k ∧ hG1 (srvK s k) k = endS s k := by
  have e1 : hR1 (srvK s k) k = k + 1 + 1 + 1 + 1 + 1 + 1 + s.conf.reps.length := heldI_mark _ _
  have e2 : hW1 (srvK s k) k = endC s.conf (k + 1 + 1 + 1 + 1 + 1 + 1) := by unfold hW1; rw [e1]; exact heldI_mark _ _
  have e3 : hL1 (srvK s k) k = endC s.conf (k + 1 + 1 + 1 + 1 + 1 + 1) + 1 + 7 * s.log.length := by unfold hL1; rw [e2]; exact heldE_mark _ _
  have e4 : hG1 (srvK s k) k = endS s k := by unfold hG1; rw [e3]; exact heldE_mark _ _
  have g : 0 ≤ endC s.conf (k + 1 + 1 + 1 + 1 + 1 + 1) := by simp only [endC]; omega
  have g2 := endS_ge (s := s) (k := k)
  refine ⟨⟨rfl, rfl, rfl, rfl, rfl, rfl, by omega, by omega, by rw [e2]; rfl, by omega, by rw [e3]; rfl, by omega⟩, e4⟩
theorem heldSs_mark : ∀ (l : List Srv) (k : Int), 0 ≤ k → heldSs (markSs l k) k = endSs l k
  | [], k, h => by simp [markSs, heldSs, endSs]
  | s :: l, k, h => by
    have e := srvK_h (s := s) h
    have h2 := endS_ge (s := s) (k := k)
    simp only [markSs, heldSs, endSs]
    rw [if_pos e.1, e.2]
    exact heldSs_mark l _ (by omega)
theorem endC_ge {c : Conf} {k : Int} : k ≤ endC c k := by simp only [endC]; omega
theorem endCs_ge : ∀ (l : List Conf) (k : Int), k ≤ endCs l k
  | [], k => by simp [endCs]
  | c :: l, k => by have := endCs_ge l (endC c (k + 1 + 1)); have := endC_ge (c := c) (k := k + 1 + 1); simp only [endCs]; omega
theorem endSs_ge : ∀ (l : List Srv) (k : Int), k ≤ endSs l k
  | [], k => by simp [endSs]
  | s :: l, k => by have := endSs_ge l (endS s k); have := endS_ge (s := s) (k := k); simp only [endSs]; omega
theorem endC_le {c : Conf} {k : Int} (h : ConfB c) : endC c k ≤ k + 2097152 := by have := h.r; have := h.w; simp only [endC]; omega
theorem endCs_le : ∀ (l : List Conf) (k : Int), (∀ c ∈ l, ConfB c) → endCs l k ≤ k + 2097154 * l.length
  | [], k, h => by simp [endCs]
  | c :: l, k, h => by
    have := endCs_le l (endC c (k + 1 + 1)) (fun c hc => h c (by simp [hc])); have := endC_le (c := c) (k := k + 1 + 1) (h c (by simp)); simp only [endCs, List.length_cons]; omega
theorem endS_le {s : Srv} {k : Int} (h : SrvB s) : endS s k ≤ k + 16777224 := by
  have := h.log; have := h.learned; have := endC_le (c := s.conf) (k := k + 1 + 1 + 1 + 1 + 1 + 1) h.conf; simp only [endS]; omega
theorem endSs_le : ∀ (l : List Srv) (k : Int), (∀ c ∈ l, SrvB c) → endSs l k ≤ k + 16777224 * l.length
  | [], k, h => by simp [endSs]
  | c :: l, k, h => by
    have := endSs_le l (endS c k) (fun c hc => h c (by simp [hc])); have := endS_le (s := c) (k := k) (h c (by simp)); simp only [endSs, List.length_cons]; omega
def markU (c : Clu) (k : Int) : Clu :=
  let k1 := endSs c.srvs k
  let k2 := k1 + c.sides.length
  ⟨c.now, markSs c.srvs k, markI c.sides k1, ⟨markCs c.mast.confs k2, c.mast.act⟩, c.mup, c.lse, markP c.plcs (endCs c.mast.confs k2)⟩
def endU (c : Clu) (k : Int) : Int := endCs c.mast.confs (endSs c.srvs k + c.sides.length) + 3 * c.plcs.length
def heldU (c : Clu) (k : Int) : Int :=
  let k1 := heldSs c.srvs k
  if k1 < 0 then -1 else
  let k2 := heldI c.sides k1
  if k2 < 0 then -1 else
  let k3 := heldCs c.mast.confs k2
  if k3 < 0 then -1 else
  let k4 := heldP c.plcs k3
  if k4 < 0 then -1 else k4
theorem heldU_mark {c : Clu} {k : Int} (h : 0 ≤ k) : heldU (markU c k) k = endU c k := by
  have e1 := heldSs_mark c.srvs k h
  have g1 := endSs_ge c.srvs k
  have e2 := heldI_mark c.sides (endSs c.srvs k)
  have e3 := heldCs_mark c.mast.confs (endSs c.srvs k + c.sides.length) (by omega)
  have g3 := endCs_ge c.mast.confs (endSs c.srvs k + c.sides.length)
  have e4 := heldP_mark c.plcs (endCs c.mast.confs (endSs c.srvs k + c.sides.length))
  simp only [heldU, markU, e1, e2, e3, e4, endU]
  rw [if_neg (by omega), if_neg (by omega), if_neg (by omega), if_neg (by omega)]
end
end Go.Abs
set_option linter.unusedVariables false
set_option linter.unusedSimpArgs false
namespace Go.Abs
end Go.Abs
namespace Go.Abs
end Go.Abs
set_option linter.unusedVariables false
set_option linter.unusedSimpArgs false
namespace Go.Abs
theorem comPre_len : ∀ a b : List LEnt, comPre a b ≤ a.length ∧ comPre a b ≤ b.length
  | [], _ => by simp [comPre]
  | _ :: _, [] => by simp [comPre]
  | x :: xs, y :: ys => by
    have := comPre_len xs ys
    simp only [comPre]
    split <;> simp <;> omega
theorem dataSrv_of {c : Clu} {id : Int} (h : dataSrv c id = true) : validClu c = true ∧ c.srvs.length = 5 ∧ 0 ≤ id ∧ id ≤ 4 ∧ c.sides.length = 5 := by
  unfold dataSrv at h
  simp only [Bool.and_eq_true] at h
  have := hasSrv_of h.1
  exact ⟨this.1, this.2.1, this.2.2.1, this.2.2.2.1, this.2.2.2.2.1⟩
end Go.Abs
set_option linter.unusedVariables false
set_option linter.unusedSimpArgs false
namespace Go.Abs
noncomputable section
theorem decE_self {α : Type} (x : α) [h : Decidable (x = x)] : @decide (x = x) h = true := decide_eq_true rfl
theorem decN_self {α : Type} (x : α) [h : Decidable (¬ x = x)] : @decide (¬ x = x) h = false := decide_eq_false (fun e => e rfl)
theorem eqS_1 {α : Type} [Inhabited α] [DecidableEq α] {a b : List α} {i : Nat} (hi : i < a.length) (hj : i < b.length) (h : at' a i = at' b i) (hR : decide (a.drop i = b.drop i) = decide (a = b)) : decide (a.drop (i + 1) = b.drop (i + 1)) = decide (a = b) := by
  rw [drop_at (l := a) (i := i) hi, drop_at (l := b) (i := i) hj] at hR
  rw [← hR, decide_eq_decide, h]; simp
theorem eqS_0 {α : Type} [Inhabited α] [DecidableEq α] {a b : List α} {i : Nat} (hi : i < a.length) (hj : i < b.length) (h : ¬ at' a i = at' b i) (hR : decide (a.drop i = b.drop i) = decide (a = b)) : false = decide (a = b) := by
  rw [drop_at (l := a) (i := i) hi, drop_at (l := b) (i := i) hj] at hR
  rw [← hR]; simp [h]
theorem eqS_e {α : Type} [DecidableEq α] {a b : List α} {i : Nat} (hi : a.length ≤ i) (hj : b.length ≤ i) (hR : decide (a.drop i = b.drop i) = decide (a = b)) : true = decide (a = b) := by
  rw [← hR, List.drop_of_length_le hi, List.drop_of_length_le hj]; simp
theorem eqS_n {α : Type} [DecidableEq α] {a b : List α} (h : a.length ≠ b.length) : false = decide (a = b) := by
  symm; rw [decide_eq_false_iff_not]; intro e2; exact h (by rw [e2])
def mkK {α : Type} [Inhabited α] (e : α → Int → Int) (l : List α) (k : Int) : Nat → Int
  | 0 => k
  | i + 1 => e (at' l i) (mkK e l k i)
def mkL {α : Type} [Inhabited α] (f : α → Int → α) (e : α → Int → Int) (l : List α) (k : Int) : Nat → List α
  | 0 => l
  | i + 1 => (mkL f e l k i).set i (f (at' l i) (mkK e l k i))
theorem mkL_len {α : Type} [Inhabited α] (f : α → Int → α) (e : α → Int → Int) (l : List α) (k : Int) : ∀ i, (mkL f e l k i).length = l.length
  | 0 => rfl
  | i + 1 => by simp only [mkL, List.length_set]; exact mkL_len f e l k i
theorem at_set_ne {α : Type} [Inhabited α] {l : List α} {i j : Nat} {x : α} (h : i ≠ j) : at' (l.set i x) j = at' l j := by
  simp only [at', List.getD_eq_getElem?_getD, List.getElem?_set_ne h]
theorem mkL_ge {α : Type} [Inhabited α] (f : α → Int → α) (e : α → Int → Int) (l : List α) (k : Int) : ∀ i j, i ≤ j → at' (mkL f e l k i) j = at' l j
  | 0, j, h => rfl
  | i + 1, j, h => by
    rw [mkL, at_set_ne (by omega)]; exact mkL_ge f e l k i j (by omega)
theorem mkL_at {α : Type} [Inhabited α] (f : α → Int → α) (e : α → Int → Int) (l : List α) (k : Int) (i : Nat) : at' (mkL f e l k i) i = at' l i := mkL_ge f e l k i i (Nat.le_refl i)
theorem mkK_cons {α : Type} [Inhabited α] (e : α → Int → Int) (x : α) (l : List α) (k : Int) : ∀ i, mkK e (x :: l) k (i + 1) = mkK e l (e x k) i
  | 0 => rfl
  | i + 1 => by
    have h := mkK_cons e x l k i
    rw [mkK, h]; rfl
theorem mkL_cons {α : Type} [Inhabited α] (f : α → Int → α) (e : α → Int → Int) (x : α) (l : List α) (k : Int) : ∀ i, mkL f e (x :: l) k (i + 1) = f x k :: mkL f e l (e x k) i
  | 0 => rfl
  | i + 1 => by
    have h := mkL_cons f e x l k i
    rw [mkL, h, mkK_cons]; rfl
theorem mkL_full {α : Type} [Inhabited α] {f : α → Int → α} {e : α → Int → Int} {g : List α → Int → List α} (h0 : ∀ k, g [] k = []) (h1 : ∀ x l k, g (x :: l) k = f x k :: g l (e x k)) : ∀ (l : List α) (k : Int), mkL f e l k l.length = g l k
  | [], k => by rw [h0]; rfl
  | x :: l, k => by rw [List.length_cons, mkL_cons, h1, mkL_full h0 h1 l]
theorem mkK_full {α : Type} [Inhabited α] {e : α → Int → Int} {g : List α → Int → Int} (h0 : ∀ k, g [] k = k) (h1 : ∀ x l k, g (x :: l) k = g l (e x k)) : ∀ (l : List α) (k : Int), mkK e l k l.length = g l k
  | [], k => by rw [h0]; rfl
  | x :: l, k => by rw [List.length_cons, mkK_cons, h1, mkK_full h0 h1 l]
theorem mkK_le {α : Type} [Inhabited α] {e : α → Int → Int} {C : Nat} {l : List α} (h : ∀ x ∈ l, ∀ k, e x k ≤ k + C) (k : Int) : ∀ i, i ≤ l.length → mkK e l k i ≤ k + C * i
  | 0, _ => by simp [mkK]
  | i + 1, hi => by
    have h1 := mkK_le h k i (by omega)
    have h2 := h (at' l i) (E.at_mem (by omega)) (mkK e l k i)
    rw [mkK]; push_cast; rw [Int.mul_add]; omega
theorem mkK_ge {α : Type} [Inhabited α] {e : α → Int → Int} {l : List α} (h : ∀ x k, k ≤ e x k) (k : Int) : ∀ i, k ≤ mkK e l k i
  | 0 => by simp [mkK]
  | i + 1 => by
    have h1 := mkK_ge h (l := l) k i
    have h2 := h (at' l i) (mkK e l k i)
    rw [mkK]; omega
def szR (left n : Int) : Int := if left < n then -1 else left - n
def sizeC (c : Conf) : Int := (c.reps.length : Int) + c.wits.length
def sizeCs : List Conf → Int
  | [] => 0
  | c :: cs => sizeC c + sizeCs cs
def sizeS (s : Srv) : Int := sizeC s.conf + (s.log.length : Int) + s.learned.length
def sizeSs : List Srv → Int
  | [] => 0
  | c :: cs => sizeS c + sizeSs cs
def sizeM (m : MLog) : Int := (m.confs.length : Int) + sizeCs m.confs
def sizeU (c : Clu) : Int := (c.srvs.length : Int) + sizeSs c.srvs + c.sides.length + sizeM c.mast + c.plcs.length
theorem sizeC_ge (c : Conf) : 0 ≤ sizeC c := by unfold sizeC; omega
theorem sizeS_ge (c : Srv) : 0 ≤ sizeS c := by have := sizeC_ge c.conf; unfold sizeS; omega
theorem sizeCs_ge : ∀ l : List Conf, 0 ≤ sizeCs l
  | [] => by simp [sizeCs]
  | c :: l => by have := sizeC_ge c; have := sizeCs_ge l; simp only [sizeCs]; omega
theorem sizeSs_ge : ∀ l : List Srv, 0 ≤ sizeSs l
  | [] => by simp [sizeSs]
  | c :: l => by have := sizeS_ge c; have := sizeSs_ge l; simp only [sizeSs]; omega
theorem sizeM_ge (m : MLog) : 0 ≤ sizeM m := by have := sizeCs_ge m.confs; unfold sizeM; omega
theorem confB_of {c : Conf} (h : sizeC c ≤ 1048576) : ConfB c := ⟨by unfold sizeC at h; omega, by unfold sizeC at h; omega⟩
theorem srvB_of {s : Srv} (h : sizeS s ≤ 1048576) : SrvB s := by
  have := sizeC_ge s.conf; unfold sizeS at h; exact ⟨confB_of (by omega), by omega, by omega⟩
theorem sizeCs_mem : ∀ {l : List Conf} {c : Conf}, c ∈ l → sizeC c ≤ sizeCs l
  | x :: l, c, h => by
    have h1 := sizeC_ge x; have h2 := sizeCs_ge l
    rcases List.mem_cons.1 h with rfl | h
    · simp only [sizeCs]; omega
    · have := sizeCs_mem h; simp only [sizeCs]; omega
theorem sizeSs_mem : ∀ {l : List Srv} {c : Srv}, c ∈ l → sizeS c ≤ sizeSs l
  | x :: l, c, h => by
    have h1 := sizeS_ge x; have h2 := sizeSs_ge l
    rcases List.mem_cons.1 h with rfl | h
    · simp only [sizeSs]; omega
    · have := sizeSs_mem h; simp only [sizeSs]; omega
theorem mlB_of {m : MLog} (h : sizeM m ≤ 1048576) : MLB m := by
  have := sizeCs_ge m.confs; unfold sizeM at h
  exact ⟨by omega, fun c hc => confB_of (by have := sizeCs_mem hc; omega)⟩
theorem cluB_of {c : Clu} (h : sizeU c ≤ 1048576) : CluB c := by
  have := sizeSs_ge c.srvs; have := sizeM_ge c.mast; unfold sizeU at h
  exact ⟨fun s hs => srvB_of (by have := sizeSs_mem hs; omega), by omega, by omega, mlB_of (by omega), by omega⟩
theorem szR_ok {n : Int} (h : ¬ szR 1048576 n < 0) : n ≤ 1048576 := by unfold szR at h; split at h <;> omega
theorem heldI_b : ∀ (l : List Int) (k : Int), 0 ≤ k → heldI l k ≤ k + l.length ∧ (0 ≤ heldI l k → k ≤ heldI l k)
  | [], k, h => by simp [heldI]
  | x :: l, k, h => by
    have := heldI_b l (k + 1) (by omega)
    simp only [heldI, List.length_cons]; split
    · push_cast; exact ⟨by omega, fun h => by first | omega | (simp at h; done) | (exact False.elim h)⟩
    · push_cast; exact ⟨by omega, fun h => by first | omega | (simp at h; done) | (exact False.elim h)⟩
theorem heldE_b : ∀ (l : List LEnt) (k : Int), 0 ≤ k → heldE l k ≤ k + 7 * l.length ∧ (0 ≤ heldE l k → k ≤ heldE l k)
  | [], k, h => by simp [heldE]
  | x :: l, k, h => by
    have := heldE_b l (k + 7) (by omega)
    simp only [heldE, List.length_cons]; split
    · push_cast; exact ⟨by omega, fun h => by first | omega | (simp at h; done) | (exact False.elim h)⟩
    · push_cast; exact ⟨by omega, fun h => by first | omega | (simp at h; done) | (exact False.elim h)⟩
theorem entK_of {x : LEnt} {k : Int} (h : x.epoch = k ∧ x.op.client = k + 1 ∧ x.op.seq = k + 1 + 1 ∧ x.op.kind = k + 1 + 1 + 1 ∧ x.op.obj = k + 1 + 1 + 1 + 1 ∧ x.op.old = k + 1 + 1 + 1 + 1 + 1 ∧ x.op.val = k + 1 + 1 + 1 + 1 + 1 + 1) : x = entK k := by
  obtain ⟨e, ⟨a, b, c, d, f, g⟩⟩ := x
  simp only at h
  simp only [entK, LEnt.mk.injEq, ROp.mk.injEq]; exact h
theorem entK_not {x : LEnt} {k : Int} (h : ¬ (x.epoch = k ∧ x.op.client = k + 1 ∧ x.op.seq = k + 1 + 1 ∧ x.op.kind = k + 1 + 1 + 1 ∧ x.op.obj = k + 1 + 1 + 1 + 1 ∧ x.op.old = k + 1 + 1 + 1 + 1 + 1 ∧ x.op.val = k + 1 + 1 + 1 + 1 + 1 + 1)) : ¬ x = entK k := fun e => h (by subst e; simp [entK])
theorem plcK_of {x : Plc} {k : Int} (h : x.rack = k ∧ x.cap = k + 1 ∧ x.load = k + 1 + 1) : x = plcK k := by
  obtain ⟨e, a, b⟩ := x
  simp only at h
  simp only [plcK, Plc.mk.injEq]; exact h
theorem plcK_not {x : Plc} {k : Int} (h : ¬ (x.rack = k ∧ x.cap = k + 1 ∧ x.load = k + 1 + 1)) : ¬ x = plcK k := fun e => h (by subst e; simp [plcK])
theorem heldC_b {c : Conf} {k : Int} (hc : ConfB c) (h : 0 ≤ k) : heldC c k ≤ k + 2097152 ∧ (0 ≤ heldC c k → k ≤ heldC c k) := by
  have h1 := heldI_b c.reps k h; have r := hc.r; have w := hc.w
  unfold heldC; split
  · exact ⟨by omega, fun h => by omega⟩
  · have h2 := heldI_b c.wits (heldI c.reps k) (by omega)
    split <;> exact ⟨by omega, fun h => by omega⟩
theorem heldC_y {c : Conf} {k : Int} (h1 : 0 ≤ heldI c.reps k) (h2 : 0 ≤ heldI c.wits (heldI c.reps k)) : heldC c k = heldI c.wits (heldI c.reps k) := by
  unfold heldC; rw [if_neg (by omega), if_neg (by omega)]
theorem heldC_n {c : Conf} {k : Int} (h : ¬ (0 ≤ heldI c.reps k ∧ 0 ≤ heldI c.wits (heldI c.reps k))) : heldC c k = -1 := by
  unfold heldC; split
  · rfl
  · rw [if_pos (by omega)]
theorem heldCs_f {l : List Conf} {i : Nat} {k r : Int} (hi : i < l.length) (hR : heldCs (l.drop i) k = r) (h : ¬ ((at' l i).epoch = k ∧ (at' l i).primary = k + 1 ∧ 0 ≤ heldI (at' l i).reps (k + 1 + 1) ∧ 0 ≤ heldI (at' l i).wits (heldI (at' l i).reps (k + 1 + 1)))) : -1 = r := by
  rw [drop_at (l := l) (i := i) hi, heldCs, if_neg] at hR
  · exact hR
  · rintro ⟨a, b, c⟩
    refine h ⟨a, b, ?_⟩
    apply Classical.byContradiction; intro d
    rw [heldC_n d] at c; omega
theorem heldCs_y {l : List Conf} {i : Nat} {k r : Int} (hi : i < l.length) (hR : heldCs (l.drop i) k = r) (h : ((at' l i).epoch = k ∧ (at' l i).primary = k + 1 ∧ 0 ≤ heldI (at' l i).reps (k + 1 + 1) ∧ 0 ≤ heldI (at' l i).wits (heldI (at' l i).reps (k + 1 + 1)))) : heldCs (l.drop (i + 1)) (heldI (at' l i).wits (heldI (at' l i).reps (k + 1 + 1))) = r := by
  have e := heldC_y h.2.2.1 h.2.2.2
  rw [drop_at (l := l) (i := i) hi, heldCs, e, if_pos ⟨h.1, h.2.1, h.2.2.2⟩] at hR
  exact hR
theorem heldCs_b : ∀ (l : List Conf) (k : Int), (∀ c ∈ l, ConfB c) → 0 ≤ k → heldCs l k ≤ k + 2097154 * l.length ∧ (0 ≤ heldCs l k → k ≤ heldCs l k)
  | [], k, hl, h => by simp [heldCs]
  | c :: l, k, hl, h => by
    have h1 := heldC_b (c := c) (k := k + 1 + 1) (hl c (by simp)) (by omega)
    simp only [heldCs, List.length_cons]; split
    · rename_i q
      have h2 := heldCs_b l (heldC c (k + 1 + 1)) (fun c hc => hl c (by simp [hc])) q.2.2
      push_cast; exact ⟨by omega, fun h => by omega⟩
    · push_cast; exact ⟨by omega, fun h => by first | omega | (simp at h; done) | (exact False.elim h)⟩
theorem hG1_b {s : Srv} {k : Int} (hb : SrvB s) (h : 0 ≤ k) (h1 : 0 ≤ hR1 s k) (h2 : 0 ≤ hW1 s k) (h3 : 0 ≤ hL1 s k) : hG1 s k ≤ k + 16777224 ∧ (0 ≤ hG1 s k → k ≤ hG1 s k) := by
  have r := hb.conf.r; have w := hb.conf.w; have g := hb.log; have e := hb.learned
  have a1 := heldI_b s.conf.reps (k + 1 + 1 + 1 + 1 + 1 + 1) (by omega)
  have a2 := heldI_b s.conf.wits (hR1 s k) h1
  have a3 := heldE_b s.log (hW1 s k + 1) (by omega)
  have a4 := heldE_b s.learned (hL1 s k + 1) (by omega)
  change hR1 s k ≤ _ ∧ (0 ≤ hR1 s k → _ ≤ hR1 s k) at a1
  change hW1 s k ≤ _ ∧ (0 ≤ hW1 s k → _ ≤ hW1 s k) at a2
  change hL1 s k ≤ _ ∧ (0 ≤ hL1 s k → _ ≤ hL1 s k) at a3
  change hG1 s k ≤ _ ∧ (0 ≤ hG1 s k → _ ≤ hG1 s k) at a4
  omega
theorem heldSs_b : ∀ (l : List Srv) (k : Int), (∀ c ∈ l, SrvB c) → 0 ≤ k → heldSs l k ≤ k + 16777224 * l.length ∧ (0 ≤ heldSs l k → k ≤ heldSs l k)
  | [], k, hl, h => by simp [heldSs]
  | c :: l, k, hl, h => by
    simp only [heldSs, List.length_cons]; split
    · rename_i q
      have q2 := q
      obtain ⟨_, _, _, _, _, _, r1, r2, _, r3, _, r4⟩ := q2
      have h1 := hG1_b (s := c) (k := k) (hl c (by simp)) h r1 r2 r3
      have h2 := heldSs_b l (hG1 c k) (fun c hc => hl c (by simp [hc])) r4
      push_cast; exact ⟨by omega, fun h => by omega⟩
    · push_cast; exact ⟨by omega, fun h => by first | omega | (simp at h; done) | (exact False.elim h)⟩
theorem heldSs_f {l : List Srv} {i : Nat} {k r : Int} (hi : i < l.length) (hR : heldSs (l.drop i) k = r) (h : ¬ SOK (at' l i) k) : -1 = r := by
  rw [drop_at (l := l) (i := i) hi, heldSs, if_neg h] at hR
  exact hR
theorem heldSs_y {l : List Srv} {i : Nat} {k r : Int} (hi : i < l.length) (hR : heldSs (l.drop i) k = r) (h : SOK (at' l i) k) : heldSs (l.drop (i + 1)) (hG1 (at' l i) k) = r := by
  rw [drop_at (l := l) (i := i) hi, heldSs, if_pos h] at hR
  exact hR
theorem heldSs_f1 {l : List Srv} {i : Nat} {k r : Int} (hi : i < l.length) (hR : heldSs (l.drop i) k = r) (h : ¬ (at' l i).up = (k.tmod 3 == 0)) : -1 = r := heldSs_f hi hR (fun q => h q.1)
theorem heldSs_f2 {l : List Srv} {i : Nat} {k r : Int} (hi : i < l.length) (hR : heldSs (l.drop i) k = r) (h : ¬ (at' l i).intact = ((k + 1).tmod 3 == 0)) : -1 = r := heldSs_f hi hR (fun q => h q.2.1)
theorem heldSs_f3 {l : List Srv} {i : Nat} {k r : Int} (hi : i < l.length) (hR : heldSs (l.drop i) k = r) (h : ¬ ((at' l i).ver = k + 1 + 1 ∧ (at' l i).epoch = k + 1 + 1 + 1 ∧ (at' l i).conf.epoch = k + 1 + 1 + 1 + 1 ∧ (at' l i).conf.primary = k + 1 + 1 + 1 + 1 + 1 ∧ 0 ≤ heldI (at' l i).conf.reps (k + 1 + 1 + 1 + 1 + 1 + 1) ∧ 0 ≤ heldI (at' l i).conf.wits (heldI (at' l i).conf.reps (k + 1 + 1 + 1 + 1 + 1 + 1)) ∧ (at' l i).first = heldI (at' l i).conf.wits (heldI (at' l i).conf.reps (k + 1 + 1 + 1 + 1 + 1 + 1)) ∧ 0 ≤ heldE (at' l i).log (heldI (at' l i).conf.wits (heldI (at' l i).conf.reps (k + 1 + 1 + 1 + 1 + 1 + 1)) + 1) ∧ (at' l i).commit = heldE (at' l i).log (heldI (at' l i).conf.wits (heldI (at' l i).conf.reps (k + 1 + 1 + 1 + 1 + 1 + 1)) + 1) ∧ 0 ≤ heldE (at' l i).learned (heldE (at' l i).log (heldI (at' l i).conf.wits (heldI (at' l i).conf.reps (k + 1 + 1 + 1 + 1 + 1 + 1)) + 1) + 1))) : -1 = r := heldSs_f hi hR (fun q => h q.2.2)
theorem heldSs_ok {l : List Srv} {i : Nat} {k r : Int} (hi : i < l.length) (hR : heldSs (l.drop i) k = r) (h1 : (at' l i).up = (k.tmod 3 == 0)) (h2 : (at' l i).intact = ((k + 1).tmod 3 == 0)) (h : ((at' l i).ver = k + 1 + 1 ∧ (at' l i).epoch = k + 1 + 1 + 1 ∧ (at' l i).conf.epoch = k + 1 + 1 + 1 + 1 ∧ (at' l i).conf.primary = k + 1 + 1 + 1 + 1 + 1 ∧ 0 ≤ heldI (at' l i).conf.reps (k + 1 + 1 + 1 + 1 + 1 + 1) ∧ 0 ≤ heldI (at' l i).conf.wits (heldI (at' l i).conf.reps (k + 1 + 1 + 1 + 1 + 1 + 1)) ∧ (at' l i).first = heldI (at' l i).conf.wits (heldI (at' l i).conf.reps (k + 1 + 1 + 1 + 1 + 1 + 1)) ∧ 0 ≤ heldE (at' l i).log (heldI (at' l i).conf.wits (heldI (at' l i).conf.reps (k + 1 + 1 + 1 + 1 + 1 + 1)) + 1) ∧ (at' l i).commit = heldE (at' l i).log (heldI (at' l i).conf.wits (heldI (at' l i).conf.reps (k + 1 + 1 + 1 + 1 + 1 + 1)) + 1) ∧ 0 ≤ heldE (at' l i).learned (heldE (at' l i).log (heldI (at' l i).conf.wits (heldI (at' l i).conf.reps (k + 1 + 1 + 1 + 1 + 1 + 1)) + 1) + 1))) : heldSs (l.drop (i + 1)) (hG1 (at' l i) k) = r := heldSs_y hi hR ⟨h1, h2, h⟩
def heldSv (s : Srv) (k : Int) : Int :=
  if heldC s.conf k < 0 then -1 else if heldE s.log (heldC s.conf k) < 0 then -1 else heldE s.learned (heldE s.log (heldC s.conf k))
def markSv (s : Srv) (k : Int) : Srv := { s with conf := markC s.conf k, log := markE s.log (endC s.conf k), learned := markE s.learned (endC s.conf k + 7 * s.log.length) }
def endSv (s : Srv) (k : Int) : Int := endC s.conf k + 7 * s.log.length + 7 * s.learned.length
theorem heldSv_mark {s : Srv} {k : Int} (h : 0 ≤ k) : heldSv (markSv s k) k = endSv s k := by
  have e1 : heldC (markSv s k).conf k = endC s.conf k := heldC_mark h
  have g : 0 ≤ endC s.conf k := by simp only [endC]; omega
  have e2 : heldE (markSv s k).log (endC s.conf k) = endC s.conf k + 7 * s.log.length := heldE_mark _ _
  have e3 : heldE (markSv s k).learned (endC s.conf k + 7 * s.log.length) = endSv s k := heldE_mark _ _
  unfold heldSv
  rw [e1, if_neg (by omega), e2, if_neg (by omega), e3]
theorem heldCs_n : ∀ (l : List Conf) (k : Int), 0 ≤ k → heldCs l k < 0 → -1 = heldCs l k
  | [], k, h, g => by simp [heldCs] at g; omega
  | x :: l, k, h, g => by
    simp only [heldCs] at g ⊢; split
    · rename_i q; rw [if_pos q] at g; exact heldCs_n l _ q.2.2 g
    · rfl
theorem mkL_I (l : List Int) (k : Int) : mkL (fun _ k => k) (fun _ k => k + 1) l k l.length = markI l k := mkL_full (fun _ => rfl) (fun _ _ _ => rfl) l k
theorem mkK_I (l : List Int) (k : Int) : ∀ i : Nat, mkK (fun _ k => k + 1) l k i = k + i
  | 0 => by simp [mkK]
  | i + 1 => by rw [mkK, mkK_I l k i]; push_cast; omega
theorem mkL_E (l : List LEnt) (k : Int) : mkL (fun _ k => entK k) (fun _ k => k + 7) l k l.length = markE l k := mkL_full (fun _ => rfl) (fun _ _ _ => rfl) l k
theorem mkK_E (l : List LEnt) (k : Int) : ∀ i : Nat, mkK (fun _ k => k + 7) l k i = k + 7 * i
  | 0 => by simp [mkK]
  | i + 1 => by rw [mkK, mkK_E l k i]; push_cast; omega
theorem mkL_P (l : List Plc) (k : Int) : mkL (fun _ k => plcK k) (fun _ k => k + 3) l k l.length = markP l k := mkL_full (fun _ => rfl) (fun _ _ _ => rfl) l k
theorem mkK_P (l : List Plc) (k : Int) : ∀ i : Nat, mkK (fun _ k => k + 3) l k i = k + 3 * i
  | 0 => by simp [mkK]
  | i + 1 => by rw [mkK, mkK_P l k i]; push_cast; omega
theorem mkL_C (l : List Conf) (k : Int) : mkL confK (fun c k => endC c (k + 1 + 1)) l k l.length = markCs l k := mkL_full (fun _ => rfl) (fun _ _ _ => rfl) l k
theorem mkK_C (l : List Conf) (k : Int) : mkK (fun c k => endC c (k + 1 + 1)) l k l.length = endCs l k := mkK_full (fun _ => rfl) (fun _ _ _ => rfl) l k
theorem mkL_S (l : List Srv) (k : Int) : mkL srvK endS l k l.length = markSs l k := mkL_full (fun _ => rfl) (fun _ _ _ => rfl) l k
theorem mkK_S (l : List Srv) (k : Int) : mkK endS l k l.length = endSs l k := mkK_full (fun _ => rfl) (fun _ _ _ => rfl) l k
theorem mkK_Cle {l : List Conf} (h : ∀ c ∈ l, ConfB c) (k : Int) (i : Nat) (hi : i ≤ l.length) : mkK (fun c k => endC c (k + 1 + 1)) l k i ≤ k + 2097154 * i := mkK_le (C := 2097154) (fun x hx k => by have := endC_le (k := k + 1 + 1) (h x hx); change endC x (k + 1 + 1) ≤ k + (2097154 : Nat); omega) k i hi
theorem mkK_Cge (l : List Conf) (k : Int) (i : Nat) : k ≤ mkK (fun c k => endC c (k + 1 + 1)) l k i := mkK_ge (fun x k => by have := endC_ge (c := x) (k := k + 1 + 1); omega) k i
theorem mkK_Sle {l : List Srv} (h : ∀ c ∈ l, SrvB c) (k : Int) (i : Nat) (hi : i ≤ l.length) : mkK endS l k i ≤ k + 16777224 * i := mkK_le (C := 16777224) (fun x hx k => endS_le (h x hx)) k i hi
theorem mkK_Sge (l : List Srv) (k : Int) (i : Nat) : k ≤ mkK endS l k i := mkK_ge (fun x k => by have := endS_ge (s := x) (k := k); omega) k i
theorem markE_b {l : List LEnt} {k : Int} {n : Nat} (h : l.length ≤ n) : (markE l k).length ≤ n := by rw [markE_len]; exact h
theorem markI_b {l : List Int} {k : Int} {n : Nat} (h : l.length ≤ n) : (markI l k).length ≤ n := by rw [markI_len]; exact h
theorem confK_B {c : Conf} {k : Int} (h : ConfB c) : ConfB (confK c k) := ⟨markI_b h.r, markI_b h.w⟩
theorem srvK_B {c : Srv} {k : Int} (h : SrvB c) : SrvB (srvK c k) := ⟨confK_B h.conf, markE_b h.log, markE_b h.learned⟩
theorem markCs_B : ∀ {l : List Conf} {k : Int}, (∀ c ∈ l, ConfB c) → ∀ c ∈ markCs l k, ConfB c
  | [], k, h, c, hc => by simp [markCs] at hc
  | x :: l, k, h, c, hc => by
    simp only [markCs, List.mem_cons] at hc
    rcases hc with rfl | hc
    · exact confK_B (h x (by simp))
    · exact markCs_B (fun c hc => h c (by simp [hc])) c hc
theorem markSs_B : ∀ {l : List Srv} {k : Int}, (∀ c ∈ l, SrvB c) → ∀ c ∈ markSs l k, SrvB c
  | [], k, h, c, hc => by simp [markSs] at hc
  | x :: l, k, h, c, hc => by
    simp only [markSs, List.mem_cons] at hc
    rcases hc with rfl | hc
    · exact srvK_B (h x (by simp))
    · exact markSs_B (fun c hc => h c (by simp [hc])) c hc
theorem markU_B {c : Clu} {k : Int} (h : CluB c) : CluB (markU c k) := by
  have e1 : (markU c k).srvs.length = c.srvs.length := markSs_len _ _
  have e2 : (markU c k).sides.length = c.sides.length := markI_len _ _
  have e3 : (markU c k).mast.confs.length = c.mast.confs.length := markCs_len _ _
  have e4 : (markU c k).plcs.length = c.plcs.length := markP_len _ _
  exact ⟨markSs_B h.srvs, by rw [e1]; exact h.sl, by rw [e2]; exact h.sd, ⟨by rw [e3]; exact h.m.len, markCs_B h.m.confs⟩, by rw [e4]; exact h.pl⟩
theorem endU_b {c : Clu} {k : Int} (h : CluB c) : k ≤ endU c k ∧ endU c k ≤ k + 36028797018963968 := by
  have a1 := endSs_ge c.srvs k; have a2 := endSs_le c.srvs k h.srvs; have a3 := h.sl
  have a4 := h.sd; have a5 := endCs_ge c.mast.confs (endSs c.srvs k + c.sides.length); have a6 := endCs_le c.mast.confs (endSs c.srvs k + c.sides.length) h.m.confs
  have a7 := h.m.len; have a8 := h.pl
  unfold endU; omega
end
end Go.Abs
set_option linter.unusedVariables false
set_option linter.unusedSimpArgs false
namespace Go.Abs
noncomputable section
theorem setSrv_B {c : Clu} {id : Int} {s : Srv} (h : CluB c) (hs : SrvB s) : CluB (setSrv c id s) := by
  refine ⟨fun x hx => ?_, ?_, h.sd, h.m, h.pl⟩
  · rcases List.mem_or_eq_of_mem_set hx with hx | rfl
    · exact h.srvs x hx
    · exact hs
  · have : (setSrv c id s).srvs.length = c.srvs.length := by simp [setSrv]
    rw [this]; exact h.sl
theorem repairR_B {c : Clu} {f t : Int} (h : CluB c) : CluB (repairR c f t).1 := by
  unfold repairR; split
  · exact setSrv_B h ⟨(h.at _).conf, (h.at _).log, (h.at _).learned⟩
  · exact h
theorem endU_eq (c : Clu) (k : Int) : endU c k = endCs c.mast.confs (endSs c.srvs k + c.sides.length) + 3 * c.plcs.length := rfl
theorem endSv_eq (s : Srv) (k : Int) : endSv s k = endC s.conf k + 7 * s.log.length + 7 * s.learned.length := rfl
theorem heldU_m {now mup act : Int} {lse : Lse} {srvs : List Srv} {sides : List Int} {confs : List Conf} {plcs : List Plc} : heldU ⟨now, markSs srvs 1, markI sides (endSs srvs 1), ⟨markCs confs (endSs srvs 1 + (sides.length : Int)), act⟩, mup, lse, markP plcs (endCs confs (endSs srvs 1 + (sides.length : Int)))⟩ 1 = endCs confs (endSs srvs 1 + (sides.length : Int)) + 3 * (plcs.length : Int) :=
  heldU_mark (c := ⟨now, srvs, sides, ⟨confs, act⟩, mup, lse, plcs⟩) (by decide)
theorem heldSv_m {up intact : Bool} {ver epoch first commit : Int} {x : Conf} {log learned : List LEnt} : heldSv ⟨up, intact, ver, epoch, ⟨x.epoch, x.primary, markI x.reps 1, markI x.wits (1 + (x.reps.length : Int))⟩, first, markE log (endC x 1), commit, markE learned (endC x 1 + 7 * (log.length : Int))⟩ 1 = endC x 1 + 7 * (log.length : Int) + 7 * (learned.length : Int) :=
  heldSv_mark (s := ⟨up, intact, ver, epoch, x, first, log, commit, learned⟩) (by decide)
theorem heldI_m (l : List Int) : heldI (markI l 1) 1 = 1 + l.length := heldI_mark l 1
end
end Go.Abs
