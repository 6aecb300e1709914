/- The program's values in plain Lean, and what its functions compute, in plain Lean. No condition. -/
import Derived.Test.YtijifinpifomcaaMachFive
set_option linter.unusedVariables false
set_option linter.unusedSimpArgs false
set_option linter.constructorNameAsVariable false
namespace Go.Abs
open Go
abbrev vi (x : Int) : Value := .int .i64 x
def eInt (x : Int) : List T := [.v (vi x)]
theorem eInt_eq (x : Int) : eInt x = [.v (vi x)] := rfl
theorem own_eInt (l : List Int) : ownEs (l.map eInt) = true := E.ownEs_map (fun _ => rfl) l
theorem bor_eInt (l : List Int) : borEs (l.map eInt) = l.map eInt := E.borEs_map (fun _ => rfl) l
theorem scal_eInt (l : List Int) : scalEs (l.map eInt) = true := E.scalEs_map (fun _ => rfl) l
theorem one_eInt (l : List Int) : oneEs (l.map eInt) = true := E.oneEs_map (fun _ => rfl) l
theorem szEs_map {α : Type} {f : α → List T} (h : ∀ x, szE (f x) = true) : ∀ l : List α, szEs (l.map f) = true
  | [] => rfl
  | x :: l => by simp [szEs, h x, szEs_map h l]
theorem sz_eInt (l : List Int) : szEs (l.map eInt) = true := szEs_map (fun _ => rfl) l
theorem fit_i {t : T} (h : E.Fit (.i .i64) t) : ∃ n : Int, t = .v (vi n) := by cases h with | i _ n _ => exact ⟨n, rfl⟩
theorem fit_li {t : T} (h : E.Fit (.sl [.i .i64]) t) : ∃ l : List Int, t = .s false 1 (l.map eInt) ∧ l.length ≤ maxLen := by
  cases h with
  | sl _ es h hl =>
    obtain ⟨l, rfl⟩ := E.FitEs.map (enc := eInt) (fun e he => by
      cases he with | cons _ _ t ts h1 h2 =>
      cases h2
      obtain ⟨n, rfl⟩ := fit_i h1
      exact ⟨n, rfl⟩) h
    exact ⟨l, rfl, by simpa using hl⟩
structure ROp where
  client : Int
  seq : Int
  kind : Int
  obj : Int
  old : Int
  val : Int
instance : Inhabited ROp := ⟨⟨0, 0, 0, 0, 0, 0⟩⟩
noncomputable instance : DecidableEq ROp := fun a b => Classical.propDecidable (a = b)
def eROp (x : ROp) : List T := [.v (vi x.client), .v (vi x.seq), .v (vi x.kind), .v (vi x.obj), .v (vi x.old), .v (vi x.val)]
theorem eROp_eq (x : ROp) : eROp x = [.v (vi x.client), .v (vi x.seq), .v (vi x.kind), .v (vi x.obj), .v (vi x.old), .v (vi x.val)] := rfl
theorem own_eROp (l : List ROp) : ownEs (l.map eROp) = true := E.ownEs_map (fun _ => rfl) l
theorem bor_eROp (l : List ROp) : borEs (l.map eROp) = l.map eROp := E.borEs_map (fun _ => rfl) l
theorem scal_eROp (l : List ROp) : scalEs (l.map eROp) = true := E.scalEs_map (fun _ => rfl) l
theorem one_eROp (l : List ROp) : oneEs (l.map eROp) = true := E.oneEs_map (fun _ => rfl) l
structure Res where
  done : Bool
  val : Int
instance : Inhabited Res := ⟨⟨false, 0⟩⟩
noncomputable instance : DecidableEq Res := fun a b => Classical.propDecidable (a = b)
def eRes (x : Res) : List T := [.v (.bool x.done), .v (vi x.val)]
theorem eRes_eq (x : Res) : eRes x = [.v (.bool x.done), .v (vi x.val)] := rfl
theorem own_eRes (l : List Res) : ownEs (l.map eRes) = true := E.ownEs_map (fun _ => rfl) l
theorem bor_eRes (l : List Res) : borEs (l.map eRes) = l.map eRes := E.borEs_map (fun _ => rfl) l
theorem scal_eRes (l : List Res) : scalEs (l.map eRes) = true := E.scalEs_map (fun _ => rfl) l
theorem one_eRes (l : List Res) : oneEs (l.map eRes) = true := E.oneEs_map (fun _ => rfl) l
structure Sess where
  client : Int
  seq : Int
  res : Res
instance : Inhabited Sess := ⟨⟨0, 0, ⟨false, 0⟩⟩⟩
noncomputable instance : DecidableEq Sess := fun a b => Classical.propDecidable (a = b)
def eSess (x : Sess) : List T := [.v (vi x.client), .v (vi x.seq), .v (.bool x.res.done), .v (vi x.res.val)]
theorem eSess_eq (x : Sess) : eSess x = [.v (vi x.client), .v (vi x.seq), .v (.bool x.res.done), .v (vi x.res.val)] := rfl
theorem own_eSess (l : List Sess) : ownEs (l.map eSess) = true := E.ownEs_map (fun _ => rfl) l
theorem bor_eSess (l : List Sess) : borEs (l.map eSess) = l.map eSess := E.borEs_map (fun _ => rfl) l
theorem scal_eSess (l : List Sess) : scalEs (l.map eSess) = true := E.scalEs_map (fun _ => rfl) l
theorem one_eSess (l : List Sess) : oneEs (l.map eSess) = true := E.oneEs_map (fun _ => rfl) l
structure Mach where
  objs : List Int
  sess : List Sess
instance : Inhabited Mach := ⟨⟨[], []⟩⟩
noncomputable instance : DecidableEq Mach := fun a b => Classical.propDecidable (a = b)
def eMach (o : Bool) (x : Mach) : List T := [.s o 1 (x.objs.map eInt), .s o 4 (x.sess.map eSess)]
theorem eMach_eq (o : Bool) (x : Mach) : eMach o x = [.s o 1 (x.objs.map eInt), .s o 4 (x.sess.map eSess)] := rfl
theorem own_eMach (l : List Mach) : ownEs (l.map (eMach true)) = true := E.ownEs_map (fun x => by simp [eMach, ownE, ownT, own_eSess, own_eInt]) l
theorem bor_eMach (o : Bool) (l : List Mach) : borEs (l.map (eMach o)) = l.map (eMach false) := E.borEs_map (fun x => by simp [eMach, borE, borT, bor_eSess, bor_eInt]) l
theorem one_eMach (o : Bool) (l : List Mach) : oneEs (l.map (eMach o)) = true := E.oneEs_map (fun _ => rfl) l
structure LEnt where
  epoch : Int
  op : ROp
instance : Inhabited LEnt := ⟨⟨0, ⟨0, 0, 0, 0, 0, 0⟩⟩⟩
noncomputable instance : DecidableEq LEnt := fun a b => Classical.propDecidable (a = b)
def eLEnt (x : LEnt) : List T := [.v (vi x.epoch), .v (vi x.op.client), .v (vi x.op.seq), .v (vi x.op.kind), .v (vi x.op.obj), .v (vi x.op.old), .v (vi x.op.val)]
theorem eLEnt_eq (x : LEnt) : eLEnt x = [.v (vi x.epoch), .v (vi x.op.client), .v (vi x.op.seq), .v (vi x.op.kind), .v (vi x.op.obj), .v (vi x.op.old), .v (vi x.op.val)] := rfl
theorem own_eLEnt (l : List LEnt) : ownEs (l.map eLEnt) = true := E.ownEs_map (fun _ => rfl) l
theorem bor_eLEnt (l : List LEnt) : borEs (l.map eLEnt) = l.map eLEnt := E.borEs_map (fun _ => rfl) l
theorem scal_eLEnt (l : List LEnt) : scalEs (l.map eLEnt) = true := E.scalEs_map (fun _ => rfl) l
theorem one_eLEnt (l : List LEnt) : oneEs (l.map eLEnt) = true := E.oneEs_map (fun _ => rfl) l
structure Conf where
  epoch : Int
  primary : Int
  reps : List Int
  wits : List Int
instance : Inhabited Conf := ⟨⟨0, 0, [], []⟩⟩
noncomputable instance : DecidableEq Conf := fun a b => Classical.propDecidable (a = b)
def eConf (o : Bool) (x : Conf) : List T := [.v (vi x.epoch), .v (vi x.primary), .s o 1 (x.reps.map eInt), .s o 1 (x.wits.map eInt)]
theorem eConf_eq (o : Bool) (x : Conf) : eConf o x = [.v (vi x.epoch), .v (vi x.primary), .s o 1 (x.reps.map eInt), .s o 1 (x.wits.map eInt)] := rfl
theorem own_eConf (l : List Conf) : ownEs (l.map (eConf true)) = true := E.ownEs_map (fun x => by simp [eConf, ownE, ownT, own_eInt]) l
theorem bor_eConf (o : Bool) (l : List Conf) : borEs (l.map (eConf o)) = l.map (eConf false) := E.borEs_map (fun x => by simp [eConf, borE, borT, bor_eInt]) l
theorem one_eConf (o : Bool) (l : List Conf) : oneEs (l.map (eConf o)) = true := E.oneEs_map (fun _ => rfl) l
structure Plc where
  rack : Int
  cap : Int
  load : Int
instance : Inhabited Plc := ⟨⟨0, 0, 0⟩⟩
noncomputable instance : DecidableEq Plc := fun a b => Classical.propDecidable (a = b)
def ePlc (x : Plc) : List T := [.v (vi x.rack), .v (vi x.cap), .v (vi x.load)]
theorem ePlc_eq (x : Plc) : ePlc x = [.v (vi x.rack), .v (vi x.cap), .v (vi x.load)] := rfl
theorem own_ePlc (l : List Plc) : ownEs (l.map ePlc) = true := E.ownEs_map (fun _ => rfl) l
theorem bor_ePlc (l : List Plc) : borEs (l.map ePlc) = l.map ePlc := E.borEs_map (fun _ => rfl) l
theorem scal_ePlc (l : List Plc) : scalEs (l.map ePlc) = true := E.scalEs_map (fun _ => rfl) l
theorem one_ePlc (l : List Plc) : oneEs (l.map ePlc) = true := E.oneEs_map (fun _ => rfl) l
structure MLog where
  confs : List Conf
  act : Int
instance : Inhabited MLog := ⟨⟨[], 0⟩⟩
noncomputable instance : DecidableEq MLog := fun a b => Classical.propDecidable (a = b)
def eMLog (o : Bool) (x : MLog) : List T := [.s o 4 (x.confs.map (eConf o)), .v (vi x.act)]
theorem eMLog_eq (o : Bool) (x : MLog) : eMLog o x = [.s o 4 (x.confs.map (eConf o)), .v (vi x.act)] := rfl
theorem own_eMLog (l : List MLog) : ownEs (l.map (eMLog true)) = true := E.ownEs_map (fun x => by simp [eMLog, ownE, ownT, own_eConf]) l
theorem bor_eMLog (o : Bool) (l : List MLog) : borEs (l.map (eMLog o)) = l.map (eMLog false) := E.borEs_map (fun x => by simp [eMLog, borE, borT, bor_eConf]) l
theorem one_eMLog (o : Bool) (l : List MLog) : oneEs (l.map (eMLog o)) = true := E.oneEs_map (fun _ => rfl) l
structure Lse where
  epoch : Int
  holder : Int
  til : Int
instance : Inhabited Lse := ⟨⟨0, 0, 0⟩⟩
noncomputable instance : DecidableEq Lse := fun a b => Classical.propDecidable (a = b)
def eLse (x : Lse) : List T := [.v (vi x.epoch), .v (vi x.holder), .v (vi x.til)]
theorem eLse_eq (x : Lse) : eLse x = [.v (vi x.epoch), .v (vi x.holder), .v (vi x.til)] := rfl
theorem own_eLse (l : List Lse) : ownEs (l.map eLse) = true := E.ownEs_map (fun _ => rfl) l
theorem bor_eLse (l : List Lse) : borEs (l.map eLse) = l.map eLse := E.borEs_map (fun _ => rfl) l
theorem scal_eLse (l : List Lse) : scalEs (l.map eLse) = true := E.scalEs_map (fun _ => rfl) l
theorem one_eLse (l : List Lse) : oneEs (l.map eLse) = true := E.oneEs_map (fun _ => rfl) l
structure Srv where
  up : Bool
  intact : Bool
  ver : Int
  epoch : Int
  conf : Conf
  first : Int
  log : List LEnt
  commit : Int
  learned : List LEnt
instance : Inhabited Srv := ⟨⟨false, false, 0, 0, ⟨0, 0, [], []⟩, 0, [], 0, []⟩⟩
noncomputable instance : DecidableEq Srv := fun a b => Classical.propDecidable (a = b)
def eSrv (o : Bool) (x : Srv) : List T := [.v (.bool x.up), .v (.bool x.intact), .v (vi x.ver), .v (vi x.epoch), .v (vi x.conf.epoch), .v (vi x.conf.primary), .s o 1 (x.conf.reps.map eInt), .s o 1 (x.conf.wits.map eInt), .v (vi x.first), .s o 7 (x.log.map eLEnt), .v (vi x.commit), .s o 7 (x.learned.map eLEnt)]
theorem eSrv_eq (o : Bool) (x : Srv) : eSrv o x = [.v (.bool x.up), .v (.bool x.intact), .v (vi x.ver), .v (vi x.epoch), .v (vi x.conf.epoch), .v (vi x.conf.primary), .s o 1 (x.conf.reps.map eInt), .s o 1 (x.conf.wits.map eInt), .v (vi x.first), .s o 7 (x.log.map eLEnt), .v (vi x.commit), .s o 7 (x.learned.map eLEnt)] := rfl
theorem own_eSrv (l : List Srv) : ownEs (l.map (eSrv true)) = true := E.ownEs_map (fun x => by simp [eSrv, ownE, ownT, own_eLEnt, own_eInt]) l
theorem bor_eSrv (o : Bool) (l : List Srv) : borEs (l.map (eSrv o)) = l.map (eSrv false) := E.borEs_map (fun x => by simp [eSrv, borE, borT, bor_eLEnt, bor_eInt]) l
theorem one_eSrv (o : Bool) (l : List Srv) : oneEs (l.map (eSrv o)) = true := E.oneEs_map (fun _ => rfl) l
structure Clu where
  now : Int
  srvs : List Srv
  sides : List Int
  mast : MLog
  mup : Int
  lse : Lse
  plcs : List Plc
instance : Inhabited Clu := ⟨⟨0, [], [], ⟨[], 0⟩, 0, ⟨0, 0, 0⟩, []⟩⟩
noncomputable instance : DecidableEq Clu := fun a b => Classical.propDecidable (a = b)
def eClu (o : Bool) (x : Clu) : List T := [.v (vi x.now), .s o 12 (x.srvs.map (eSrv o)), .s o 1 (x.sides.map eInt), .s o 4 (x.mast.confs.map (eConf o)), .v (vi x.mast.act), .v (vi x.mup), .v (vi x.lse.epoch), .v (vi x.lse.holder), .v (vi x.lse.til), .s o 3 (x.plcs.map ePlc)]
theorem eClu_eq (o : Bool) (x : Clu) : eClu o x = [.v (vi x.now), .s o 12 (x.srvs.map (eSrv o)), .s o 1 (x.sides.map eInt), .s o 4 (x.mast.confs.map (eConf o)), .v (vi x.mast.act), .v (vi x.mup), .v (vi x.lse.epoch), .v (vi x.lse.holder), .v (vi x.lse.til), .s o 3 (x.plcs.map ePlc)] := rfl
theorem own_eClu (l : List Clu) : ownEs (l.map (eClu true)) = true := E.ownEs_map (fun x => by simp [eClu, ownE, ownT, own_eConf, own_ePlc, own_eSrv, own_eInt]) l
theorem bor_eClu (o : Bool) (l : List Clu) : borEs (l.map (eClu o)) = l.map (eClu false) := E.borEs_map (fun x => by simp [eClu, borE, borT, bor_eConf, bor_ePlc, bor_eSrv, bor_eInt]) l
theorem one_eClu (o : Bool) (l : List Clu) : oneEs (l.map (eClu o)) = true := E.oneEs_map (fun _ => rfl) l
structure Rep where
  code : Int
  res : Res
  idx : Int
instance : Inhabited Rep := ⟨⟨0, ⟨false, 0⟩, 0⟩⟩
noncomputable instance : DecidableEq Rep := fun a b => Classical.propDecidable (a = b)
def eRep (x : Rep) : List T := [.v (vi x.code), .v (.bool x.res.done), .v (vi x.res.val), .v (vi x.idx)]
theorem eRep_eq (x : Rep) : eRep x = [.v (vi x.code), .v (.bool x.res.done), .v (vi x.res.val), .v (vi x.idx)] := rfl
theorem own_eRep (l : List Rep) : ownEs (l.map eRep) = true := E.ownEs_map (fun _ => rfl) l
theorem bor_eRep (l : List Rep) : borEs (l.map eRep) = l.map eRep := E.borEs_map (fun _ => rfl) l
theorem scal_eRep (l : List Rep) : scalEs (l.map eRep) = true := E.scalEs_map (fun _ => rfl) l
theorem one_eRep (l : List Rep) : oneEs (l.map eRep) = true := E.oneEs_map (fun _ => rfl) l
structure Dmg where
  srv : Int
  idx : Int
instance : Inhabited Dmg := ⟨⟨0, 0⟩⟩
noncomputable instance : DecidableEq Dmg := fun a b => Classical.propDecidable (a = b)
def eDmg (x : Dmg) : List T := [.v (vi x.srv), .v (vi x.idx)]
theorem eDmg_eq (x : Dmg) : eDmg x = [.v (vi x.srv), .v (vi x.idx)] := rfl
theorem own_eDmg (l : List Dmg) : ownEs (l.map eDmg) = true := E.ownEs_map (fun _ => rfl) l
theorem bor_eDmg (l : List Dmg) : borEs (l.map eDmg) = l.map eDmg := E.borEs_map (fun _ => rfl) l
theorem scal_eDmg (l : List Dmg) : scalEs (l.map eDmg) = true := E.scalEs_map (fun _ => rfl) l
theorem one_eDmg (l : List Dmg) : oneEs (l.map eDmg) = true := E.oneEs_map (fun _ => rfl) l
theorem sz_eROp (l : List ROp) : szEs (l.map eROp) = true := szEs_map (fun x => by simp [eROp, szE, szT]) l
theorem sz_eRes (l : List Res) : szEs (l.map eRes) = true := szEs_map (fun x => by simp [eRes, szE, szT]) l
theorem sz_eSess (l : List Sess) : szEs (l.map eSess) = true := szEs_map (fun x => by simp [eSess, szE, szT]) l
theorem sz_eMach (o : Bool) (l : List Mach) : szEs (l.map (eMach o)) = true := szEs_map (fun x => by simp [eMach, szE, szT, sz_eSess, sz_eInt]) l
theorem sz_eLEnt (l : List LEnt) : szEs (l.map eLEnt) = true := szEs_map (fun x => by simp [eLEnt, szE, szT]) l
theorem sz_eConf (o : Bool) (l : List Conf) : szEs (l.map (eConf o)) = true := szEs_map (fun x => by simp [eConf, szE, szT, sz_eInt]) l
theorem sz_ePlc (l : List Plc) : szEs (l.map ePlc) = true := szEs_map (fun x => by simp [ePlc, szE, szT]) l
theorem sz_eMLog (o : Bool) (l : List MLog) : szEs (l.map (eMLog o)) = true := szEs_map (fun x => by simp [eMLog, szE, szT, sz_eConf]) l
theorem sz_eLse (l : List Lse) : szEs (l.map eLse) = true := szEs_map (fun x => by simp [eLse, szE, szT]) l
theorem sz_eSrv (o : Bool) (l : List Srv) : szEs (l.map (eSrv o)) = true := szEs_map (fun x => by simp [eSrv, szE, szT, sz_eLEnt, sz_eInt]) l
theorem sz_eClu (o : Bool) (l : List Clu) : szEs (l.map (eClu o)) = true := szEs_map (fun x => by simp [eClu, szE, szT, sz_eConf, sz_ePlc, sz_eSrv, sz_eInt]) l
theorem sz_eRep (l : List Rep) : szEs (l.map eRep) = true := szEs_map (fun x => by simp [eRep, szE, szT]) l
theorem sz_eDmg (l : List Dmg) : szEs (l.map eDmg) = true := szEs_map (fun x => by simp [eDmg, szE, szT]) l
theorem SZ : (∀ l : List Int, szEs (l.map eInt) = true) ∧ (∀ (l : List ROp), szEs (l.map eROp) = true) ∧ (∀ (l : List Res), szEs (l.map eRes) = true) ∧ (∀ (l : List Sess), szEs (l.map eSess) = true) ∧ (∀ o (l : List Mach), szEs (l.map (eMach o)) = true) ∧ (∀ (l : List LEnt), szEs (l.map eLEnt) = true) ∧ (∀ o (l : List Conf), szEs (l.map (eConf o)) = true) ∧ (∀ (l : List Plc), szEs (l.map ePlc) = true) ∧ (∀ o (l : List MLog), szEs (l.map (eMLog o)) = true) ∧ (∀ (l : List Lse), szEs (l.map eLse) = true) ∧ (∀ o (l : List Srv), szEs (l.map (eSrv o)) = true) ∧ (∀ o (l : List Clu), szEs (l.map (eClu o)) = true) ∧ (∀ (l : List Rep), szEs (l.map eRep) = true) ∧ (∀ (l : List Dmg), szEs (l.map eDmg) = true) := ⟨sz_eInt, sz_eROp, sz_eRes, sz_eSess, sz_eMach, sz_eLEnt, sz_eConf, sz_ePlc, sz_eMLog, sz_eLse, sz_eSrv, sz_eClu, sz_eRep, sz_eDmg⟩
theorem OWN : (∀ l : List Int, ownEs (l.map eInt) = true) ∧ (∀ l : List ROp, ownEs (l.map eROp) = true) ∧ (∀ l : List Res, ownEs (l.map eRes) = true) ∧ (∀ l : List Sess, ownEs (l.map eSess) = true) ∧ (∀ l : List Mach, ownEs (l.map (eMach true)) = true) ∧ (∀ l : List LEnt, ownEs (l.map eLEnt) = true) ∧ (∀ l : List Conf, ownEs (l.map (eConf true)) = true) ∧ (∀ l : List Plc, ownEs (l.map ePlc) = true) ∧ (∀ l : List MLog, ownEs (l.map (eMLog true)) = true) ∧ (∀ l : List Lse, ownEs (l.map eLse) = true) ∧ (∀ l : List Srv, ownEs (l.map (eSrv true)) = true) ∧ (∀ l : List Clu, ownEs (l.map (eClu true)) = true) ∧ (∀ l : List Rep, ownEs (l.map eRep) = true) ∧ (∀ l : List Dmg, ownEs (l.map eDmg) = true) := ⟨own_eInt, own_eROp, own_eRes, own_eSess, own_eMach, own_eLEnt, own_eConf, own_ePlc, own_eMLog, own_eLse, own_eSrv, own_eClu, own_eRep, own_eDmg⟩
theorem DE : (∀ x, eInt x = [.v (vi x)]) ∧ (∀ x, eROp x = [.v (vi x.client), .v (vi x.seq), .v (vi x.kind), .v (vi x.obj), .v (vi x.old), .v (vi x.val)]) ∧ (∀ x, eRes x = [.v (.bool x.done), .v (vi x.val)]) ∧ (∀ x, eSess x = [.v (vi x.client), .v (vi x.seq), .v (.bool x.res.done), .v (vi x.res.val)]) ∧ (∀ o x, eMach o x = [.s o 1 (x.objs.map eInt), .s o 4 (x.sess.map eSess)]) ∧ (∀ x, eLEnt x = [.v (vi x.epoch), .v (vi x.op.client), .v (vi x.op.seq), .v (vi x.op.kind), .v (vi x.op.obj), .v (vi x.op.old), .v (vi x.op.val)]) ∧ (∀ o x, eConf o x = [.v (vi x.epoch), .v (vi x.primary), .s o 1 (x.reps.map eInt), .s o 1 (x.wits.map eInt)]) ∧ (∀ x, ePlc x = [.v (vi x.rack), .v (vi x.cap), .v (vi x.load)]) ∧ (∀ o x, eMLog o x = [.s o 4 (x.confs.map (eConf o)), .v (vi x.act)]) ∧ (∀ x, eLse x = [.v (vi x.epoch), .v (vi x.holder), .v (vi x.til)]) ∧ (∀ o x, eSrv o x = [.v (.bool x.up), .v (.bool x.intact), .v (vi x.ver), .v (vi x.epoch), .v (vi x.conf.epoch), .v (vi x.conf.primary), .s o 1 (x.conf.reps.map eInt), .s o 1 (x.conf.wits.map eInt), .v (vi x.first), .s o 7 (x.log.map eLEnt), .v (vi x.commit), .s o 7 (x.learned.map eLEnt)]) ∧ (∀ o x, eClu o x = [.v (vi x.now), .s o 12 (x.srvs.map (eSrv o)), .s o 1 (x.sides.map eInt), .s o 4 (x.mast.confs.map (eConf o)), .v (vi x.mast.act), .v (vi x.mup), .v (vi x.lse.epoch), .v (vi x.lse.holder), .v (vi x.lse.til), .s o 3 (x.plcs.map ePlc)]) ∧ (∀ x, eRep x = [.v (vi x.code), .v (.bool x.res.done), .v (vi x.res.val), .v (vi x.idx)]) ∧ (∀ x, eDmg x = [.v (vi x.srv), .v (vi x.idx)]) := ⟨eInt_eq, eROp_eq, eRes_eq, eSess_eq, eMach_eq, eLEnt_eq, eConf_eq, ePlc_eq, eMLog_eq, eLse_eq, eSrv_eq, eClu_eq, eRep_eq, eDmg_eq⟩
theorem BOR : (∀ l : List Int, borEs (l.map eInt) = l.map eInt) ∧ (∀ (l : List ROp), borEs (l.map eROp) = l.map eROp) ∧ (∀ (l : List Res), borEs (l.map eRes) = l.map eRes) ∧ (∀ (l : List Sess), borEs (l.map eSess) = l.map eSess) ∧ (∀ o (l : List Mach), borEs (l.map (eMach o)) = l.map (eMach false)) ∧ (∀ (l : List LEnt), borEs (l.map eLEnt) = l.map eLEnt) ∧ (∀ o (l : List Conf), borEs (l.map (eConf o)) = l.map (eConf false)) ∧ (∀ (l : List Plc), borEs (l.map ePlc) = l.map ePlc) ∧ (∀ o (l : List MLog), borEs (l.map (eMLog o)) = l.map (eMLog false)) ∧ (∀ (l : List Lse), borEs (l.map eLse) = l.map eLse) ∧ (∀ o (l : List Srv), borEs (l.map (eSrv o)) = l.map (eSrv false)) ∧ (∀ o (l : List Clu), borEs (l.map (eClu o)) = l.map (eClu false)) ∧ (∀ (l : List Rep), borEs (l.map eRep) = l.map eRep) ∧ (∀ (l : List Dmg), borEs (l.map eDmg) = l.map eDmg) := ⟨bor_eInt, bor_eROp, bor_eRes, bor_eSess, bor_eMach, bor_eLEnt, bor_eConf, bor_ePlc, bor_eMLog, bor_eLse, bor_eSrv, bor_eClu, bor_eRep, bor_eDmg⟩
theorem ONE : (∀ l : List Int, oneEs (l.map eInt) = true) ∧ (∀ (l : List ROp), oneEs (l.map eROp) = true) ∧ (∀ (l : List Res), oneEs (l.map eRes) = true) ∧ (∀ (l : List Sess), oneEs (l.map eSess) = true) ∧ (∀ o (l : List Mach), oneEs (l.map (eMach o)) = true) ∧ (∀ (l : List LEnt), oneEs (l.map eLEnt) = true) ∧ (∀ o (l : List Conf), oneEs (l.map (eConf o)) = true) ∧ (∀ (l : List Plc), oneEs (l.map ePlc) = true) ∧ (∀ o (l : List MLog), oneEs (l.map (eMLog o)) = true) ∧ (∀ (l : List Lse), oneEs (l.map eLse) = true) ∧ (∀ o (l : List Srv), oneEs (l.map (eSrv o)) = true) ∧ (∀ o (l : List Clu), oneEs (l.map (eClu o)) = true) ∧ (∀ (l : List Rep), oneEs (l.map eRep) = true) ∧ (∀ (l : List Dmg), oneEs (l.map eDmg) = true) := ⟨one_eInt, one_eROp, one_eRes, one_eSess, one_eMach, one_eLEnt, one_eConf, one_ePlc, one_eMLog, one_eLse, one_eSrv, one_eClu, one_eRep, one_eDmg⟩
theorem SCAL : (∀ l : List Int, scalEs (l.map eInt) = true) ∧ (∀ l : List ROp, scalEs (l.map eROp) = true) ∧ (∀ l : List Res, scalEs (l.map eRes) = true) ∧ (∀ l : List Sess, scalEs (l.map eSess) = true) ∧ (∀ l : List LEnt, scalEs (l.map eLEnt) = true) ∧ (∀ l : List Plc, scalEs (l.map ePlc) = true) ∧ (∀ l : List Lse, scalEs (l.map eLse) = true) ∧ (∀ l : List Rep, scalEs (l.map eRep) = true) ∧ (∀ l : List Dmg, scalEs (l.map eDmg) = true) := ⟨scal_eInt, scal_eROp, scal_eRes, scal_eSess, scal_eLEnt, scal_ePlc, scal_eLse, scal_eRep, scal_eDmg⟩
theorem ETA : (∀ x : ROp, ROp.mk x.client x.seq x.kind x.obj x.old x.val = x) ∧ (∀ x : Res, Res.mk x.done x.val = x) ∧ (∀ x : Sess, Sess.mk x.client x.seq x.res = x) ∧ (∀ x : Mach, Mach.mk x.objs x.sess = x) ∧ (∀ x : LEnt, LEnt.mk x.epoch x.op = x) ∧ (∀ x : Conf, Conf.mk x.epoch x.primary x.reps x.wits = x) ∧ (∀ x : Plc, Plc.mk x.rack x.cap x.load = x) ∧ (∀ x : MLog, MLog.mk x.confs x.act = x) ∧ (∀ x : Lse, Lse.mk x.epoch x.holder x.til = x) ∧ (∀ x : Srv, Srv.mk x.up x.intact x.ver x.epoch x.conf x.first x.log x.commit x.learned = x) ∧ (∀ x : Clu, Clu.mk x.now x.srvs x.sides x.mast x.mup x.lse x.plcs = x) ∧ (∀ x : Rep, Rep.mk x.code x.res x.idx = x) ∧ (∀ x : Dmg, Dmg.mk x.srv x.idx = x) := ⟨fun _ => rfl, fun _ => rfl, fun _ => rfl, fun _ => rfl, fun _ => rfl, fun _ => rfl, fun _ => rfl, fun _ => rfl, fun _ => rfl, fun _ => rfl, fun _ => rfl, fun _ => rfl, fun _ => rfl⟩
end Go.Abs
set_option linter.unusedVariables false
set_option linter.unusedSimpArgs false
namespace Go.Abs
def inR (x lo hi : Int) : Bool := decide (lo ≤ x) && decide (x ≤ hi)
theorem inR_iff {x lo hi : Int} : inR x lo hi = true ↔ lo ≤ x ∧ x ≤ hi := by simp [inR]
theorem inR_of {x lo hi : Int} (h : inR x lo hi = true) : lo ≤ x ∧ x ≤ hi := inR_iff.1 h
def srvGo : Option Int → List Int → Bool
  | _, [] => true
  | p, x :: xs => inR x 0 4 && (match p with
    | none => true
    | some y => decide (y < x)) && srvGo (some x) xs
def areServers (l : List Int) : Bool := srvGo none l
def Asc (l : List Int) : Prop := l.Pairwise (· < ·)
theorem srvGo_some {l : List Int} : ∀ {y : Int}, srvGo (some y) l = true → Asc l ∧ ∀ x ∈ l, y < x ∧ 0 ≤ x ∧ x ≤ 4 := by
  induction l with
  | nil => intro y _; exact ⟨.nil, by simp⟩
  | cons x l ih =>
    intro y h
    simp only [srvGo, Bool.and_eq_true, decide_eq_true_eq, inR_iff] at h
    obtain ⟨h1, h2⟩ := ih h.2
    refine ⟨.cons (fun z hz => (h2 z hz).1) h1, fun z hz => ?_⟩
    rcases List.mem_cons.1 hz with rfl | hz
    · omega
    · have := h2 z hz; omega
theorem areServers_of {l : List Int} (h : areServers l = true) : Asc l ∧ ∀ x ∈ l, 0 ≤ x ∧ x ≤ 4 := by
  cases l with
  | nil => exact ⟨.nil, by simp⟩
  | cons x l =>
    simp only [areServers, srvGo, Bool.and_eq_true, inR_iff, Bool.and_true] at h
    obtain ⟨h1, h2⟩ := srvGo_some h.2
    refine ⟨.cons (fun z hz => (h2 z hz).1) h1, fun z hz => ?_⟩
    rcases List.mem_cons.1 hz with rfl | hz
    · omega
    · have := h2 z hz; omega
theorem asc_len : ∀ {l : List Int} (lo hi : Int), Asc l → (∀ x ∈ l, lo ≤ x ∧ x ≤ hi) → (l.length : Int) ≤ max 0 (hi - lo + 1)
  | [], lo, hi, _, _ => by simp; omega
  | x :: l, lo, hi, h, hb => by
    cases h with | cons h1 h2 =>
    have hx := hb x (by simp)
    have ih := asc_len (x + 1) hi h2 fun z hz => ⟨by have := h1 z hz; omega, (hb z (by simp [hz])).2⟩
    simp only [List.length_cons]
    omega
theorem areServers_len {l : List Int} (h : areServers l = true) : l.length ≤ 5 := by
  obtain ⟨h1, h2⟩ := areServers_of h
  have := asc_len 0 4 h1 h2
  omega
theorem areServers_iff {l : List Int} : areServers l = true ↔ Asc l ∧ ∀ x ∈ l, 0 ≤ x ∧ x ≤ 4 := by
  refine ⟨areServers_of, fun ⟨h1, h2⟩ => ?_⟩
  have key : ∀ (l : List Int) (y : Int), Asc l → (∀ x ∈ l, y < x ∧ 0 ≤ x ∧ x ≤ 4) → srvGo (some y) l = true := by
    intro l
    induction l with
    | nil => intro y _ _; rfl
    | cons x l ih =>
      intro y h1 h2
      cases h1 with | cons h3 h4 =>
      have := h2 x (by simp)
      simp only [srvGo, Bool.and_eq_true, decide_eq_true_eq, inR_iff]
      exact ⟨⟨⟨this.2.1, this.2.2⟩, this.1⟩, ih x h4 fun z hz => ⟨h3 z hz, (h2 z (by simp [hz])).2⟩⟩
  cases l with
  | nil => rfl
  | cons x l =>
    cases h1 with | cons h3 h4 =>
    have := h2 x (by simp)
    simp only [areServers, srvGo, Bool.and_eq_true, inR_iff, Bool.and_true]
    exact ⟨this, key l x h4 fun z hz => ⟨h3 z hz, h2 z (by simp [hz])⟩⟩
def putI : List Int → Int → List Int
  | [], x => [x]
  | y :: ys, x => if y < x then y :: putI ys x else if y = x then y :: ys else x :: y :: ys
def puts (l : List Int) : List Int := l.foldl putI []
theorem mem_putI {l : List Int} {x z : Int} : z ∈ putI l x ↔ z ∈ l ∨ z = x := by
  induction l with
  | nil => simp [putI]
  | cons y l ih =>
    simp only [putI]
    split
    · simp only [List.mem_cons, ih]; exact or_assoc.symm
    · split
      · rename_i h; subst h; simp; intro h; exact .inl h
      · simp only [List.mem_cons]; exact or_comm
theorem asc_putI {l : List Int} {x : Int} (h : Asc l) : Asc (putI l x) := by
  induction l with
  | nil => simp [putI, Asc]
  | cons y l ih =>
    cases h with | cons h1 h2 =>
    simp only [putI]
    split
    · rename_i hy
      refine .cons (fun z hz => ?_) (ih h2)
      rcases mem_putI.1 hz with hz | rfl
      · exact h1 z hz
      · exact hy
    · split
      · exact .cons h1 h2
      · refine .cons (fun z hz => ?_) (.cons h1 h2)
        rcases List.mem_cons.1 hz with rfl | hz
        · omega
        · have := h1 z hz; omega
theorem foldl_putI_mem {l : List Int} : ∀ {s : List Int} {z : Int}, z ∈ l.foldl putI s ↔ z ∈ s ∨ z ∈ l := by
  induction l with
  | nil => intro s z; simp
  | cons x l ih => intro s z; simp only [List.foldl_cons, ih, mem_putI, List.mem_cons]; exact or_assoc
theorem mem_puts {l : List Int} {z : Int} : z ∈ puts l ↔ z ∈ l := by simp [puts, foldl_putI_mem]
def unite (a b : List Int) : List Int := b.foldl putI (a.foldl putI [])
def common (a b : List Int) : List Int := puts (a.filter fun x => b.contains x)
def without (a b : List Int) : List Int := puts (a.filter fun x => !b.contains x)
theorem unite_eq (a b : List Int) : unite a b = puts (a ++ b) := by simp [unite, puts, List.foldl_append]
theorem mem_unite {a b : List Int} {z : Int} : z ∈ unite a b ↔ z ∈ a ∨ z ∈ b := by rw [unite_eq, mem_puts, List.mem_append]
def validOp (o : ROp) : Bool := inR o.client 0 2 && inR o.seq 1 99 && inR o.obj 0 2 && inR o.val 0 9 && (o.kind == 1 && o.old == 0 || o.kind == 2 && inR o.old 0 9)
def isNew (o : ROp) : Bool := o.kind == 2
end Go.Abs
set_option linter.unusedVariables false
set_option linter.unusedSimpArgs false
namespace Go.Abs
noncomputable section
def noRes : Res := ⟨false, 0⟩
def noMach : Mach := ⟨[], []⟩
def newMach : Mach := ⟨[0, 0, 0], []⟩
def noConf : Conf := ⟨0, 0, [], []⟩
def noLse : Lse := ⟨0, 0, 0⟩
def sessGo : Option Int → List Sess → Bool
  | _, [] => true
  | p, s :: ss => inR s.client 0 2 && (match p with
    | none => true
    | some y => decide (y < s.client)) && inR s.seq 1 99 && inR s.res.val 0 9 && sessGo (some s.client) ss
def validMach (m : Mach) : Bool := ((m.objs.length : Int) == 3) && m.objs.all (fun v => inR v 0 9) && sessGo none m.sess
def sessOf (m : Mach) (c : Int) : Option Sess := m.sess.find? fun s => s.client == c
def before (ss : List Sess) (c : Int) : Nat := (ss.takeWhile fun s => decide (s.client < c)).length
def stepOp (m : Mach) (o : ROp) (had : Bool) : Mach × Res :=
  let was := at' m.objs o.obj.toNat
  let r : Res := ⟨o.kind == 1 || was == o.old, was⟩
  let k := before m.sess o.client
  (⟨if r.done then m.objs.set o.obj.toNat o.val else m.objs, if had then m.sess.set k ⟨o.client, o.seq, r⟩ else m.sess.take k ++ ⟨o.client, o.seq, r⟩ :: m.sess.drop k⟩, r)
def applyOp (m : Mach) (o : ROp) : Mach × Res × Bool :=
  if validMach m && validOp o then
    match sessOf m o.client with
    | some s => if o.seq < s.seq then (m, noRes, false) else if s.seq = o.seq then (m, s.res, true) else ((stepOp m o true).1, (stepOp m o true).2, true)
    | none => ((stepOp m o false).1, (stepOp m o false).2, true)
  else (m, noRes, false)
def logGo : Option Int → List LEnt → Bool
  | _, [] => true
  | p, e :: es => inR e.epoch 1 20 && (match p with
    | none => true
    | some y => decide (y ≤ e.epoch)) && validOp e.op && logGo (some e.epoch) es
def isLog (l : List LEnt) : Bool := logGo none l && decide ((l.length : Int) ≤ 16)
def comPre : List LEnt → List LEnt → Nat
  | x :: xs, y :: ys => if x = y then comPre xs ys + 1 else 0
  | _, _ => 0
def replayM (l : List LEnt) : Mach := l.foldl (fun m e => (applyOp m e.op).1) newMach
def replay (l : List LEnt) : Mach × Bool := if isLog l then (replayM l, true) else (noMach, false)
def resAt (l : List LEnt) (i : Int) : Res × Bool :=
  if isLog l && inR i 0 ((l.length : Int) - 1) then ((applyOp (replay (l.take i.toNat)).1 (at' l i.toNat).op).2.1, (applyOp (replay (l.take i.toNat)).1 (at' l i.toNat).op).2.2) else (noRes, false)
def findGo (c s : Int) (i : Nat) : List LEnt → Int
  | [] => -1
  | e :: es => if e.op.client = c ∧ e.op.seq = s then i else findGo c s (i + 1) es
def findOp (l : List LEnt) (c s : Int) : Int := findGo c s 0 l
def validConf (c : Conf) : Bool := inR c.epoch 1 20 && areServers c.reps && areServers c.wits && c.reps.contains c.primary && (((common c.reps c.wits).length : Int) == 0)
def membersOf (c : Conf) : List Int := if validConf c then unite c.reps c.wits else []
def roleOf (c : Conf) (id : Int) : Int := if validConf c then (if id = c.primary then 1 else if c.reps.contains id then 2 else if c.wits.contains id then 3 else 0) else 0
def arePlaces (l : List Plc) : Bool := ((l.length : Int) == 5) && l.all fun p => inR p.rack 0 9 && inR p.cap 0 9 && inR p.load 0 99
def hasRoom (l : List Plc) (id : Int) : Bool := arePlaces l && inR id 0 4 && decide ((at' l id.toNat).load < (at' l id.toNat).cap)
def racksOf (l : List Plc) (ms : List Int) : List Int := if arePlaces l && areServers ms then puts (ms.map fun id => (at' l id.toNat).rack) else []
def confsGo (i : Nat) : List Conf → Bool
  | [] => true
  | c :: cs => validConf c && (c.epoch == (i : Int) + 1) && confsGo (i + 1) cs
def isML (m : MLog) : Bool := confsGo 0 m.confs && inR m.act 0 m.confs.length
def confAt (m : MLog) (e : Int) : Conf × Bool := if isML m && inR e 1 m.confs.length then (at' m.confs (e - 1).toNat, true) else (noConf, false)
def lastChosen (m : MLog) : Conf × Bool := confAt m m.confs.length
def lastAct (m : MLog) : Conf × Bool := confAt m m.act
def isLease (l : Lse) : Bool := (l == noLse) || inR l.epoch 1 20 && inR l.holder 0 4 && inR l.til 1 1049
def safeTime (l : Lse) : Int := if l = noLse ∨ isLease l = false then 0 else l.til + 3
def leaseOver (l : Lse) (now : Int) : Bool := isLease l && inR now 0 999 && decide (safeTime l ≤ now)
def lastE (l : List LEnt) : Int := match l.getLast? with
  | some e => e.epoch
  | none => 0
def isTail (first : Int) (t : List LEnt) : Bool := isLog t && decide ((t.length : Int) ≤ 3) && inR first 0 (16 - (t.length : Int)) && ((first == 0) || ((t.length : Int) == 3))
def validSrv (s : Srv) (id : Int) : Bool :=
  if inR s.ver 1 2 && inR s.epoch 0 20 && isLog s.log && isLog s.learned && inR s.first 0 16 && decide (s.first + s.log.length ≤ 16) && inR s.commit 0 (s.first + s.log.length) then
    if s.conf = noConf then (s.first == 0) && (s.commit == 0) && ((s.log.length : Int) == 0)
    else if s.intact && decide (s.conf.epoch ≤ s.epoch) && decide (lastE s.log ≤ s.conf.epoch) then
      (if roleOf s.conf id = 1 ∨ roleOf s.conf id = 2 then s.first == 0 else if roleOf s.conf id = 3 then isTail s.first s.log else false)
    else false
  else false
def primNow (s : Srv) (id : Int) : Bool := validSrv s id && s.up && (roleOf s.conf id == 1) && (s.epoch == s.conf.epoch)
def sealS (s : Srv) (e : Int) : Srv × Bool := if inR e 1 20 && decide (0 ≤ s.epoch) && decide (s.epoch < e) then (⟨s.up, s.intact, s.ver, e, s.conf, s.first, s.log, s.commit, s.learned⟩, true) else (s, false)
def hasNew (l : List LEnt) : Bool := l.any fun e => isNew e.op
def cutTail (l : List LEnt) : Int × List LEnt := if isLog l then (max 0 ((l.length : Int) - 3), l.drop (l.length - 3)) else (0, [])
def install (s : Srv) (c : Conf) (id : Int) (l : List LEnt) : Srv × Bool :=
  if roleOf c id = 0 ∨ isLog l = false ∨ inR s.ver 1 2 = false ∨ inR s.epoch 0 c.epoch = false ∨ c.epoch < lastE l ∨ (s.ver = 1 ∧ hasNew l = true) then (s, false)
  else if roleOf c id = 3 then (⟨s.up, true, s.ver, c.epoch, c, (cutTail l).1, (cutTail l).2, l.length, []⟩, true)
  else (⟨s.up, true, s.ver, c.epoch, c, 0, l, l.length, []⟩, true)
def comPart (s : Srv) : List LEnt := if s.first < 0 ∨ inR s.commit s.first (IntKind.i64.wrap (s.first + s.log.length)) = false then [] else s.log.take (s.commit - s.first).toNat
def joinTail (base : List LEnt) (first : Int) (t : List LEnt) : Option (List LEnt) :=
  if isLog base && isTail first t && decide (first ≤ base.length) then
    let both := min t.length (base.length - first.toNat)
    let out := base ++ t.drop both
    if (base.drop first.toNat).take both = t.take both ∧ isLog out = true then some out else none
  else none
def side (x : Int) : Bool := inR x 0 3
def areSides (l : List Int) : Bool := ((l.length : Int) == 5) && l.all side
def sameSide (l : List Int) (a b : Int) : Bool := areSides l && inR a 0 4 && inR b 0 4 && (at' l a.toNat == at' l b.toNat)
def moveSide (l : List Int) (id s : Int) : List Int × Bool := if areSides l && inR id 0 4 && inR s 0 3 then (l.set id.toNat s, true) else (l, false)
def srvsOK (c : Clu) (i : Nat) : List Srv → Bool
  | [] => true
  | s :: ss => validSrv s i && decide (s.epoch ≤ c.mast.confs.length) && decide (lastE s.learned ≤ c.mast.act) &&
    (decide (s.conf = noConf) || ((confAt c.mast s.conf.epoch).2 && decide ((confAt c.mast s.conf.epoch).1 = s.conf) && decide (s.conf.epoch ≤ c.mast.act))) && srvsOK c (i + 1) ss
def validClu (c : Clu) : Bool := inR c.now 0 999 && ((c.srvs.length : Int) == 5) && areSides c.sides && isML c.mast && isLease c.lse && arePlaces c.plcs && inR c.mup 0 3 && decide (c.lse.epoch ≤ c.mast.act) && srvsOK c 0 c.srvs
def srvAt (c : Clu) (id : Int) : Srv := at' c.srvs id.toNat
def hasSrv (c : Clu) (id : Int) : Bool := validClu c && inR id 0 4
def setSrv (c : Clu) (id : Int) (s : Srv) : Clu := ⟨c.now, c.srvs.set id.toNat s, c.sides, c.mast, c.mup, c.lse, c.plcs⟩
def whereGo (p : Int → Srv → Bool) (i : Nat) : List Srv → List Int
  | [] => []
  | s :: ss => if p i s then (i : Int) :: whereGo p (i + 1) ss else whereGo p (i + 1) ss
def hears (c : Clu) (id m : Int) : Bool := sameSide c.sides id m && (srvAt c m).up && ((srvAt c m).epoch == (srvAt c id).epoch) && decide ((srvAt c m).conf = (srvAt c id).conf) && decide ((srvAt c m).commit ≤ (srvAt c id).log.length)
def primAt (c : Clu) (id : Int) : Bool := hasSrv c id && primNow (srvAt c id) id
def groupFmt (c : Clu) (id : Int) : Int := if primAt c id then (membersOf (srvAt c id).conf).foldl (fun m x => min m (srvAt c x).ver) 2 else 0
def mastersWork (c : Clu) : Bool := decide (3 < 2 * c.mup)
def hasEpoch (c : Clu) (id o e : Int) : Bool := (srvAt c o).up && sameSide c.sides id o && ((srvAt c o).conf.epoch == e)
def sourcesFor (c : Clu) (id : Int) : List Int := if (lastAct c.mast).2 && hasSrv c id then (lastAct c.mast).1.reps.filter fun o => hasEpoch c id o (lastAct c.mast).1.epoch else []
def bestOf (c : Clu) (b : Int) : List Int → Int
  | [] => b
  | o :: os => bestOf c (if b < 0 ∨ (srvAt c b).log.length < (srvAt c o).log.length then o else b) os
def bestSource (c : Clu) (id : Int) : Int := bestOf c (-1) (sourcesFor c id)
def servingPrim (c : Clu) : Int :=
  let x := (lastAct c.mast).1
  if (lastAct c.mast).2 && primAt c x.primary && ((srvAt c x.primary).conf.epoch == x.epoch) && (membersOf x).all (fun id => hears c x.primary id) then x.primary else -1
def isServing (c : Clu) : Bool := servingPrim c != -1
end
end Go.Abs
set_option linter.unusedVariables false
set_option linter.unusedSimpArgs false
namespace Go.Abs
theorem isLog_len {l : List LEnt} (h : isLog l = true) : l.length ≤ 16 := by
  simp only [isLog, Bool.and_eq_true, decide_eq_true_eq] at h; omega
theorem confsGo_at : ∀ {cs : List Conf} {i : Nat}, confsGo i cs = true → ∀ {j : Nat}, j < cs.length → validConf (at' cs j) = true ∧ (at' cs j).epoch = (i : Int) + j + 1
  | [], i, _, j, h => by simp at h
  | c :: cs, i, h, 0, _ => by
    simp only [confsGo, Bool.and_eq_true, beq_iff_eq] at h
    exact ⟨h.1.1, by simpa [at'] using h.1.2⟩
  | c :: cs, i, h, j + 1, hj => by
    simp only [confsGo, Bool.and_eq_true, beq_iff_eq] at h
    have := confsGo_at h.2 (j := j) (by simpa using hj)
    refine ⟨this.1, ?_⟩
    have h2 := this.2
    simp only [at', List.getD_cons_succ] at h2 ⊢
    omega
theorem validConf_of {c : Conf} (h : validConf c = true) : 1 ≤ c.epoch ∧ c.epoch ≤ 20 ∧ areServers c.reps = true ∧ areServers c.wits = true ∧ c.primary ∈ c.reps ∧ common c.reps c.wits = [] := by
  simp only [validConf, Bool.and_eq_true, inR_iff, List.contains_iff_mem, beq_iff_eq] at h
  obtain ⟨⟨⟨⟨⟨h1, h2⟩, h3⟩, h4⟩, h5⟩, h6⟩ := h
  exact ⟨h1, h2, h3, h4, h5, List.eq_nil_of_length_eq_zero (by omega)⟩
theorem isML_of {m : MLog} (h : isML m = true) : m.confs.length ≤ 20 ∧ 0 ≤ m.act ∧ m.act ≤ m.confs.length := by
  simp only [isML, Bool.and_eq_true, inR_iff] at h
  refine ⟨?_, h.2⟩
  by_cases h0 : m.confs.length = 0
  · omega
  · have := confsGo_at h.1 (j := m.confs.length - 1) (by omega)
    have h3 := validConf_of this.1
    have h4 := this.2
    simp only [Int.natCast_zero] at h4
    omega
theorem validClu_of {c : Clu} (h : validClu c = true) : 0 ≤ c.now ∧ c.now ≤ 999 ∧ c.srvs.length = 5 ∧ areSides c.sides = true ∧ isML c.mast = true ∧ isLease c.lse = true ∧ arePlaces c.plcs = true ∧ 0 ≤ c.mup ∧ c.mup ≤ 3 ∧ c.lse.epoch ≤ c.mast.act ∧ srvsOK c 0 c.srvs = true := by
  simp only [validClu, Bool.and_eq_true, inR_iff, beq_iff_eq, decide_eq_true_eq] at h
  obtain ⟨⟨⟨⟨⟨⟨⟨⟨h1, h2⟩, h3⟩, h4⟩, h5⟩, h6⟩, h7⟩, h8⟩, h9⟩ := h
  exact ⟨h1.1, h1.2, by omega, h3, h4, h5, h6, h7.1, h7.2, h8, h9⟩
theorem areSides_len {l : List Int} (h : areSides l = true) : l.length = 5 := by
  simp only [areSides, Bool.and_eq_true, beq_iff_eq] at h
  omega
theorem arePlaces_len {l : List Plc} (h : arePlaces l = true) : l.length = 5 := by
  simp only [arePlaces, Bool.and_eq_true, beq_iff_eq] at h
  omega
theorem srvsOK_at {c : Clu} : ∀ {ss : List Srv} {i : Nat}, srvsOK c i ss = true → ∀ {j : Nat}, j < ss.length → validSrv (at' ss j) (((i + j : Nat)) : Int) = true ∧ (at' ss j).epoch ≤ c.mast.confs.length ∧ lastE (at' ss j).learned ≤ c.mast.act ∧
    ((at' ss j).conf = noConf ∨ ((confAt c.mast (at' ss j).conf.epoch).2 = true ∧ (confAt c.mast (at' ss j).conf.epoch).1 = (at' ss j).conf ∧ (at' ss j).conf.epoch ≤ c.mast.act))
  | [], i, _, j, h => by simp at h
  | s :: ss, i, h, 0, _ => by
    simp only [srvsOK, Bool.and_eq_true, Bool.or_eq_true, decide_eq_true_eq] at h
    obtain ⟨⟨⟨⟨h1, h2⟩, h3⟩, h4⟩, h5⟩ := h
    refine ⟨by simpa [at'] using h1, by simpa [at'] using h2, by simpa [at'] using h3, ?_⟩
    rcases h4 with h4 | h4
    · exact .inl (by simpa [at'] using h4)
    · exact .inr (by simpa [at'] using ⟨h4.1.1, h4.1.2, h4.2⟩)
  | s :: ss, i, h, j + 1, hj => by
    simp only [srvsOK, Bool.and_eq_true] at h
    have := srvsOK_at h.2 (j := j) (by simpa using hj)
    simp only [at', List.getD_cons_succ] at this ⊢
    rw [show i + (j + 1) = i + 1 + j by omega]
    exact this
end Go.Abs
set_option linter.unusedVariables false
set_option linter.unusedSimpArgs false
namespace Go.Abs
def InsI (d : List Int) (i j : Nat) : Prop := ∀ a b, a < b → b ≤ i → b ≠ j → at' d a ≤ at' d b
theorem InsI.done {d : List Int} {i j : Nat} (h : InsI d i j) (hj : j = 0 ∨ at' d (j - 1) ≤ at' d j) : ∀ a b, a < b → b ≤ i → at' d a ≤ at' d b := by
  intro a b hab hb
  by_cases hbj : b = j
  · subst hbj
    rcases hj with hj | hj
    · omega
    · by_cases haj : a = b - 1
      · rw [haj]; exact hj
      · have := h a (b - 1) (by omega) (by omega) (by omega)
        omega
  · exact h a b hab hb hbj
end Go.Abs
set_option linter.unusedVariables false
set_option linter.unusedSimpArgs false
namespace Go.Abs
def idxF {α : Type} (p : α → Bool) (i : Nat) : List α → Int
  | [] => -1
  | x :: xs => if p x then i else idxF p (i + 1) xs
theorem idxF_any {α : Type} (p : α → Bool) : ∀ (l : List α) (i : Nat), decide (0 ≤ idxF p i l) = l.any p
  | [], i => by simp [idxF]
  | x :: xs, i => by
    have := idxF_any p xs (i + 1)
    simp only [idxF, List.any_cons]
    by_cases h : p x = true <;> simp [h, this]
end Go.Abs
set_option linter.unusedVariables false
set_option linter.unusedSimpArgs false
namespace Go.Abs
noncomputable section
structure ConfB (c : Conf) : Prop where
  r : c.reps.length ≤ 1048576
  w : c.wits.length ≤ 1048576
structure SrvB (s : Srv) : Prop where
  conf : ConfB s.conf
  log : s.log.length ≤ 1048576
  learned : s.learned.length ≤ 1048576
structure MLB (m : MLog) : Prop where
  len : m.confs.length ≤ 1048576
  confs : ∀ c ∈ m.confs, ConfB c
structure CluB (c : Clu) : Prop where
  srvs : ∀ s ∈ c.srvs, SrvB s
  sl : c.srvs.length ≤ 1048576
  sd : c.sides.length ≤ 1048576
  m : MLB c.mast
  pl : c.plcs.length ≤ 1048576
theorem ConfB.no : ConfB noConf := ⟨Nat.zero_le _, Nat.zero_le _⟩
theorem at_or {α : Type} [Inhabited α] {p : α → Prop} {l : List α} (h : ∀ x ∈ l, p x) (h0 : p default) (i : Nat) : p (at' l i) := by
  by_cases hi : i < l.length
  · exact h _ (E.at_mem hi)
  · simp only [at', List.getD_eq_getElem?_getD, List.getElem?_eq_none (by omega : l.length ≤ i), Option.getD_none]; exact h0
theorem CluB.at {c : Clu} (h : CluB c) (i : Nat) : SrvB (at' c.srvs i) := at_or h.srvs ⟨⟨Nat.zero_le _, Nat.zero_le _⟩, Nat.zero_le _, Nat.zero_le _⟩ i
theorem MLB.get {m : MLog} (h : MLB m) (i : Nat) : ConfB (at' m.confs i) := at_or h.confs ⟨Nat.zero_le _, Nat.zero_le _⟩ i
theorem MLB.at {m : MLog} (h : MLB m) (e : Int) : ConfB (confAt m e).1 := by
  unfold confAt
  split
  · exact h.get _
  · exact ConfB.no
theorem MLB.hm {m : MLog} (h : MLB m) : ∀ c ∈ m.confs, c.reps.length ≤ 1048576 ∧ c.wits.length ≤ 1048576 := fun c hc => ⟨(h.confs c hc).r, (h.confs c hc).w⟩
theorem CluB.hs {c : Clu} (h : CluB c) : ∀ s ∈ c.srvs, (s.conf.reps.length ≤ 1048576 ∧ s.conf.wits.length ≤ 1048576) ∧ s.log.length ≤ 1048576 ∧ s.learned.length ≤ 1048576 := fun s hs => ⟨⟨(h.srvs s hs).conf.r, (h.srvs s hs).conf.w⟩, (h.srvs s hs).log, (h.srvs s hs).learned⟩
theorem CluB.set {c : Clu} (h : CluB c) {id : Int} {s : Srv} (hs : SrvB s) : CluB (setSrv c id s) := by
  refine ⟨fun x hx => ?_, by simpa [setSrv] using h.sl, h.sd, h.m, h.pl⟩
  rcases List.mem_or_eq_of_mem_set hx with hx | rfl
  · exact h.srvs x hx
  · exact hs
theorem cutTail_len (l : List LEnt) : (cutTail l).2.length ≤ l.length := by
  unfold cutTail
  split
  · simp
  · exact Nat.zero_le _
theorem SrvB.inst {s : Srv} {c : Conf} {id : Int} {l : List LEnt} (hs : SrvB s) (hc : ConfB c) (hl : l.length ≤ 1048576) : SrvB (install s c id l).1 := by
  unfold install
  split
  · exact hs
  · split
    · exact ⟨hc, Nat.le_trans (cutTail_len l) hl, Nat.zero_le _⟩
    · exact ⟨hc, hl, Nat.zero_le _⟩
def setLog (s : Srv) (l : List LEnt) : Srv := ⟨s.up, s.intact, s.ver, s.epoch, s.conf, s.first, l, s.commit, s.learned⟩
def setTail (s : Srv) (f : Int) (l : List LEnt) : Srv := ⟨s.up, s.intact, s.ver, s.epoch, s.conf, f, l, s.commit, s.learned⟩
def setCommit (s : Srv) (n : Int) : Srv := ⟨s.up, s.intact, s.ver, s.epoch, s.conf, s.first, s.log, n, s.learned⟩
def appendOn (c : Clu) (id : Int) (o : ROp) : Clu × Int :=
  if hasSrv c id && validOp o then
    if (srvAt c id).up then
      if primNow (srvAt c id) id then
        let l := (srvAt c id).log
        if 0 ≤ findOp l o.client o.seq then (c, if (at' l (findOp l o.client o.seq).toNat).op = o then 0 else 11)
        else if (applyOp (replay l).1 o).2.2 then
          if isNew o = true ∧ groupFmt c id < 2 then (c, 6) else if (l.length : Int) = 16 then (c, 5)
          else (setSrv c id (setLog (srvAt c id) (l ++ [⟨(srvAt c id).epoch, o⟩])), 0)
        else (c, 11)
      else (c, 3)
    else (c, 2)
  else (c, 1)
def pushTo (c : Clu) (id m : Int) : Clu × Bool :=
  if primAt c id = true ∧ roleOf (srvAt c id).conf m ≠ 0 ∧ hears c id m = true then
    (setSrv c m (if roleOf (srvAt c id).conf m = 3 then setTail (srvAt c m) (cutTail (srvAt c id).log).1 (cutTail (srvAt c id).log).2 else setLog (srvAt c m) (srvAt c id).log), true)
  else (c, false)
def pushAll (id : Int) : List Int → Clu × Bool → Clu × Bool
  | [], x => x
  | m :: ms, x => pushAll id ms ((pushTo x.1 id m).1, x.2 && (pushTo x.1 id m).2)
def commitAll (n : Int) : List Int → Clu → Clu
  | [], c => c
  | m :: ms, c => commitAll n ms (setSrv c m (setCommit (srvAt c m) n))
def commitP (c : Clu) (id : Int) : Clu × Bool :=
  if primAt c id then
    let ms := membersOf (srvAt c id).conf
    let x := pushAll id ms (c, true)
    if x.2 then (commitAll (srvAt c id).log.length ms x.1, true) else (x.1, false)
  else (c, false)
def rep0 (code : Int) : Rep := ⟨code, noRes, 0⟩
def clientOp (c : Clu) (id : Int) (o : ROp) : Clu × Rep :=
  let x := appendOn c id o
  if x.2 = 0 then
    let s := srvAt x.1 id
    let i := findOp s.log o.client o.seq
    if s.commit ≤ i then
      let y := commitP x.1 id
      if y.2 then (y.1, ⟨0, (resAt (srvAt y.1 id).log i).1, i⟩) else (y.1, rep0 4)
    else (x.1, ⟨0, (resAt s.log i).1, i⟩)
  else (x.1, rep0 x.2)
def retryGo (o : ROp) : List Int → Clu × Rep → Clu × Rep
  | [], x => x
  | id :: ids, x => if (clientOp x.1 id o).2.code = 0 then clientOp x.1 id o else retryGo o ids (clientOp x.1 id o)
def retryOp (c : Clu) (ids : List Int) (o : ROp) : Clu × Rep := retryGo o (ids.take 10) (c, rep0 1)
def isRep (s : Srv) (id : Int) : Bool := s.conf.reps.contains id
def comData (s : Srv) (id : Int) : List LEnt := if isRep s id = true ∧ s.learned.length < (comPart s).length then comPart s else s.learned
def witIn (c : Clu) (id : Int) (w : Srv) : Nat → List Srv → Option (List LEnt) → Option (List LEnt)
  | _, [], b => b
  | k, s :: ss, b => witIn c id w (k + 1) ss (if s.up = true ∧ sameSide c.sides id k = true then
      match joinTail (comData s k) w.first w.log with
      | some l => match b with
        | none => some l
        | some b => if b.length < l.length then some l else some b
      | none => b
    else b)
def witOut (c : Clu) (id e : Int) : List Int → Option (List LEnt) → Option (List LEnt)
  | [], b => b
  | w :: ws, b => witOut c id e ws (if hasEpoch c id w e then witIn c id (srvAt c w) 0 c.srvs b else b)
def witLog (c : Clu) (id : Int) : Option (List LEnt) := if (lastAct c.mast).2 && hasSrv c id then witOut c id (lastAct c.mast).1.epoch (lastAct c.mast).1.wits none else none
def srcLog (c : Clu) (id : Int) : Option (List LEnt) :=
  if hasSrv c id then
    if c.mast.act = 0 then some []
    else if 0 ≤ bestSource c id then some (srvAt c (bestSource c id)).log else witLog c id
  else none
def sealAll (o : Clu) (id e : Int) : List Int → Clu → Clu
  | [], c => c
  | m :: ms, c => sealAll o id e ms (if (srvAt o m).up = true ∧ sameSide o.sides id m = true then setSrv c m (sealS (srvAt o m) e).1 else c)
def usable (c : Clu) (id : Int) : Bool := (srvAt c id).up && (at' c.sides id.toNat == 0)
def instAll (x : Conf) (l : List LEnt) : List Int → Clu → Clu
  | [], c => c
  | m :: ms, c => instAll x l ms (setSrv c m (install (srvAt c m) x m l).1)
def costGo (c : Clu) (l : List LEnt) : List Int → Int → Int
  | [], n => n
  | id :: ids, n => costGo c l ids (n + (l.length - (if isRep (srvAt c id) id then max (comPre l (srvAt c id).learned) (comPre l (srvAt c id).log) else comPre l (srvAt c id).learned : Nat)))
def cost (c : Clu) (x : Conf) : Int := if validConf x then (match srcLog c x.primary with
  | some l => costGo c l x.reps 0
  | none => -1) else -1
def dataSrv (c : Clu) (id : Int) : Bool := hasSrv c id && isRep (srvAt c id) id
def better (l : List Plc) (racks : List Int) (a b : Int) : Bool :=
  let x := racks.contains (at' l a.toNat).rack
  let y := racks.contains (at' l b.toNat).rack
  if x = y then decide ((at' l a.toNat).load < (at' l b.toNat).load) else y
def spareGo (l : List Plc) (ms av racks : List Int) : List Int → Int → Int
  | [], b => b
  | id :: ids, b => spareGo l ms av racks ids (if hasRoom l id && !ms.contains id && !av.contains id && (decide (b < 0) || better l racks id b) then id else b)
def spare (l : List Plc) (ms av : List Int) : Int := if areServers ms then spareGo l ms av (racksOf l ms) [0, 1, 2, 3, 4] (-1) else -1
def planGo (l : List Plc) (av : List Int) (want : Int) : Nat → List Int → List Int
  | 0, out => out
  | n + 1, out => if (out.length : Int) < want then (if spare l out av < 0 then out else planGo l av want n (putI out (spare l out av))) else out
def plan (l : List Plc) (ms alive : List Int) (want : Int) : List Int :=
  if arePlaces l && areServers ms && areServers alive && inR want 0 5 then planGo l (without [0, 1, 2, 3, 4] alive) want 6 (common ms alive) else []
def aliveS (c : Clu) : List Int := whereGo (fun i s => usable c i) 0 c.srvs
def nextC (c : Clu) (want wits : Int) : Conf × Bool :=
  if validClu c && inR want 1 3 && inR wits 0 1 && decide ((c.mast.confs.length : Int) < 20) then
    let al := aliveS c
    let old := (lastAct c.mast).1
    let kept := old.reps.filter fun id => usable c id && ((srvAt c id).conf.epoch == old.epoch)
    let r := plan c.plcs kept al want
    if r.length = 0 then (noConf, false)
    else
      let sp := spare c.plcs r (without [0, 1, 2, 3, 4] al)
      (⟨c.mast.confs.length + 1, if 0 < old.epoch ∧ r.contains old.primary = true then old.primary else at' r 0, r, if wits = 1 ∧ 0 ≤ sp then [sp] else []⟩, true)
  else (noConf, false)
end
end Go.Abs
set_option linter.unusedVariables false
set_option linter.unusedSimpArgs false
namespace Go.Abs
theorem validSrv_of {s : Srv} {id : Int} (h : validSrv s id = true) : 1 ≤ s.ver ∧ s.ver ≤ 2 ∧ 0 ≤ s.epoch ∧ s.epoch ≤ 20 ∧ isLog s.log = true ∧ isLog s.learned = true ∧ 0 ≤ s.first ∧ s.first + s.log.length ≤ 16 ∧ 0 ≤ s.commit ∧ s.commit ≤ s.first + s.log.length := by
  unfold validSrv at h
  split at h
  · rename_i h1
    simp only [Bool.and_eq_true, inR_iff, decide_eq_true_eq] at h1
    obtain ⟨⟨⟨⟨⟨⟨h1, h2⟩, h3⟩, h4⟩, h5⟩, h6⟩, h7⟩ := h1
    exact ⟨h1.1, h1.2, h2.1, h2.2, h3, h4, h5.1, h6, h7.1, h7.2⟩
  · simp at h
theorem validSrv_conf {s : Srv} {id : Int} (h : validSrv s id = true) (hc : s.conf ≠ noConf) : validConf s.conf = true ∧ roleOf s.conf id ≠ 0 ∧ s.intact = true ∧ s.conf.epoch ≤ s.epoch ∧ lastE s.log ≤ s.conf.epoch ∧ (roleOf s.conf id = 1 ∨ roleOf s.conf id = 2 → s.first = 0) := by
  unfold validSrv at h
  split at h
  · split at h
    · rename_i h2
      simp only [Bool.and_eq_true, decide_eq_true_eq] at h2
      have hr : roleOf s.conf id ≠ 0 := by
        intro e; rw [e] at h; simp at h
      refine ⟨?_, hr, h2.1.1, h2.1.2, h2.2, fun h3 => ?_⟩
      · unfold roleOf at hr
        split at hr
        · assumption
        · simp at hr
      · rw [if_pos h3] at h; simpa using h
    · simp at h
  · simp at h
theorem hasSrv_of {c : Clu} {id : Int} (h : hasSrv c id = true) : validClu c = true ∧ c.srvs.length = 5 ∧ 0 ≤ id ∧ id ≤ 4 ∧ c.sides.length = 5 ∧ c.mast.confs.length ≤ 20 ∧ c.plcs.length = 5 := by
  simp only [hasSrv, Bool.and_eq_true, inR_iff] at h
  have q := validClu_of h.1
  exact ⟨h.1, q.2.2.1, h.2.1, h.2.2, areSides_len q.2.2.2.1, (isML_of q.2.2.2.2.1).1, arePlaces_len q.2.2.2.2.2.2.1⟩
theorem role_valid {c : Conf} {id : Int} (h : roleOf c id ≠ 0) : validConf c = true := by
  unfold roleOf at h
  split at h
  · assumption
  · simp at h
theorem members_mem {c : Conf} {id : Int} : id ∈ membersOf c ↔ roleOf c id ≠ 0 := by
  unfold membersOf roleOf
  by_cases h : validConf c = true
  · have q := validConf_of h
    simp only [if_pos h, mem_unite]
    by_cases h1 : id = c.primary
    · simp [h1, q.2.2.2.2.1]
    · by_cases h2 : id ∈ c.reps
      · simp [h1, h2]
      · by_cases h3 : id ∈ c.wits <;> simp [h1, h2, h3]
  · simp [h]
theorem members_in {c : Conf} {id : Int} (h : id ∈ membersOf c) : 0 ≤ id ∧ id ≤ 4 := by
  have hv := role_valid (members_mem.1 h)
  have q := validConf_of hv
  unfold membersOf at h
  rw [if_pos hv, mem_unite] at h
  rcases h with h | h
  · exact (areServers_of q.2.2.1).2 id h
  · exact (areServers_of q.2.2.2.1).2 id h
theorem role_in {c : Conf} {id : Int} (h : roleOf c id ≠ 0) : 0 ≤ id ∧ id ≤ 4 := members_in (members_mem.2 h)
theorem primNow_of {s : Srv} {id : Int} (h : primNow s id = true) : validSrv s id = true ∧ s.up = true ∧ roleOf s.conf id = 1 ∧ s.epoch = s.conf.epoch := by
  simpa [primNow, and_assoc] using h
theorem primAt_of {c : Clu} {id : Int} (h : primAt c id = true) : hasSrv c id = true ∧ primNow (at' c.srvs id.toNat) id = true := by
  simpa [primAt, srvAt] using h
theorem primAt_log {c : Clu} {id : Int} (h : primAt c id = true) : (at' c.srvs id.toNat).log.length ≤ 16 ∧ (at' c.srvs id.toNat).first = 0 ∧ 0 ≤ (at' c.srvs id.toNat).commit ∧ (at' c.srvs id.toNat).commit ≤ (at' c.srvs id.toNat).log.length ∧ validConf (at' c.srvs id.toNat).conf = true ∧ isLog (at' c.srvs id.toNat).log = true ∧ 0 ≤ id ∧ id ≤ 4 ∧ c.srvs.length = 5 ∧ c.sides.length = 5 := by
  have q := primAt_of h
  have q0 := hasSrv_of q.1
  have q1 := primNow_of q.2
  have q2 := validSrv_of q1.1
  have e := isLog_len q2.2.2.2.2.1
  have q3 := q1.2.2.1
  have hv := role_valid (c := (at' c.srvs id.toNat).conf) (id := id) (by omega)
  have hne : (at' c.srvs id.toNat).conf ≠ noConf := by
    intro hE; rw [hE] at hv
    have := validConf_of hv
    simp [noConf] at this
  have q4 := (validSrv_conf q1.1 hne).2.2.2.2.2 (.inl q3)
  exact ⟨e, q4, q2.2.2.2.2.2.2.2.2.1, by have := q2.2.2.2.2.2.2.2.2.2; omega, hv, q2.2.2.2.2.1, q0.2.2.1, q0.2.2.2.1, q0.2.1, q0.2.2.2.2.1⟩
end Go.Abs
set_option linter.unusedVariables false
set_option linter.unusedSimpArgs false
namespace Go.Abs
noncomputable section
def msGo (i : Nat) : List Int → List Int
  | [] => []
  | x :: xs => if x = 0 then (i : Int) :: msGo (i + 1) xs else msGo (i + 1) xs
def masterSide (l : List Int) : List Int := if areSides l then msGo 0 l else []
theorem msGo_mem : ∀ {l : List Int} {i : Nat} {x : Int}, x ∈ msGo i l ↔ ∃ k, k < l.length ∧ at' l k = 0 ∧ x = (i + k : Nat)
  | [], i, x => by simp [msGo]
  | y :: l, i, x => by
    simp only [msGo]
    constructor
    · intro h
      split at h
      · rcases List.mem_cons.1 h with rfl | h
        · exact ⟨0, by simp, by simpa [at'], by simp⟩
        · obtain ⟨k, h1, h2, h3⟩ := msGo_mem.1 h; exact ⟨k + 1, by simpa using h1, by simpa [at'] using h2, by omega⟩
      · obtain ⟨k, h1, h2, h3⟩ := msGo_mem.1 h; exact ⟨k + 1, by simpa using h1, by simpa [at'] using h2, by omega⟩
    · rintro ⟨k, h1, h2, h3⟩
      cases k with
      | zero => simp only [at', List.getD_cons_zero] at h2; rw [if_pos h2]; simp [h3]
      | succ k =>
        have : x ∈ msGo (i + 1) l := msGo_mem.2 ⟨k, by simpa using h1, by simpa [at'] using h2, by omega⟩
        split
        · exact List.mem_cons_of_mem _ this
        · exact this
end
end Go.Abs
set_option linter.unusedVariables false
set_option linter.unusedSimpArgs false
namespace Go.Abs
noncomputable section
def heldI : List Int → Int → Int
  | [], k => k
  | x :: xs, k => if x = k then heldI xs (k + 1) else -1
def entK (k : Int) : LEnt := ⟨k, ⟨k + 1, k + 1 + 1, k + 1 + 1 + 1, k + 1 + 1 + 1 + 1, k + 1 + 1 + 1 + 1 + 1, k + 1 + 1 + 1 + 1 + 1 + 1⟩⟩
def heldE : List LEnt → Int → Int
  | [], k => k
  | x :: xs, k => if x = entK k then heldE xs (k + 7) else -1
def b3 (k : Int) : Bool := Int.tmod k 3 == 0
def hR1 (s : Srv) (k : Int) : Int := heldI s.conf.reps (k + 1 + 1 + 1 + 1 + 1 + 1)
def hW1 (s : Srv) (k : Int) : Int := heldI s.conf.wits (hR1 s k)
def hL1 (s : Srv) (k : Int) : Int := heldE s.log (hW1 s k + 1)
def hG1 (s : Srv) (k : Int) : Int := heldE s.learned (hL1 s k + 1)
def SOK (s : Srv) (k : Int) : Prop := s.up = b3 k ∧ s.intact = b3 (k + 1) ∧ s.ver = k + 1 + 1 ∧ s.epoch = k + 1 + 1 + 1 ∧ s.conf.epoch = k + 1 + 1 + 1 + 1 ∧ s.conf.primary = k + 1 + 1 + 1 + 1 + 1 ∧ 0 ≤ hR1 s k ∧ 0 ≤ hW1 s k ∧ s.first = hW1 s k ∧ 0 ≤ hL1 s k ∧ s.commit = hL1 s k ∧ 0 ≤ hG1 s k
instance (s : Srv) (k : Int) : Decidable (SOK s k) := by unfold SOK; infer_instance
end
end Go.Abs
set_option linter.unusedVariables false
set_option linter.unusedSimpArgs false
namespace Go.Abs
end Go.Abs
namespace Go.Abs
end Go.Abs
set_option linter.unusedVariables false
set_option linter.unusedSimpArgs false
namespace Go.Abs
theorem comPre_len : ∀ a b : List LEnt, comPre a b ≤ a.length ∧ comPre a b ≤ b.length
  | [], _ => by simp [comPre]
  | _ :: _, [] => by simp [comPre]
  | x :: xs, y :: ys => by
    have := comPre_len xs ys
    simp only [comPre]
    split <;> simp <;> omega
end Go.Abs
set_option linter.unusedVariables false
set_option linter.unusedSimpArgs false
namespace Go.Abs
noncomputable section
theorem at_set_ne {α : Type} [Inhabited α] {l : List α} {i j : Nat} {x : α} (h : i ≠ j) : at' (l.set i x) j = at' l j := by
  simp only [at', List.getD_eq_getElem?_getD, List.getElem?_set_ne h]
end
end Go.Abs
set_option linter.unusedVariables false
set_option linter.unusedSimpArgs false
namespace Go.Abs
noncomputable section
theorem setSrv_B {c : Clu} {id : Int} {s : Srv} (h : CluB c) (hs : SrvB s) : CluB (setSrv c id s) := by
  refine ⟨fun x hx => ?_, ?_, h.sd, h.m, h.pl⟩
  · rcases List.mem_or_eq_of_mem_set hx with hx | rfl
    · exact h.srvs x hx
    · exact hs
  · have : (setSrv c id s).srvs.length = c.srvs.length := by simp [setSrv]
    rw [this]; exact h.sl
theorem moveSide_len2 (l : List Int) (id s : Int) : (moveSide l id s).1.length ≤ l.length := by
  unfold moveSide; split <;> simp
end
end Go.Abs
