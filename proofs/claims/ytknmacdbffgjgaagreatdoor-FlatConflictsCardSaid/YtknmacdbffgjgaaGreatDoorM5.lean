/-
  A row that a slice owns,opened and shut. Generic: nothing of the program is named here. No condition.
-/
import Derived.Test.YtknmacdbffgjgaaGreatDoorM4
import Derived.ProofKit
import Derived.OpenShut
import Derived.Test.YtknmacdbffgjgaaGreatDoorRows
set_option linter.unusedVariables false
set_option linter.unusedSimpArgs false
set_option maxRecDepth 100000
set_option maxHeartbeats 16000000
namespace Go.Ck
open Go
section
variable {P:Program} {e:Env} {h:SH} {ty:TypeId}
end
section
variable {c:Cx} {ops:Array Oper} {K:Act→World→Prop} {rest:List Oper} {e:Env} {h h' hr:SH}
theorem sV {d:Nat} {op:Op} {ty:TypeId} {pos:String} {after:Array Edge} {v:Value} (hv:Vop c.P e h op ty v) (hn:St c ops K rest ((d,v)::e) h) (hd:d<c.n:=by exact ltn rfl) :
  St c ops K (⟨some d,op,ty,pos,after,none⟩::rest) e h:=G6 hv hd hn
theorem sG {d g gd:Nat} {op:Op} {ty:TypeId} {pos:String} {after:Array Edge} {v:Value} {want:Bool} (hg:((ops[g]?).bind (·.dst))=some gd) (hgv:e.get? gd=some (.bool want))
  (hv:Vop c.P e h op ty v) (hn:St c ops K rest ((d,v)::e) h) (hd:d<c.n:=by exact ltn rfl):St c ops K (⟨some d,op,ty,pos,after,some (g,want)⟩::rest) e h:=st_valg hg hgv hv hd hn
theorem aC {d g gd:Nat} {op:Op} {ty:TypeId} {pos:String} {after:Array Edge} {want b:Bool} (hg:((ops[g]?).bind (·.dst))=some gd) (hgv:e.get? gd=some (.bool b)) (hb:b = !want)
  (hn:St c ops K rest ((d,undef)::e) h) (hd:d<c.n:=by exact ltn rfl):St c ops K (⟨some d,op,ty,pos,after,some (g,want)⟩::rest) e h:=st_skip hg hgv hb hd hn
theorem aH {d:Nat} {f:Operand} {az:Array Operand} {ts:Array TypeId} {ty:TypeId} {pos:String} {after:Array Edge} {k:FuncId} {fi cp:Array Value} {vs:List Value} {args:Array Value} {hf:SH} {R:Value→SH→Prop}
  (hv:e.ev? f=some (.func (.func k) fi cp)) (has:az.toList.mapM e.ev? = some vs) (hE:Enters c.P k) (ha:fi++vs.toArray++cp=args) (ct:Ct c.P k args hf R)
  (hn:∀ v h',R v h'→St c ops K rest ((d,v)::e) (h'++hr)) (pk:Pk h hf hr:=by repeat (first | exact Pk.nil | (apply Pk.cons; (repeat (first | exact Sel.here | apply Sel.there))))) (hd:d<c.n:=by exact ltn rfl) :
  St c ops K (⟨some d,.call { callee:=.value f,args:=az,argTypes:=ts },ty,pos,after,none⟩::rest) e h:=st_call hv has hE ha ct pk hd hn
theorem bg {d:Nat} {f:Operand} {az:Array Operand} {ts:Array TypeId} {ty:TypeId} {pos:String} {after:Array Edge} {k:FuncId} {fi cp:Array Value} {vs:List Value} {args:Array Value} {hf:SH} {v:Value}
  (hv:e.ev? f=some (.func (.func k) fi cp)) (has:az.toList.mapM e.ev? = some vs) (hE:Enters c.P k) (ha:fi++vs.toArray++cp=args) (ct:Reads c.P k args hf v)
  (hn:St c ops K rest ((d,v)::e) h) (pk:Pk h hf hr:=by repeat (first | exact Pk.nil | (apply Pk.cons; (repeat (first | exact Sel.here | apply Sel.there))))) (hd:d<c.n:=by exact ltn rfl) :
  St c ops K (⟨some d,.call { callee:=.value f,args:=az,argTypes:=ts },ty,pos,after,none⟩::rest) e h:=Mw hv has hE ha ct pk hd hn
theorem bR {d g gd:Nat} {f:Operand} {az:Array Operand} {ts:Array TypeId} {ty:TypeId} {pos:String} {after:Array Edge} {k:FuncId} {fi cp:Array Value} {vs:List Value} {args:Array Value} {hf:SH} {v:Value} {want:Bool}
  (hg:((ops[g]?).bind (·.dst))=some gd) (hgv:e.get? gd=some (.bool want))
  (hv:e.ev? f=some (.func (.func k) fi cp)) (has:az.toList.mapM e.ev? = some vs) (hE:Enters c.P k) (ha:fi++vs.toArray++cp=args) (ct:Reads c.P k args hf v)
  (hn:St c ops K rest ((d,v)::e) h) (pk:Pk h hf hr:=by repeat (first | exact Pk.nil | (apply Pk.cons; (repeat (first | exact Sel.here | apply Sel.there))))) (hd:d<c.n:=by exact ltn rfl) :
  St c ops K (⟨some d,.call { callee:=.value f,args:=az,argTypes:=ts },ty,pos,after,some (g,want)⟩::rest) e h:=Ky hg hgv hv has hE ha ct pk hd hn
theorem aX {T E:TypeId} {x y:Operand} {ty:TypeId} {pos:String} {after:Array Edge} {b off:Nat} {l l':List Value} {v:Value} {k:SH}
  (hx:e.ev? x=some (.pointer (some ⟨b,off,none⟩))) (hy:e.ev? y=some v) (hT:Sz c.P T 1) (hn:St c ops K rest e (pt b (cl l' E)::k))
  (hv:v.oneCell'=true:=by first | rfl | assumption) (hs:Sel h (pt b (cl l E)) k:=by repeat (first | exact Sel.here | apply Sel.there)) (ho:off<l.length:=by first | exact ltn rfl | assumption | (simp only [List.length_append,EK,Dm]; omega) | omega) (hl:SetAt l off v l':=by first | (repeat (first | exact SetAt.zero | apply SetAt.succ)); done | exact SetAt.set) :
  St c ops K (⟨none,.store T x y,ty,pos,after,none⟩::rest) e h:=Mx hx hy hT hv hs ho hl hn
theorem ai {T E:TypeId} {x y:Operand} {ty:TypeId} {pos:String} {after:Array Edge} {b n:Nat} {l vs:List Value} {k:SH}
  (hx:e.ev? x=some (.pointer (some ⟨b,0,none⟩))) (hy:e.ev? y=some (.agg vs.toArray)) (hT:Sz c.P T n) (hn:vs.length=n) (h1:vs.all Value.oneCell'=true)
  (hnx:St c ops K rest e (pt b (cl vs E)::k)) (hs:Sel h (pt b (cl l E)) k:=by repeat (first | exact Sel.here | apply Sel.there)) (hl:l.length=vs.length:=by exact rfl) :
  St c ops K (⟨none,.store T x y,ty,pos,after,none⟩::rest) e h:=Kz hx hy hT hn (ones h1) hs hl hnx
theorem au {d:Nat} {T ty:TypeId} {pos:String} {after:Array Edge} {zs:List Value} (hA:Al c.P T zs)
  (hn:∀ b,St c ops K rest ((d,.pointer (some ⟨b,0,none⟩))::e) (pt b (cl zs T)::h)) (hd:d<c.n:=by exact ltn rfl):St c ops K (⟨some d,.alloc T,ty,pos,after,none⟩::rest) e h:=MB hA hd hn
theorem aV {d:Nat} {T ty:TypeId} {x:Operand} {pos:String} {after:Array Edge} {v:Value} {zs:List Value} (hx:e.ev? x=some v) (hz:v.cells=zs.toArray)
  (hn:∀ b,St c ops K rest ((d,.pointer (some ⟨b,0,none⟩))::e) (pt b (cl zs T)::h)) (hd:d<c.n:=by exact ltn rfl):St c ops K (⟨some d,.box T x,ty,pos,after,none⟩::rest) e h:=st_box hx hz hd hn

/-! In a region that draws its order. -/
variable {pre:Nat→Bool} {hC:SH} {t:Ord}
theorem bu {i d:Nat} {op:Op} {ty:TypeId} {pos:String} {after:Array Edge} {v:Value} (hi:ops[i]? = some ⟨some d,op,ty,pos,after,none⟩) (hv:Vop c.P e hC op ty v)
  (hn:DrL c ops pre hC K t ((d,v)::e) h) (hs:Sub hC h:=by repeat (first | exact Sub.refl _ | exact Sub.nil _ | refine Sub.sel slq ?_ | apply Sub.cons)) (hd:d<c.n:=by exact ltn rfl):DrL c ops pre hC K (.cons (i,true) t) e h:=dr_val hi hs hv hd hn
theorem pF {i d g gd:Nat} {op:Op} {ty:TypeId} {pos:String} {after:Array Edge} {v:Value} {want:Bool} (hi:ops[i]? = some ⟨some d,op,ty,pos,after,some (g,want)⟩) (hg:((ops[g]?).bind (·.dst))=some gd) (hgv:e.get? gd=some (.bool want))
  (hv:Vop c.P e hC op ty v) (hn:DrL c ops pre hC K t ((d,v)::e) h) (hs:Sub hC h:=by repeat (first | exact Sub.refl _ | exact Sub.nil _ | refine Sub.sel slq ?_ | apply Sub.cons)) (hd:d<c.n:=by exact ltn rfl):DrL c ops pre hC K (.cons (i,true) t) e h:=dr_valg hi hg hgv hs hv hd hn
theorem nz {i d g gd:Nat} {op:Op} {ty:TypeId} {pos:String} {after:Array Edge} {want b:Bool} (hi:ops[i]? = some ⟨some d,op,ty,pos,after,some (g,want)⟩) (hg:((ops[g]?).bind (·.dst))=some gd) (hgv:e.get? gd=some (.bool b)) (hb:b = !want)
  (hn:DrL c ops pre hC K t ((d,undef)::e) h) (hs:Sub hC h:=by repeat (first | exact Sub.refl _ | exact Sub.nil _ | refine Sub.sel slq ?_ | apply Sub.cons)) (hd:d<c.n:=by exact ltn rfl):DrL c ops pre hC K (.cons (i,true) t) e h:=dr_skip hi hg hgv hb hs hd hn
theorem dV {i d:Nat} {op:Op} {ty:TypeId} {pos:String} {after:Array Edge} {v:Value} (hi:ops[i]? = some ⟨some d,op,ty,pos,after,none⟩) (hv:Vop c.P e [] op ty v)
  (hn:DrL c ops pre hC K t ((d,v)::e) h) (hd:d<c.n:=by exact ltn rfl):DrL c ops pre hC K (.pure i t) e h:=drp_val hi hv hd hn
theorem jf {i d g gd:Nat} {op:Op} {ty:TypeId} {pos:String} {after:Array Edge} {v:Value} {want:Bool} (hi:ops[i]? = some ⟨some d,op,ty,pos,after,some (g,want)⟩) (hg:((ops[g]?).bind (·.dst))=some gd) (hgv:e.get? gd=some (.bool want))
  (hv:Vop c.P e [] op ty v) (hn:DrL c ops pre hC K t ((d,v)::e) h) (hd:d<c.n:=by exact ltn rfl):DrL c ops pre hC K (.pure i t) e h:=MG hi hg hgv hv hd hn
theorem ku {i d g gd:Nat} {op:Op} {ty:TypeId} {pos:String} {after:Array Edge} {want b:Bool} (hi:ops[i]? = some ⟨some d,op,ty,pos,after,some (g,want)⟩) (hg:((ops[g]?).bind (·.dst))=some gd) (hgv:e.get? gd=some (.bool b)) (hb:b = !want)
  (hn:DrL c ops pre hC K t ((d,undef)::e) h) (hd:d<c.n:=by exact ltn rfl):DrL c ops pre hC K (.pure i t) e h:=MH hi hg hgv hb hd hn
theorem kZ {i d:Nat} {f:Operand} {az:Array Operand} {ts:Array TypeId} {ty:TypeId} {pos:String} {after:Array Edge} {k:FuncId} {fi cp:Array Value} {vs:List Value} {args:Array Value} {hf hr:SH} {v:Value}
  (hi:ops[i]? = some ⟨some d,.call { callee:=.value f,args:=az,argTypes:=ts },ty,pos,after,none⟩)
  (hv:e.ev? f=some (.func (.func k) fi cp)) (has:az.toList.mapM e.ev? = some vs) (hE:Enters c.P k) (ha:fi++vs.toArray++cp=args) (ct:Reads c.P k args hf v)
  (hn:DrL c ops pre hC K t ((d,v)::e) h) (hs:Sub hC h:=by repeat (first | exact Sub.refl _ | exact Sub.nil _ | refine Sub.sel slq ?_ | apply Sub.cons)) (pk:Pk hC hf hr:=by repeat (first | exact Pk.nil | (apply Pk.cons; (repeat (first | exact Sel.here | apply Sel.there))))) (hd:d<c.n:=by exact ltn rfl):DrL c ops pre hC K (.cons (i,true) t) e h:=dr_call hi hs hv has hE ha ct pk hd hn
theorem y8 {i d g gd:Nat} {f:Operand} {az:Array Operand} {ts:Array TypeId} {ty:TypeId} {pos:String} {after:Array Edge} {k:FuncId} {fi cp:Array Value} {vs:List Value} {args:Array Value} {hf hr:SH} {v:Value} {want:Bool}
  (hi:ops[i]? = some ⟨some d,.call { callee:=.value f,args:=az,argTypes:=ts },ty,pos,after,some (g,want)⟩) (hg:((ops[g]?).bind (·.dst))=some gd) (hgv:e.get? gd=some (.bool want))
  (hv:e.ev? f=some (.func (.func k) fi cp)) (has:az.toList.mapM e.ev? = some vs) (hE:Enters c.P k) (ha:fi++vs.toArray++cp=args) (ct:Reads c.P k args hf v)
  (hn:DrL c ops pre hC K t ((d,v)::e) h) (hs:Sub hC h:=by repeat (first | exact Sub.refl _ | exact Sub.nil _ | refine Sub.sel slq ?_ | apply Sub.cons)) (pk:Pk hC hf hr:=by repeat (first | exact Pk.nil | (apply Pk.cons; (repeat (first | exact Sel.here | apply Sel.there))))) (hd:d<c.n:=by exact ltn rfl):DrL c ops pre hC K (.cons (i,true) t) e h:=MI hi hg hgv hs hv has hE ha ct pk hd hn
theorem aW {i:Nat} {h0:SH} (hn:DrL c ops pre hC K t e h) (hs:pre i=true→Sub hC h0→Sub hC h:=by first | (intro hq; cases hq; done) | (intro _ hs; exact hs) | (intro _ hs; refine Sub.trans hs ?_; (repeat (first | exact Sub.refl _ | exact Sub.nil _ | refine Sub.sel slq ?_ | apply Sub.cons)); done) | (intro _ _; (repeat (first | exact Sub.refl _ | exact Sub.nil _ | refine Sub.sel slq ?_ | apply Sub.cons)); done)):St c ops (EffK c ops pre hC K i t h0) [] e h:=MJ hs hn
/-! Remembered slots. -/
def kept (e:Env):List Nat→Option Env
 | []=>some []
 | k::ks=>match e.get? k with
  | some v=>(kept e ks).map ((k,v) :: ·)
  | none=>none
theorem EM {e : Env} : ∀ {ks : List Nat} {e' : Env}, kept e ks = some e' → Env.sub e' e
 | [],e',h=>by simp only [kept,Option.some.injEq] at h; subst h; trivial
 | k::ks,e',h=>by
  simp only [kept] at h
  cases hg:e.get? k with
  | none=>rw [hg] at h; cases h
  | some v =>
   rw [hg] at h
   simp only [Option.map_eq_some_iff] at h
   obtain ⟨t,h1,rfl⟩:=h
   exact ⟨hg,EM h1⟩
theorem nK9 (ks:List Nat) {e':Env} (hk:kept e ks=some e') (hn:Nx c K e' h):Nx c K e h:=hn.weaken (EM hk)
variable {Q:Exit→Act→World→Prop}
end
section
variable {P:Program} {n:Nat} {w0:World} {fn:Func} {e:Env} {h hr h':SH} {R:Value→SH→Prop} {r:Option Nat} {vs:List Value}
theorem aj (hv:e.res? fn.results.toList=some vs) (hR:R (kr vs) h') (hp:Sub (h'++hr) h:=by first | (rw [List.nil_append]; (repeat (first | exact Sub.refl _ | apply Sub.cons)); done) | (repeat (first | exact Sub.refl _ | exact Sub.nil _ | refine Sub.sel slq ?_ | apply Sub.cons))):Xt ⟨P,r,n,[],w0⟩ .ret (bodyPost P fn (Post w0 hr R)) e h:=xt_ret hv hR hp
theorem zR (hv:e.res? fn.results.toList=some vs) (hR:R (kr vs) h') (hp:Sub (h'++hr) h:=by first | (rw [List.nil_append]; (repeat (first | exact Sub.refl _ | apply Sub.cons)); done) | (repeat (first | exact Sub.refl _ | exact Sub.nil _ | refine Sub.sel slq ?_ | apply Sub.cons))):Xt ⟨P,r,n,[],w0⟩ .normal (bodyPost P fn (Post w0 hr R)) e h:=xt_end hv hR hp
end
theorem Z {α : Sort _} {a : α}:a=a:=Eq.refl a
theorem lC {α : Type _} {a : α} {az bs:List α}:(a::az)++bs=a::(az++bs):=rfl
theorem lN {α : Type _} {az:List α}:([]:List α)++az=az:=rfl
theorem uG {e e':Env} {d:Nat} {u v:Value} (hv:u=v:=by first | rfl | (rw [hg]; rfl) | simp_all) (h:zN e e':=by repeat (first | exact uR | refine uS rfl ?_)):zN ((d,u)::e) ((d,v)::e'):=uH hv h
section
variable {c:Cx} {ops:Array Oper} {K:Act→World→Prop} {rest:List Oper} {e:Env} {h:SH} {Q:Exit→Act→World→Prop}
theorem sM {d:Nat} {x:Operand} {ty:TypeId} {pos:String} {after:Array Edge} {v:Value} (hv:e.ev? x=some v) (hn:St c ops K rest ((d,v)::e) h) (hd:d<c.n:=by exact ltn rfl):St c ops K (⟨some d,.move x,ty,pos,after,none⟩::rest) e h:=sV (vM hv) hn hd
theorem sA {d:Nat} {x:Operand} {ty:TypeId} {pos:String} {after:Array Edge} {v:Value} (hv:e.ev? x=some v) (hn:St c ops K rest ((d,v)::e) h) (hd:d<c.n:=by exact ltn rfl):St c ops K (⟨some d,.assign x,ty,pos,after,none⟩::rest) e h:=sV (vA9 hv) hn hd
theorem sK (ks:List Nat) {e':Env} {y:Code} (hk:kept e ks=some e') (hy:Cd c y Q e' h):St c ops (Exit.then (Behind c y Q) Q .normal) [] e h:=sN (nK9 ks hk (nT hy))
theorem cQ {id:Nat} {l:List Oper} {y:Code} (hs:St c l.toArray (Exit.then (Behind c y Q) Q .normal) l e h):Cd c (.seq (.region id l.toArray false) y) Q e h:=cS (cR hs)
end
def fbody (f:Func):Code:=f.body.getD .skip
def cdl:Code→Code
 | .seq a _=>a
 | .block _ x=>x
 | .loop x=>x
 | .scope x=>x
 | .cond _ a _=>a
 | c=>c
def cdr:Code→Code
 | .seq _ b=>b
 | .cond _ _ b=>b
 | c=>c
section
variable {c:Cx} {Q:Exit→Act→World→Prop} {e e':Env} {h h':SH} {ex:Exit} {x:Code}
end

/-! ## A guard that has no value: skipped -/
section
variable {c:Cx} {ops:Array Oper} {K:Act→World→Prop} {rest:List Oper} {e:Env} {h hC:SH} {pre:Nat→Bool} {t:Ord}
theorem Dw {g gd:Nat} (hg:((ops[g]?).bind (·.dst))=some gd) (hgv:e.get? gd=some undef) {n:Nat} {ds:List Deferred} {a:Act} (hk:Kn n ds a e):yielded ops a.tmps g=none:=by
 unfold yielded
 cases ho:ops[g]? with
 | none=>simp [ho] at hg
 | some o=>simp only [ho,Option.bind_some] at hg; simp [hg,hk.get gd _ hgv,undef]
theorem bX {d g gd:Nat} {op:Op} {ty:TypeId} {pos:String} {after:Array Edge} {want:Bool} (hg:((ops[g]?).bind (·.dst))=some gd) (hgv:e.get? gd=some undef)
  (hn:St c ops K rest ((d,undef)::e) h) (hd:d<c.n:=by exact ltn rfl):St c ops K (⟨some d,op,ty,pos,after,some (g,want)⟩::rest) e h:=fun a w hk hh hs=>by
 unfold LsW
 rw [if_neg (by simp [Region.wanted,Dw hg hgv hk])]
 exact hn _ w (hk.put undef hd) hh hs
end
section
variable {c:Cx} {Q:Exit→Act→World→Prop} {e:Env} {h:SH}
theorem aZ {σ : Type} {x:Code} (E : σ → Env) (H : σ → SH) (Φ : σ → Prop) (μ : σ → Nat) (s0 : σ) (h0 : Φ s0) (hr:∀ s,Φ s→Cd c x (Exit.then (Jn c E H Φ μ s) Q) (E s) (H s))
  (hs:Env.sub (E s0) e:=by repeat (first | exact trivial | refine ⟨rfl,?_⟩)) (hp:Sub (H s0) h:=by (repeat (refine Sub.sel slq ?_)); (repeat apply Sub.cons); first | exact Sub.refl _ | exact Sub.nil _):Cd c (.loop x) Q e h:=cd_loop E H Φ μ s0 h0 hs hp hr
theorem aJ {σ : Type} {E : σ → Env} {H : σ → SH} {Φ : σ → Prop} {μ : σ → Nat} {s : σ} (s' : σ) (h1 : Φ s') (h2 : μ s' < μ s) (hs:Env.sub (E s') e:=by repeat (first | exact trivial | refine ⟨rfl,?_⟩)) (hp:Sub (H s') h:=by (repeat (refine Sub.sel slq ?_)); (repeat apply Sub.cons); first | exact Sub.refl _ | exact Sub.nil _) :
  Xt c .normal (Exit.then (Jn c E H Φ μ s) Q) e h:=ME s' h1 h2 hs hp
end
end Go.Ck
namespace Go.Ck
open Go Go.RowKit Go.ChangeShapes Go.WideShapes
inductive Ty where
 | int (k:IntKind)
 | bool
 | str
 | slice (t:Ty)
 | struct (fs:List Ty)
 | any (n:Nat) (L:List TypeId)
mutual
def Ty.D:Ty→Type
 | .int _=>Int
 | .bool=>Bool
 | .str=>ByteArray
 | .slice t=>List (Ty.D t)
 | .struct fs=>Ty.Ds fs
 | .any _ _=>Unit
def Ty.Ds:List Ty→Type
 | []=>Unit
 | t::ts=>Ty.D t×Ty.Ds ts
end
mutual
def Ty.sz:Ty→Nat
 | .int _=>1
 | .bool=>1
 | .str=>1
 | .slice _=>1
 | .struct fs=>Ty.szs fs
 | .any n _=>n
def Ty.szs:List Ty→Nat
 | []=>0
 | t::ts=>Ty.sz t+Ty.szs ts
end
mutual
def Rep (r : Res) : (t : Ty) → List Value → t.D → Prop
 | .int k,cs,n=>cs=[.int k n]∧(Lit.int k n).wf=true
 | .bool,cs,b=>cs=[.bool b]
 | .str,cs,s=>cs=[.string s]∧s.size≤maxLen
 | .slice t,cs,l=>∃ a cap,cs=[.slice a (List.length l) cap]∧List.length l≤cap∧cap≤maxLen∧(a=none→cap=0) ∧
   (l=([]:List t.D)∨∃ b o,a=some ⟨b,o,none⟩∧∀ (i:Nat) (x:t.D),@getElem? (List t.D) Nat t.D _ _ l i=some x→∃ us:List Value,us.length=t.sz∧Rds r b (o+i * t.sz) us∧Rep r t us x)
 | .struct fs,cs,x=>Reps r fs cs x
 | .any n _,cs,_=>cs.length=n
def Reps (r:Res):(fs:List Ty)→List Value→Ty.Ds fs→Prop
 | [],cs,_=>cs=[]
 | t::ts,cs,(x,xs)=>∃ u us,cs=u++us∧u.length=t.sz∧Rep r t u x∧Reps r ts us xs
end
def Jq (P:Program) (L:List TypeId):Bool:=L.all fun t=>match P.underlying t with
 | some (.int _)=>true
 | some .bool=>true
 | some .string=>true
 | some (.slice e)=>L.contains e && Nat.ble 1 (P.cellsOf e)
 | some (.struct fs)=>fs.toList.all fun f=>L.contains f.type
 | _=>false
def structB (P:Program) (t:TypeId):Bool:=match P.underlying t with
 | some (.struct _)=>true
 | _=>false
mutual
def Bl (P:Program):Ty→TypeId→Bool
 | .int k,t=>match P.underlying t with | some (.int k')=>decide (k'=k) | _=>false
 | .bool,t=>match P.underlying t with | some .bool=>true | _=>false
 | .str,t=>match P.underlying t with | some .string=>true | _=>false
 | .slice u,t=>match P.underlying t with | some (.slice e)=>Nat.beq (P.cellsOf e) u.sz && Nat.ble 1 u.sz && Bl P u e | _=>false
 | .struct fs,t=>match P.underlying t with | some (.struct gs)=>Nat.beq (P.cellsOf t) (Ty.szs fs) && BR P fs gs.toList 0 | _=>false
 | .any n L,t=>Jq P L && L.contains t && Nat.beq (P.cellsOf t) n && structB P t
def BR (P:Program):List Ty→List Field→Nat→Bool
 | [],[],_=>true
 | t::ts,f::fs,off=>Nat.beq f.offset off && Nat.beq (P.cellsOf f.type) t.sz && Bl P t f.type && BR P ts fs (off+t.sz)
 | _,_,_=>false
end

section
variable {H:Type} {enc:TypeId×Value→H} {P:Program} {W:World} {held:Bool} {sp:Nat→Bool}
theorem wQ {base:Nat} {a:Addr} {n:Nat} {cs:List Value} (h:W.cells? base a n=some cs):cs.length=n∧∀ i,(hi:i<cs.length)→W.cell? (a.add i)=some cs[i]:=by
 obtain ⟨_,h1,h2⟩:=World.cells?_some h
 exact ⟨h1,fun i hi=>by rw [h2 i (by omega),List.getElem?_eq_getElem hi]⟩
theorem cell_spot {a:Addr} {v:Value} (h:W.cell? a=some v):a.spot=none∧a.block<W.heap.size:=by
 unfold World.cell? at h
 cases hq:W.heap[a.block]? with
 | none=>rw [hq] at h; cases h
 | some o =>
  rw [hq] at h
  have hb:=(Array.getElem?_eq_some_iff.1 hq).1
  cases o with
  | cells c t f =>
   by_cases hs:a.spot.isSome=true
   ·simp [hs] at h
   ·exact ⟨by simpa using hs,hb⟩
  | _=>cases h

theorem yt {W':World} (hb:∀ b,b<W.heap.size→W'.heap[b]? = W.heap[b]?) {base:Nat} {a:Addr} {n:Nat} {cs:List Value} (h:W.cells? base a n=some cs):W'.cells? base a n=some cs:=by
 cases n with
 | zero=>unfold World.cells? at h ⊢; simpa using h
 | succ n =>
  obtain ⟨h1,h2⟩:=wQ h
  have h3:=h2 0 (by omega)
  have hbl:a.block<W.heap.size:=by
   have:=(cell_spot h3).2
   simpa [Addr.add] using this
  have:∀ i,W'.cell? (a.add i)=W.cell? (a.add i):=fun i=>World.cell?_of_block (hb _ (by unfold Addr.add; split <;> exact hbl))
  unfold World.cells? at h ⊢
  simp only [this]; exact h
theorem kP {α β : Type} {f g : α → Option β}:∀ {l:List α} {ys:List β},l.mapM f=some ys→(∀ x y,x∈l→y∈ys→f x=some y→g x=some y)→l.mapM g=some ys
 | [],ys,h,_=>by simpa using h
 | a::l,ys,h,hfg=>by
  simp only [List.mapM_cons,Option.bind_eq_bind,Option.bind_eq_some_iff,Option.pure_def,Option.some.injEq] at h
  obtain ⟨y,h1,zs,h2,rfl⟩:=h
  simp only [List.mapM_cons,Option.bind_eq_bind,Option.bind_eq_some_iff,Option.pure_def,Option.some.injEq]
  exact ⟨y,hfg a y (by simp) (by simp) h1,zs,kP h2 fun x z hx hz=>hfg x z (by simp [hx]) (by simp [hz]),Z⟩
theorem sw {W' : World} (hb : ∀ b, b < W.heap.size → W'.heap[b]? = W.heap[b]?) {L : List TypeId} (hL : Jq P L = true) : ∀ (n : Nat) (t : TypeId) (cs : List Value) (x : DataW H × List MemPlace), t ∈ L → DataW.trod enc P W 0 (fun _ => true) held n t cs = some x →
  (∀ p∈x.2,sp p.block=true)→DataW.trod enc P W' 0 sp held n t cs=some x
 | 0,t,cs,x,ht,h,_=>by simp [DataW.trod] at h
 | n + 1, t, cs, x, ht, h, hsp => by
  have hcl:=List.all_eq_true.1 hL t ht
  cases hu:P.underlying t with
  | none=>rw [hu] at hcl; cases hcl
  | some d =>
   rw [hu] at hcl
   cases d with
   | int k =>
    obtain ⟨q,rfl,rfl,h3⟩:=DataW.trod_int hu h
    simp [DataW.trod,hu,h3]
   | bool =>
    obtain ⟨q,rfl,rfl⟩:=DataW.trod_bool hu h
    simp [DataW.trod,hu]
   | string =>
    obtain ⟨q,rfl,rfl,h3⟩:=DataW.trod_string hu h
    simp [DataW.trod,hu,h3]
   | slice e =>
    simp only [Bool.and_eq_true] at hcl
    have he:e∈L:=by simpa using hcl.1
    have hp:1≤P.cellsOf e:=Nat.le_of_ble_eq_true hcl.2
    rcases DataW.trod_slice hu h with ⟨rfl,rfl⟩ | ⟨a,len,cap,_,_,_,_,rfl,_⟩
    ·simp [DataW.trod,hu]
    ·unfold DataW.trod at h ⊢
     rw [hu] at h ⊢
     simp only at h ⊢
     split at h
     ·rename_i hcond
      rw [if_pos hcond]
      simp only [if_true,Option.bind_eq_some_iff,Option.map_eq_some_iff] at h
      obtain ⟨elems,h1,rest,h2,rfl⟩:=h
      simp only [List.mem_append,List.mem_flatMap] at hsp
      have hstep:∀ i y,y∈elems++rest→(W.cells? 0 (a.add (i * P.cellsOf e)) (P.cellsOf e)).bind (DataW.trod enc P W 0 (fun _=>true) held n e)=some y→(W'.cells? 0 (a.add (i * P.cellsOf e)) (P.cellsOf e)).bind (DataW.trod enc P W' 0 sp held n e)=some y:=fun i y hy hb'=>by
       rw [Option.bind_eq_some_iff] at hb' ⊢
       obtain ⟨us,g1,g2⟩:=hb'
       exact ⟨us,yt hb g1,sw hb hL n e us y he g2 fun p hp'=>hsp p (.inr ⟨y,List.mem_append.1 hy,hp'⟩)⟩
      have e1:(List.range len).mapM (fun i=>(W'.cells? 0 (a.add (i * P.cellsOf e)) (P.cellsOf e)).bind (DataW.trod enc P W' 0 sp held n e))=some elems:=kP h1 fun i y _ hy g=>hstep i y (List.mem_append_left _ hy) g
      have e2:(List.range (cap - len)).mapM (fun j=>(W'.cells? 0 (a.add ((len+j) * P.cellsOf e)) (P.cellsOf e)).bind (DataW.trod enc P W' 0 sp held n e))=some rest:=kP h2 fun i y _ hy g=>hstep (len+i) y (List.mem_append_right _ hy) g
      rw [e1]
      simp only [Option.bind_some]
      by_cases hs:sp a.block=true
      ·rw [if_pos hs,e2]; rfl
      ·rw [if_neg hs]
       have hr : rest = [] := by
        cases rest with
        | nil=>rfl
        | cons y ys =>
         exfalso
         apply hs
         have:=hsp (MemPlace.cell a.block a.off) (.inl ?_)
         ·exact this
         ·unfold MemPlace.row
          refine List.mem_map.2 ⟨0,?_,by simp [Addr.add]⟩
          rw [List.mem_range]
          simp only [List.length_cons]
          exact Nat.mul_pos (by omega) (by omega)
       subst hr; rfl
     ·cases h
   | struct gs =>
    rw [List.all_eq_true] at hcl
    unfold DataW.trod at h ⊢
    rw [hu] at h ⊢
    simp only at h ⊢
    split at h
    ·rename_i hl
     rw [if_pos hl]
     rw [Option.map_eq_some_iff] at h ⊢
     obtain ⟨xs,h1,rfl⟩:=h
     refine ⟨xs,kP h1 fun g y hg hy h2=>?_,Z⟩
     exact sw hb hL n g.type _ y (by simpa using hcl g hg) h2 fun p hp=>hsp p (List.mem_flatMap.2 ⟨y,hy,hp⟩)
    ·cases h
   | _=>cases hcl
mutual
theorem wR {W' : World} (hb : ∀ b, b < W.heap.size → W'.heap[b]? = W.heap[b]?) : (ty : Ty) → ∀ (t : TypeId) (n : Nat) (cs : List Value) (x : DataW H × List MemPlace), Bl P ty t = true → DataW.trod enc P W 0 (fun _ => true) held n t cs = some x →
  (∀ p∈x.2,sp p.block=true)→DataW.trod enc P W' 0 sp held n t cs=some x
 | .int k, t, n, cs, x, hf, h, _ => by
  unfold Bl at hf
  cases n with
  | zero=>simp [DataW.trod] at h
  | succ n =>
   cases hu:P.underlying t with
   | none=>rw [hu] at hf; cases hf
   | some d =>
    rw [hu] at hf
    cases d <;> try (cases hf; done)
    obtain ⟨q,rfl,rfl,h3⟩:=DataW.trod_int hu h
    simp [DataW.trod,hu,h3]
 | .bool, t, n, cs, x, hf, h, _ => by
  unfold Bl at hf
  cases n with
  | zero=>simp [DataW.trod] at h
  | succ n =>
   cases hu:P.underlying t with
   | none=>rw [hu] at hf; cases hf
   | some d =>
    rw [hu] at hf
    cases d <;> try (cases hf; done)
    obtain ⟨q,rfl,rfl⟩:=DataW.trod_bool hu h
    simp [DataW.trod,hu]
 | .str, t, n, cs, x, hf, h, _ => by
  unfold Bl at hf
  cases n with
  | zero=>simp [DataW.trod] at h
  | succ n =>
   cases hu:P.underlying t with
   | none=>rw [hu] at hf; cases hf
   | some d =>
    rw [hu] at hf
    cases d <;> try (cases hf; done)
    obtain ⟨q,rfl,rfl,h3⟩:=DataW.trod_string hu h
    simp [DataW.trod,hu,h3]
 | .slice u, t, n, cs, x, hf, h, hsp => by
  unfold Bl at hf
  cases hu:P.underlying t with
  | none=>rw [hu] at hf; cases hf
  | some d =>
   rw [hu] at hf
   cases d <;> try (cases hf; done)
   rename_i e
   simp only [Bool.and_eq_true] at hf
   obtain ⟨⟨hc,hp⟩,he⟩:=hf
   have hc:P.cellsOf e=u.sz:=Nat.eq_of_beq_eq_true hc
   have hp:1≤u.sz:=Nat.le_of_ble_eq_true hp
   cases n with
   | zero=>simp [DataW.trod] at h
   | succ n =>
    rcases DataW.trod_slice hu h with ⟨rfl,rfl⟩ | ⟨a,len,cap,_,_,_,_,rfl,_⟩
    ·simp [DataW.trod,hu]
    ·unfold DataW.trod at h ⊢
     rw [hu] at h ⊢
     simp only at h ⊢
     split at h
     ·rename_i hcond
      rw [if_pos hcond]
      simp only [if_true,Option.bind_eq_some_iff,Option.map_eq_some_iff] at h
      obtain ⟨elems,h1,rest,h2,rfl⟩:=h
      simp only [List.mem_append,List.mem_flatMap] at hsp
      have hstep:∀ i y,y∈elems++rest→(W.cells? 0 (a.add (i * P.cellsOf e)) (P.cellsOf e)).bind (DataW.trod enc P W 0 (fun _=>true) held n e)=some y→(W'.cells? 0 (a.add (i * P.cellsOf e)) (P.cellsOf e)).bind (DataW.trod enc P W' 0 sp held n e)=some y:=fun i y hy hb'=>by
       rw [Option.bind_eq_some_iff] at hb' ⊢
       obtain ⟨us,g1,g2⟩:=hb'
       exact ⟨us,yt hb g1,wR hb u e n us y he g2 fun p hp'=>hsp p (.inr ⟨y,List.mem_append.1 hy,hp'⟩)⟩
      have e1:(List.range len).mapM (fun i=>(W'.cells? 0 (a.add (i * P.cellsOf e)) (P.cellsOf e)).bind (DataW.trod enc P W' 0 sp held n e))=some elems:=kP h1 fun i y _ hy g=>hstep i y (List.mem_append_left _ hy) g
      have e2:(List.range (cap - len)).mapM (fun j=>(W'.cells? 0 (a.add ((len+j) * P.cellsOf e)) (P.cellsOf e)).bind (DataW.trod enc P W' 0 sp held n e))=some rest:=kP h2 fun i y _ hy g=>hstep (len+i) y (List.mem_append_right _ hy) g
      rw [e1]
      simp only [Option.bind_some]
      by_cases hs:sp a.block=true
      ·rw [if_pos hs,e2]; rfl
      ·rw [if_neg hs]
       have hr : rest = [] := by
        cases rest with
        | nil=>rfl
        | cons y ys =>
         exfalso
         apply hs
         have:=hsp (MemPlace.cell a.block a.off) (.inl ?_)
         ·exact this
         ·unfold MemPlace.row
          rw [hc]
          refine List.mem_map.2 ⟨0,?_,by simp [Addr.add]⟩
          rw [List.mem_range]
          simp only [List.length_cons]
          exact Nat.mul_pos (by omega) (by omega)
       subst hr; rfl
     ·cases h
 | .struct fs, t, n, cs, x, hf, h, hsp => by
  unfold Bl at hf
  cases hu:P.underlying t with
  | none=>rw [hu] at hf; cases hf
  | some d =>
   rw [hu] at hf
   cases d <;> try (cases hf; done)
   rename_i gs
   simp only [Bool.and_eq_true] at hf
   obtain ⟨hc,hfs⟩:=hf
   cases n with
   | zero=>simp [DataW.trod] at h
   | succ n =>
    unfold DataW.trod at h ⊢
    rw [hu] at h ⊢
    simp only at h ⊢
    split at h
    ·rename_i hl
     rw [if_pos hl]
     rw [Option.map_eq_some_iff] at h ⊢
     obtain ⟨xs,h1,rfl⟩:=h
     refine ⟨xs,?_,Z⟩
     exact zS hb fs gs.toList 0 n cs xs hfs h1 fun y hy p hp=>hsp p (List.mem_flatMap.2 ⟨y,hy,hp⟩)
    ·cases h
 | .any k L,t,n,cs,x,hf,h,hsp=>by
  unfold Bl at hf
  simp only [Bool.and_eq_true] at hf
  obtain ⟨⟨⟨hL,ht⟩,_⟩,_⟩:=hf
  exact sw hb hL n t cs x (by simpa using ht) h hsp
theorem zS {W':World} (hb:∀ b,b<W.heap.size→W'.heap[b]? = W.heap[b]?):(fs:List Ty)→∀ (gs:List Field) (off n:Nat) (cs:List Value) (xs:List (DataW H×List MemPlace)),BR P fs gs off=true →
  gs.mapM (fun f=>DataW.trod enc P W 0 (fun _=>true) held n f.type ((cs.drop f.offset).take (P.cellsOf f.type)))=some xs→(∀ y∈xs,∀ p∈y.2,sp p.block=true) →
  gs.mapM (fun f=>DataW.trod enc P W' 0 sp held n f.type ((cs.drop f.offset).take (P.cellsOf f.type)))=some xs
 | [],[],off,n,cs,xs,hf,h,_=>by simpa using h
 | [],g::gs,off,n,cs,xs,hf,h,_=>by simp [BR] at hf
 | t::ts,[],off,n,cs,xs,hf,h,_=>by simp [BR] at hf
 | t::ts,g::gs,off,n,cs,xs,hf,h,hsp=>by
  unfold BR at hf
  simp only [Bool.and_eq_true] at hf
  obtain ⟨⟨⟨h1,h2⟩,h3⟩,h4⟩:=hf
  simp only [List.mapM_cons,Option.bind_eq_bind,Option.bind_eq_some_iff,Option.pure_def,Option.some.injEq] at h ⊢
  obtain ⟨y,g1,zs,g2,rfl⟩:=h
  exact ⟨y,wR hb t g.type n _ y h3 g1 (hsp y (by simp)),zs,zS hb ts gs (off+t.sz) n cs zs h4 g2 fun z hz=>hsp z (by simp [hz]),Z⟩
end
end
theorem wS (W:World):Holds W [old W]:=⟨fun _ _=>rfl,fun _ _ h=>h,trivial⟩
structure Kept (W w':World):Prop extends Same W w' where
 block:∀ b,b<W.heap.size→w'.heap[b]? = W.heap[b]?
theorem Kept.frame {W w':World} (h:Kept W w') (may:MemPlace→Prop):W.keptBut w' may:=by
 refine ⟨h.os,h.output,fun i hi=>?_⟩
 rw [h.block i hi]
 cases hq:W.heap[i]? with
 | none=>rfl
 | some o=>cases o <;> first | exact ⟨rfl,rfl,rfl,fun _ _=>rfl⟩ | exact Or.inr ⟨rfl,rfl⟩ | rfl
def fitAll (P:Program):List Ty→List TypeId→Bool
 | [],[]=>true
 | t::ts,u::us=>Bl P t u && fitAll P ts us
 | _,_=>false
section
variable {H:Type} {enc:TypeId×Value→H} {P:Program} {W W':World} {sp:Nat→Bool}
theorem BS (hb:∀ b,b<W.heap.size→W'.heap[b]? = W.heap[b]?):∀ {tys:List Ty} {ts:List TypeId} {vs:List Value} {ds:List (DataW H)} {ps:List MemPlace},fitAll P tys ts=true→DataW.TrodAll enc P W 0 (fun _=>true) true ts vs ds ps→(∀ p∈ps,sp p.block=true) →
  DataW.TrodAll enc P W' 0 sp true ts vs ds ps
 | [],[],[],[],ps,_,h,_=>h
 | [],[],[],_::_,ps,_,h,_=>h.elim
 | [],[],_::_,_,ps,_,h,_=>h.elim
 | [],_::_,_,_,_,hf,_,_=>by simp [fitAll] at hf
 | _::_,[],_,_,_,hf,_,_=>by simp [fitAll] at hf
 | ty::tys,t::ts,[],_,ps,_,h,_=>h.elim
 | ty::tys,t::ts,_::_,[],ps,_,h,_=>h.elim
 | ty::tys,t::ts,v::vs,d::ds,ps,hf,h,hp=>by
  unfold fitAll at hf
  rw [Bool.and_eq_true] at hf
  obtain ⟨p,q,⟨n,h1⟩,h2,rfl⟩:=h
  exact ⟨p,q,⟨n,wR hb ty t n _ _ hf.1 h1 fun x hx=>hp x (List.mem_append_left _ hx)⟩,BS hb hf.2 h2 fun x hx=>hp x (List.mem_append_right _ hx),Z⟩
theorem Hd {t:TypeId} {v:Value} {b:Nat} (hs:(match P.underlying t with | some (.struct _) | some (.array _ _)=>false | some _=>true | none=>false)=true) (h:Value.okWide P W .any b t v):v.oneCell'=true:=by
 unfold Value.okWide at h
 cases hu:P.underlying t with
 | none=>rw [hu] at hs; cases hs
 | some d =>
  rw [hu] at h hs
  cases d <;> first
   | (cases hs; done)
   | (cases v <;> first | rfl | (unfold Cell.okWide at h; rw [hu] at h; simp only [Cell.ok,hu] at h))
theorem He {t:TypeId} {v:Value} {b:Nat} {fs:Array Field} (hs:P.underlying t=some (.struct fs)) (h:Value.okWide P W .any b t v):v = .agg v.cells:=by
 obtain ⟨cs,h1,_⟩:=okWide_struct hs h
 rw [h1]; rfl
end
end Go.Ck
namespace Go.Proofs.YtknmacdbffgjgaaGreatDoor
open Go.Ck
namespace Fx
theorem mixed:Tryz.prog.follows .mixedOrders=true:=by kernel_rfl
theorem sz3:Sz Tryz.prog 3 1:=fun _=>by kernel_rfl
theorem sz4:Sz Tryz.prog 4 1:=fun _=>by kernel_rfl
theorem sz9:Sz Tryz.prog 9 1:=fun _=>by kernel_rfl
theorem sz24:Sz Tryz.prog 24 2:=fun _=>by kernel_rfl
theorem uL:Sz Tryz.prog 26 8:=fun _=>by kernel_rfl
theorem Dx:Sz Tryz.prog 29 1:=fun _=>by kernel_rfl
theorem yQ:Sz Tryz.prog 40 1:=fun _=>by kernel_rfl
theorem sz42:Sz Tryz.prog 42 1:=fun _=>by kernel_rfl
theorem lS:Sz Tryz.prog 44 7:=fun _=>by kernel_rfl
theorem sz52:Sz Tryz.prog 52 1:=fun _=>by kernel_rfl
theorem mM:Sz Tryz.prog 53 1:=fun _=>by kernel_rfl
theorem EN:Sz Tryz.prog 55 4:=fun _=>by kernel_rfl
theorem EO:Sz Tryz.prog 67 1:=fun _=>by kernel_rfl
theorem sz69:Sz Tryz.prog 69 2:=fun _=>by kernel_rfl
theorem sz70:Sz Tryz.prog 70 1:=fun _=>by kernel_rfl
theorem sz71:Sz Tryz.prog 71 1:=fun _=>by kernel_rfl
theorem nD:Sz Tryz.prog 73 5:=fun _=>by kernel_rfl
theorem iD:Sz Tryz.prog 75 14:=fun _=>by kernel_rfl
theorem rM:Sz Tryz.prog 88 6:=fun _=>by kernel_rfl
theorem sz111:Sz Tryz.prog 111 2:=fun _=>by kernel_rfl
theorem sz114:Sz Tryz.prog 114 2:=fun _=>by kernel_rfl
theorem jg:Sz Tryz.prog 116 12:=fun _=>by kernel_rfl
theorem jP:Sz Tryz.prog 130 15:=fun _=>by kernel_rfl
theorem BU:Sz Tryz.prog 132 6:=fun _=>by kernel_rfl
theorem zT:Sz Tryz.prog 143 2:=fun _=>by kernel_rfl
theorem sz162:Sz Tryz.prog 162 1:=fun _=>by kernel_rfl
theorem nE:Sz Tryz.prog 164 2:=fun _=>by kernel_rfl
theorem EP:Sz Tryz.prog 170 2:=fun _=>by kernel_rfl
theorem sz188:Sz Tryz.prog 188 1:=fun _=>by kernel_rfl
theorem l9:Sz Tryz.prog 191 18:=fun _=>by kernel_rfl
theorem sz206:Sz Tryz.prog 206 12:=fun _=>by kernel_rfl
theorem sz214:Sz Tryz.prog 214 1:=fun _=>by kernel_rfl
theorem zU:Sz Tryz.prog 216 4:=fun _=>by kernel_rfl
theorem BV:Sz Tryz.prog 218 5:=fun _=>by kernel_rfl
theorem sz250:Sz Tryz.prog 250 1:=fun _=>by kernel_rfl
theorem sz256:Sz Tryz.prog 256 1:=fun _=>by kernel_rfl
theorem sz265:Sz Tryz.prog 265 1:=fun _=>by kernel_rfl
theorem sz281:Sz Tryz.prog 281 1:=fun _=>by kernel_rfl
theorem uM:SlE Tryz.prog 22 44 7:=⟨Tryz.underlying22,lS⟩
theorem sl38:SlE Tryz.prog 38 111 2:=⟨Tryz.underlying38,sz111⟩
theorem oF:SlE Tryz.prog 39 88 6:=⟨Tryz.underlying39,rM⟩
theorem jh:SlE Tryz.prog 40 9 1:=⟨Tryz.underlying40,sz9⟩
theorem sl41:SlE Tryz.prog 41 130 15:=⟨Tryz.underlying41,jP⟩
theorem sl42:SlE Tryz.prog 42 218 5:=⟨Tryz.underlying42,BV⟩
theorem pW:SlE Tryz.prog 52 75 14:=⟨Tryz.underlying52,iD⟩
theorem sl53:SlE Tryz.prog 53 170 2:=⟨Tryz.underlying53,EP⟩
theorem pX:SlE Tryz.prog 67 69 2:=⟨Tryz.underlying67,sz69⟩
theorem sl70:SlE Tryz.prog 70 132 6:=⟨Tryz.underlying70,BU⟩
theorem yR:SlE Tryz.prog 71 73 5:=⟨Tryz.underlying71,nD⟩
theorem sl86:SlE Tryz.prog 86 143 2:=⟨Tryz.underlying86,zT⟩
theorem sl104:SlE Tryz.prog 104 24 2:=⟨Tryz.underlying104,sz24⟩
theorem lg:SlE Tryz.prog 187 191 18:=⟨Tryz.underlying187,l9⟩
theorem Jr:SlE Tryz.prog 214 216 4:=⟨Tryz.underlying214,zU⟩
theorem sl282:SlE Tryz.prog 282 281 1:=⟨Tryz.underlying282,sz281⟩
theorem sl312:SlE Tryz.prog 312 53 1:=⟨Tryz.underlying312,mM⟩
theorem sl325:SlE Tryz.prog 325 40 1:=⟨Tryz.underlying325,yQ⟩
theorem sl333:SlE Tryz.prog 333 3 1:=⟨Tryz.underlying333,sz3⟩
theorem pG:MpS Tryz.prog 112 9 55:=⟨Tryz.underlying112,Tryz.underlying9⟩
theorem gJ:MpS Tryz.prog 162 9 3:=⟨Tryz.underlying162,Tryz.underlying9⟩
theorem rV:MpS Tryz.prog 188 9 187:=⟨Tryz.underlying188,Tryz.underlying9⟩
theorem mp250:MpT Tryz.prog 250 3 4:=⟨Tryz.underlying250,Tryz.underlying3⟩
theorem yu:MpS Tryz.prog 265 9 4:=⟨Tryz.underlying265,Tryz.underlying9⟩
theorem nG:Inf Tryz.prog 3 (.int .i64 0) 1 8:=by unfold Inf; kernel_rfl
theorem inf4:Inf Tryz.prog 4 (.bool false) 1 1:=by unfold Inf; kernel_rfl
theorem fG:Inf Tryz.prog 9 (.string ⟨#[]⟩) 1 16:=by unfold Inf; kernel_rfl
theorem Js:Inf Tryz.prog 24 (.agg #[.string ⟨#[]⟩,.string ⟨#[]⟩]) 2 32:=by unfold Inf; kernel_rfl
theorem inf40:Inf Tryz.prog 40 (.slice none 0 0) 1 24:=by unfold Inf; kernel_rfl
theorem inf44:Inf Tryz.prog 44 (.agg #[.string ⟨#[]⟩,.bool false,.slice none 0 0,.slice none 0 0,.slice none 0 0,.slice none 0 0,.slice none 0 0]) 7 144:=by unfold Inf; kernel_rfl
theorem rW:Inf Tryz.prog 53 (.slice none 0 0) 1 24:=by unfold Inf; kernel_rfl
theorem pI:Inf Tryz.prog 55 (.agg #[.string ⟨#[]⟩,.bool false,.slice none 0 0,.slice none 0 0]) 4 72:=by unfold Inf; kernel_rfl
theorem BX:Inf Tryz.prog 69 (.agg #[.string ⟨#[]⟩,.string ⟨#[]⟩]) 2 32:=by unfold Inf; kernel_rfl
theorem Jt:Inf Tryz.prog 73 (.agg #[.int .i64 0,.string ⟨#[]⟩,.slice none 0 0,.bool false,.bool false]) 5 56:=by unfold Inf; kernel_rfl
theorem uN:Inf Tryz.prog 75 (.agg #[.string ⟨#[]⟩,.int .i64 0,.slice none 0 0,.string ⟨#[]⟩,.string ⟨#[]⟩,.slice none 0 0,.int .i64 0,.string ⟨#[]⟩,.slice none 0 0,.bool false,.bool false,.slice none 0 0,.slice none 0 0,.slice none 0 0]) 14 232:=by unfold Inf; kernel_rfl
theorem inf88:Inf Tryz.prog 88 (.agg #[.string ⟨#[]⟩,.slice none 0 0,.slice none 0 0,.slice none 0 0,.slice none 0 0,.slice none 0 0]) 6 136:=by unfold Inf; kernel_rfl
theorem inf111:Inf Tryz.prog 111 (.agg #[.string ⟨#[]⟩,.string ⟨#[]⟩]) 2 32:=by unfold Inf; kernel_rfl
theorem MO:Inf Tryz.prog 130 (.agg #[.int .i64 0,.string ⟨#[]⟩,.slice none 0 0,.slice none 0 0,.int .i64 0,.string ⟨#[]⟩,.slice none 0 0,.bool false,.bool false,.slice none 0 0,.slice none 0 0,.slice none 0 0,.slice none 0 0,.slice none 0 0,.bool false]) 15 256:=by unfold Inf; kernel_rfl
theorem Dy:Inf Tryz.prog 132 (.agg #[.string ⟨#[]⟩,.int .i64 0,.string ⟨#[]⟩,.slice none 0 0,.bool false,.bool false]) 6 72:=by unfold Inf; kernel_rfl
theorem inf143:Inf Tryz.prog 143 (.agg #[.string ⟨#[]⟩,.string ⟨#[]⟩]) 2 32:=by unfold Inf; kernel_rfl
theorem mO:Inf Tryz.prog 170 (.agg #[.string ⟨#[]⟩,.slice none 0 0]) 2 40:=by unfold Inf; kernel_rfl
theorem sD:Inf Tryz.prog 187 (.slice none 0 0) 1 24:=by unfold Inf; kernel_rfl
theorem zV:Inf Tryz.prog 191 (.agg #[.string ⟨#[]⟩,.string ⟨#[]⟩,.int .i64 0,.string ⟨#[]⟩,.int .i64 0,.slice none 0 0,.string ⟨#[]⟩,.string ⟨#[]⟩,.slice none 0 0,.int .i64 0,.string ⟨#[]⟩,.slice none 0 0,.bool false,.bool false,.slice none 0 0,.slice none 0 0,.slice none 0 0,.int .i64 0]) 18 280:=by unfold Inf; kernel_rfl
theorem MP:Inf Tryz.prog 216 (.agg #[.int .i64 0,.string ⟨#[]⟩,.int .i64 0,.slice none 0 0]) 4 56:=by unfold Inf; kernel_rfl
theorem MQ:Inf Tryz.prog 218 (.agg #[.string ⟨#[]⟩,.int .i64 0,.string ⟨#[]⟩,.int .i64 0,.slice none 0 0]) 5 72:=by unfold Inf; kernel_rfl
theorem inf281:Inf Tryz.prog 281 (.nilFunc) 1 8:=by unfold Inf; kernel_rfl
theorem ld3:Ld1 Tryz.prog 3:=Ld1.of Tryz.underlying3 rfl
theorem ld4:Ld1 Tryz.prog 4:=Ld1.of Tryz.underlying4 rfl
theorem ld9:Ld1 Tryz.prog 9:=Ld1.of Tryz.underlying9 rfl
theorem ld22:Ld1 Tryz.prog 22:=Ld1.of Tryz.underlying22 rfl
theorem pY:LdN Tryz.prog 24 2:=LdN.of Tryz.underlying24 sz24
theorem qy:LdN Tryz.prog 26 8:=LdN.of Tryz.underlying26 uL
theorem Bn:Ld1 Tryz.prog 29:=Ld1.of Tryz.underlying29 rfl
theorem ld38:Ld1 Tryz.prog 38:=Ld1.of Tryz.underlying38 rfl
theorem lT:Ld1 Tryz.prog 39:=Ld1.of Tryz.underlying39 rfl
theorem fH:Ld1 Tryz.prog 40:=Ld1.of Tryz.underlying40 rfl
theorem yS:Ld1 Tryz.prog 41:=Ld1.of Tryz.underlying41 rfl
theorem wT:Ld1 Tryz.prog 42:=Ld1.of Tryz.underlying42 rfl
theorem gG:LdN Tryz.prog 44 7:=LdN.of Tryz.underlying44 lS
theorem uO:Ld1 Tryz.prog 52:=Ld1.of Tryz.underlying52 rfl
theorem zW:Ld1 Tryz.prog 53:=Ld1.of Tryz.underlying53 rfl
theorem ld55:LdN Tryz.prog 55 4:=LdN.of Tryz.underlying55 EN
theorem qz:Ld1 Tryz.prog 67:=Ld1.of Tryz.underlying67 rfl
theorem iM:LdN Tryz.prog 69 2:=LdN.of Tryz.underlying69 sz69
theorem sF:Ld1 Tryz.prog 70:=Ld1.of Tryz.underlying70 rfl
theorem oG:Ld1 Tryz.prog 71:=Ld1.of Tryz.underlying71 rfl
theorem fQ:LdN Tryz.prog 73 5:=LdN.of Tryz.underlying73 nD
theorem fB:LdN Tryz.prog 75 14:=LdN.of Tryz.underlying75 iD
theorem ld86:Ld1 Tryz.prog 86:=Ld1.of Tryz.underlying86 rfl
theorem p8:LdN Tryz.prog 88 6:=LdN.of Tryz.underlying88 rM
theorem Ju:LdN Tryz.prog 111 2:=LdN.of Tryz.underlying111 sz111
theorem pJ:Ld1 Tryz.prog 112:=Ld1.of Tryz.underlying112 rfl
theorem gT:LdN Tryz.prog 114 2:=LdN.of Tryz.underlying114 sz114
theorem lh:LdN Tryz.prog 116 12:=LdN.of Tryz.underlying116 jg
theorem nH:LdN Tryz.prog 130 15:=LdN.of Tryz.underlying130 jP
theorem uP:LdN Tryz.prog 132 6:=LdN.of Tryz.underlying132 BU
theorem qB:LdN Tryz.prog 143 2:=LdN.of Tryz.underlying143 zT
theorem kv:Ld1 Tryz.prog 162:=Ld1.of Tryz.underlying162 rfl
theorem kw:LdN Tryz.prog 164 2:=LdN.of Tryz.underlying164 nE
theorem uQ:LdN Tryz.prog 170 2:=LdN.of Tryz.underlying170 EP
theorem ld186:Ld1 Tryz.prog 186:=Ld1.of Tryz.underlying186 rfl
theorem qC:Ld1 Tryz.prog 188:=Ld1.of Tryz.underlying188 rfl
theorem gU:LdN Tryz.prog 191 18:=LdN.of Tryz.underlying191 l9
theorem ld197:Ld1 Tryz.prog 197:=Ld1.of Tryz.underlying197 rfl
theorem fC:LdN Tryz.prog 206 12:=LdN.of Tryz.underlying206 sz206
theorem EQ:Ld1 Tryz.prog 214:=Ld1.of Tryz.underlying214 rfl
theorem nI:LdN Tryz.prog 216 4:=LdN.of Tryz.underlying216 zU
theorem yw:LdN Tryz.prog 218 5:=LdN.of Tryz.underlying218 BV
theorem ld229:Ld1 Tryz.prog 229:=Ld1.of Tryz.underlying229 rfl
theorem ld249:Ld1 Tryz.prog 249:=Ld1.of Tryz.underlying249 rfl
theorem ld250:Ld1 Tryz.prog 250:=Ld1.of Tryz.underlying250 rfl
theorem ld256:Ld1 Tryz.prog 256:=Ld1.of Tryz.underlying256 rfl
theorem ld265:Ld1 Tryz.prog 265:=Ld1.of Tryz.underlying265 rfl
theorem ld281:Ld1 Tryz.prog 281:=Ld1.of Tryz.underlying281 rfl
theorem MS:Fa Tryz.prog 26 1 1:=fun _ _ _=>by kernel_rfl
theorem Dz:Fa Tryz.prog 26 3 3:=fun _ _ _=>by kernel_rfl
theorem dH:Fa Tryz.prog 44 0 0:=fun _ _ _=>by kernel_rfl
theorem MU:Fa Tryz.prog 44 1 1:=fun _ _ _=>by kernel_rfl
theorem DC:Fa Tryz.prog 44 2 2:=fun _ _ _=>by kernel_rfl
theorem eX:Fa Tryz.prog 44 3 3:=fun _ _ _=>by kernel_rfl
theorem fa44_4:Fa Tryz.prog 44 4 4:=fun _ _ _=>by kernel_rfl
theorem ko:Fa Tryz.prog 44 5 5:=fun _ _ _=>by kernel_rfl
theorem MV:Fa Tryz.prog 44 6 6:=fun _ _ _=>by kernel_rfl
theorem sH:Fa Tryz.prog 55 2 2:=fun _ _ _=>by kernel_rfl
theorem DD:Fa Tryz.prog 55 3 3:=fun _ _ _=>by kernel_rfl
theorem wU:Fa Tryz.prog 69 0 0:=fun _ _ _=>by kernel_rfl
theorem wV:Fa Tryz.prog 69 1 1:=fun _ _ _=>by kernel_rfl
theorem qD:Fa Tryz.prog 73 0 0:=fun _ _ _=>by kernel_rfl
theorem zX:Fa Tryz.prog 73 1 1:=fun _ _ _=>by kernel_rfl
theorem iN:Fa Tryz.prog 73 2 2:=fun _ _ _=>by kernel_rfl
theorem oH:Fa Tryz.prog 73 3 3:=fun _ _ _=>by kernel_rfl
theorem oI:Fa Tryz.prog 73 4 4:=fun _ _ _=>by kernel_rfl
theorem eH:Fa Tryz.prog 75 0 0:=fun _ _ _=>by kernel_rfl
theorem zY:Fa Tryz.prog 75 1 1:=fun _ _ _=>by kernel_rfl
theorem eO:Fa Tryz.prog 75 2 2:=fun _ _ _=>by kernel_rfl
theorem DF:Fa Tryz.prog 75 3 3:=fun _ _ _=>by kernel_rfl
theorem ll:Fa Tryz.prog 75 4 5:=fun _ _ _=>by kernel_rfl
theorem qE:Fa Tryz.prog 75 5 6:=fun _ _ _=>by kernel_rfl
theorem MW:Fa Tryz.prog 75 6 11:=fun _ _ _=>by kernel_rfl
theorem jD:Fa Tryz.prog 75 7 12:=fun _ _ _=>by kernel_rfl
theorem jE:Fa Tryz.prog 75 8 13:=fun _ _ _=>by kernel_rfl
theorem gH:Fa Tryz.prog 88 0 0:=fun _ _ _=>by kernel_rfl
theorem wW:Fa Tryz.prog 88 1 1:=fun _ _ _=>by kernel_rfl
theorem zZ:Fa Tryz.prog 88 2 2:=fun _ _ _=>by kernel_rfl
theorem wX:Fa Tryz.prog 88 3 3:=fun _ _ _=>by kernel_rfl
theorem wY:Fa Tryz.prog 88 4 4:=fun _ _ _=>by kernel_rfl
theorem z8:Fa Tryz.prog 88 5 5:=fun _ _ _=>by kernel_rfl
theorem Jv:Fa Tryz.prog 111 0 0:=fun _ _ _=>by kernel_rfl
theorem Jw:Fa Tryz.prog 114 0 0:=fun _ _ _=>by kernel_rfl
theorem iG:Fa Tryz.prog 114 1 1:=fun _ _ _=>by kernel_rfl
theorem gL:Fa Tryz.prog 116 0 0:=fun _ _ _=>by kernel_rfl
theorem DI:Fa Tryz.prog 116 1 2:=fun _ _ _=>by kernel_rfl
theorem Jy:Fa Tryz.prog 116 2 3:=fun _ _ _=>by kernel_rfl
theorem uT:Fa Tryz.prog 116 3 11:=fun _ _ _=>by kernel_rfl
theorem uU:Fa Tryz.prog 130 0 0:=fun _ _ _=>by kernel_rfl
theorem oJ:Fa Tryz.prog 130 1 1:=fun _ _ _=>by kernel_rfl
theorem Jz:Fa Tryz.prog 130 2 2:=fun _ _ _=>by kernel_rfl
theorem rz:Fa Tryz.prog 130 3 3:=fun _ _ _=>by kernel_rfl
theorem za:Fa Tryz.prog 130 4 4:=fun _ _ _=>by kernel_rfl
theorem zb:Fa Tryz.prog 130 6 10:=fun _ _ _=>by kernel_rfl
theorem ze:Fa Tryz.prog 130 7 11:=fun _ _ _=>by kernel_rfl
theorem JA:Fa Tryz.prog 132 0 0:=fun _ _ _=>by kernel_rfl
theorem mg:Fa Tryz.prog 132 1 1:=fun _ _ _=>by kernel_rfl
theorem zf:Fa Tryz.prog 143 0 0:=fun _ _ _=>by kernel_rfl
theorem JB:Fa Tryz.prog 143 1 1:=fun _ _ _=>by kernel_rfl
theorem DJ:Fa Tryz.prog 164 0 0:=fun _ _ _=>by kernel_rfl
theorem DK:Fa Tryz.prog 164 1 1:=fun _ _ _=>by kernel_rfl
theorem JC:Fa Tryz.prog 170 0 0:=fun _ _ _=>by kernel_rfl
theorem zg:Fa Tryz.prog 170 1 1:=fun _ _ _=>by kernel_rfl
theorem ji:Fa Tryz.prog 191 0 0:=fun _ _ _=>by kernel_rfl
theorem zh:Fa Tryz.prog 191 1 2:=fun _ _ _=>by kernel_rfl
theorem dN:Fa Tryz.prog 191 2 3:=fun _ _ _=>by kernel_rfl
theorem fa191_3:Fa Tryz.prog 191 3 17:=fun _ _ _=>by kernel_rfl
theorem DL:Fa Tryz.prog 206 0 0:=fun _ _ _=>by kernel_rfl
theorem gM:Fa Tryz.prog 206 1 2:=fun _ _ _=>by kernel_rfl
theorem mh:Fa Tryz.prog 206 2 9:=fun _ _ _=>by kernel_rfl
theorem oK:Fa Tryz.prog 206 3 10:=fun _ _ _=>by kernel_rfl
theorem oL:Fa Tryz.prog 206 4 11:=fun _ _ _=>by kernel_rfl
theorem JD:Fa Tryz.prog 216 0 0:=fun _ _ _=>by kernel_rfl
theorem JE:Fa Tryz.prog 216 1 1:=fun _ _ _=>by kernel_rfl
theorem JF:Fa Tryz.prog 216 2 2:=fun _ _ _=>by kernel_rfl
theorem rA:Fa Tryz.prog 216 3 3:=fun _ _ _=>by kernel_rfl
theorem JG:Fa Tryz.prog 218 0 0:=fun _ _ _=>by kernel_rfl
theorem uV:Fa Tryz.prog 218 1 1:=fun _ _ _=>by kernel_rfl
theorem al4:Al Tryz.prog 4 [.bool false]:=fun _=>by kernel_rfl
theorem al24:Al Tryz.prog 24 [.string ⟨#[]⟩,.string ⟨#[]⟩]:=fun _=>by kernel_rfl
theorem Bo:Al Tryz.prog 26 [.int .i64 0,.string ⟨#[]⟩,.string ⟨#[]⟩,.string ⟨#[]⟩,.string ⟨#[]⟩,.string ⟨#[]⟩,.string ⟨#[]⟩,.string ⟨#[]⟩]:=fun _=>by kernel_rfl
theorem al29:Al Tryz.prog 29 [.int .i64 0]:=fun _=>by kernel_rfl
theorem al40:Al Tryz.prog 40 [.slice none 0 0]:=fun _=>by kernel_rfl
theorem nJ:Al Tryz.prog 44 [.string ⟨#[]⟩,.bool false,.slice none 0 0,.slice none 0 0,.slice none 0 0,.slice none 0 0,.slice none 0 0]:=fun _=>by kernel_rfl
theorem al55:Al Tryz.prog 55 [.string ⟨#[]⟩,.bool false,.slice none 0 0,.slice none 0 0]:=fun _=>by kernel_rfl
theorem al69:Al Tryz.prog 69 [.string ⟨#[]⟩,.string ⟨#[]⟩]:=fun _=>by kernel_rfl
theorem Aa:Al Tryz.prog 73 [.int .i64 0,.string ⟨#[]⟩,.slice none 0 0,.bool false,.bool false]:=fun _=>by kernel_rfl
theorem jQ:Al Tryz.prog 75 [.string ⟨#[]⟩,.int .i64 0,.slice none 0 0,.string ⟨#[]⟩,.string ⟨#[]⟩,.slice none 0 0,.int .i64 0,.string ⟨#[]⟩,.slice none 0 0,.bool false,.bool false,.slice none 0 0,.slice none 0 0,.slice none 0 0]:=fun _=>by kernel_rfl
theorem uW:Al Tryz.prog 88 [.string ⟨#[]⟩,.slice none 0 0,.slice none 0 0,.slice none 0 0,.slice none 0 0,.slice none 0 0]:=fun _=>by kernel_rfl
theorem al111:Al Tryz.prog 111 [.string ⟨#[]⟩,.string ⟨#[]⟩]:=fun _=>by kernel_rfl
theorem al114:Al Tryz.prog 114 [.slice none 0 0,.map none]:=fun _=>by kernel_rfl
theorem pM:Al Tryz.prog 116 [.slice none 0 0,.map none,.slice none 0 0,.int .i64 0,.string ⟨#[]⟩,.string ⟨#[]⟩,.string ⟨#[]⟩,.string ⟨#[]⟩,.string ⟨#[]⟩,.string ⟨#[]⟩,.string ⟨#[]⟩,.int .i64 0]:=fun _=>by kernel_rfl
theorem lm:Al Tryz.prog 130 [.int .i64 0,.string ⟨#[]⟩,.slice none 0 0,.slice none 0 0,.int .i64 0,.string ⟨#[]⟩,.slice none 0 0,.bool false,.bool false,.slice none 0 0,.slice none 0 0,.slice none 0 0,.slice none 0 0,.slice none 0 0,.bool false]:=fun _=>by kernel_rfl
theorem JH:Al Tryz.prog 132 [.string ⟨#[]⟩,.int .i64 0,.string ⟨#[]⟩,.slice none 0 0,.bool false,.bool false]:=fun _=>by kernel_rfl
theorem ER:Al Tryz.prog 143 [.string ⟨#[]⟩,.string ⟨#[]⟩]:=fun _=>by kernel_rfl
theorem al162:Al Tryz.prog 162 [.map none]:=fun _=>by kernel_rfl
theorem rX:Al Tryz.prog 164 [.slice none 0 0,.map none]:=fun _=>by kernel_rfl
theorem al170:Al Tryz.prog 170 [.string ⟨#[]⟩,.slice none 0 0]:=fun _=>by kernel_rfl
theorem al188:Al Tryz.prog 188 [.map none]:=fun _=>by kernel_rfl
theorem qF:Al Tryz.prog 191 [.string ⟨#[]⟩,.string ⟨#[]⟩,.int .i64 0,.string ⟨#[]⟩,.int .i64 0,.slice none 0 0,.string ⟨#[]⟩,.string ⟨#[]⟩,.slice none 0 0,.int .i64 0,.string ⟨#[]⟩,.slice none 0 0,.bool false,.bool false,.slice none 0 0,.slice none 0 0,.slice none 0 0,.int .i64 0]:=fun _=>by kernel_rfl
theorem al206:Al Tryz.prog 206 [.slice none 0 0,.map none,.string ⟨#[]⟩,.bool false,.slice none 0 0,.slice none 0 0,.slice none 0 0,.slice none 0 0,.slice none 0 0,.slice none 0 0,.map none,.bool false]:=fun _=>by kernel_rfl
theorem JI:Al Tryz.prog 216 [.int .i64 0,.string ⟨#[]⟩,.int .i64 0,.slice none 0 0]:=fun _=>by kernel_rfl
theorem JJ:Al Tryz.prog 218 [.string ⟨#[]⟩,.int .i64 0,.string ⟨#[]⟩,.int .i64 0,.slice none 0 0]:=fun _=>by kernel_rfl
theorem al250:Al Tryz.prog 250 [.map none]:=fun _=>by kernel_rfl
theorem al256:Al Tryz.prog 256 [.nilFunc]:=fun _=>by kernel_rfl
theorem al265:Al Tryz.prog 265 [.map none]:=fun _=>by kernel_rfl
theorem en10:Enters Tryz.prog 10:=fun _ _=>by kernel_rfl
theorem en11:Enters Tryz.prog 11:=fun _ _=>by kernel_rfl
theorem en12:Enters Tryz.prog 12:=fun _ _=>by kernel_rfl
theorem en13:Enters Tryz.prog 13:=fun _ _=>by kernel_rfl
theorem en14:Enters Tryz.prog 14:=fun _ _=>by kernel_rfl
theorem en15:Enters Tryz.prog 15:=fun _ _=>by kernel_rfl
theorem en16:Enters Tryz.prog 16:=fun _ _=>by kernel_rfl
theorem en27:Enters Tryz.prog 27:=fun _ _=>by kernel_rfl
theorem en29:Enters Tryz.prog 29:=fun _ _=>by kernel_rfl
theorem en31:Enters Tryz.prog 31:=fun _ _=>by kernel_rfl
theorem en33:Enters Tryz.prog 33:=fun _ _=>by kernel_rfl
theorem en35:Enters Tryz.prog 35:=fun _ _=>by kernel_rfl
theorem en38:Enters Tryz.prog 38:=fun _ _=>by kernel_rfl
theorem en40:Enters Tryz.prog 40:=fun _ _=>by kernel_rfl
theorem en41:Enters Tryz.prog 41:=fun _ _=>by kernel_rfl
theorem DN:Enters Tryz.prog 42:=fun _ _=>by kernel_rfl
theorem en45:Enters Tryz.prog 45:=fun _ _=>by kernel_rfl
theorem en48:Enters Tryz.prog 48:=fun _ _=>by kernel_rfl
theorem en49:Enters Tryz.prog 49:=fun _ _=>by kernel_rfl
theorem en50:Enters Tryz.prog 50:=fun _ _=>by kernel_rfl
theorem en51:Enters Tryz.prog 51:=fun _ _=>by kernel_rfl
theorem en52:Enters Tryz.prog 52:=fun _ _=>by kernel_rfl
theorem en53:Enters Tryz.prog 53:=fun _ _=>by kernel_rfl
theorem en54:Enters Tryz.prog 54:=fun _ _=>by kernel_rfl
theorem en55:Enters Tryz.prog 55:=fun _ _=>by kernel_rfl
theorem en56:Enters Tryz.prog 56:=fun _ _=>by kernel_rfl
theorem en57:Enters Tryz.prog 57:=fun _ _=>by kernel_rfl
theorem en58:Enters Tryz.prog 58:=fun _ _=>by kernel_rfl
theorem en59:Enters Tryz.prog 59:=fun _ _=>by kernel_rfl
theorem en60:Enters Tryz.prog 60:=fun _ _=>by kernel_rfl
theorem en61:Enters Tryz.prog 61:=fun _ _=>by kernel_rfl
theorem en62:Enters Tryz.prog 62:=fun _ _=>by kernel_rfl
theorem en63:Enters Tryz.prog 63:=fun _ _=>by kernel_rfl
theorem en64:Enters Tryz.prog 64:=fun _ _=>by kernel_rfl
theorem en73:Enters Tryz.prog 73:=fun _ _=>by kernel_rfl
theorem en91:Enters Tryz.prog 91:=fun _ _=>by kernel_rfl
theorem en92:Enters Tryz.prog 92:=fun _ _=>by kernel_rfl
theorem en93:Enters Tryz.prog 93:=fun _ _=>by kernel_rfl
theorem en97:Enters Tryz.prog 97:=fun _ _=>by kernel_rfl
theorem en98:Enters Tryz.prog 98:=fun _ _=>by kernel_rfl
theorem en99:Enters Tryz.prog 99:=fun _ _=>by kernel_rfl
theorem en100:Enters Tryz.prog 100:=fun _ _=>by kernel_rfl
theorem en101:Enters Tryz.prog 101:=fun _ _=>by kernel_rfl
theorem ES:Enters Tryz.prog 102:=fun _ _=>by kernel_rfl
theorem en103:Enters Tryz.prog 103:=fun _ _=>by kernel_rfl
theorem en104:Enters Tryz.prog 104:=fun _ _=>by kernel_rfl
theorem en109:Enters Tryz.prog 109:=fun _ _=>by kernel_rfl
theorem en110:Enters Tryz.prog 110:=fun _ _=>by kernel_rfl
theorem yx:Enters Tryz.prog 111:=fun _ _=>by kernel_rfl
theorem en112:Enters Tryz.prog 112:=fun _ _=>by kernel_rfl
theorem JK:Enters Tryz.prog 113:=fun _ _=>by kernel_rfl
theorem JL:Enters Tryz.prog 114:=fun _ _=>by kernel_rfl
theorem JM:Enters Tryz.prog 115:=fun _ _=>by kernel_rfl
theorem en116:Enters Tryz.prog 116:=fun _ _=>by kernel_rfl
theorem en117:Enters Tryz.prog 117:=fun _ _=>by kernel_rfl
theorem en118:Enters Tryz.prog 118:=fun _ _=>by kernel_rfl
theorem en119:Enters Tryz.prog 119:=fun _ _=>by kernel_rfl
theorem en120:Enters Tryz.prog 120:=fun _ _=>by kernel_rfl
theorem en121:Enters Tryz.prog 121:=fun _ _=>by kernel_rfl
theorem en122:Enters Tryz.prog 122:=fun _ _=>by kernel_rfl
theorem en123:Enters Tryz.prog 123:=fun _ _=>by kernel_rfl
theorem en124:Enters Tryz.prog 124:=fun _ _=>by kernel_rfl
theorem JN:Enters Tryz.prog 126:=fun _ _=>by kernel_rfl
theorem en128:Enters Tryz.prog 128:=fun _ _=>by kernel_rfl
theorem en129:Enters Tryz.prog 129:=fun _ _=>by kernel_rfl
theorem en130:Enters Tryz.prog 130:=fun _ _=>by kernel_rfl
theorem en131:Enters Tryz.prog 131:=fun _ _=>by kernel_rfl
theorem en132:Enters Tryz.prog 132:=fun _ _=>by kernel_rfl
theorem en133:Enters Tryz.prog 133:=fun _ _=>by kernel_rfl
theorem en134:Enters Tryz.prog 134:=fun _ _=>by kernel_rfl
theorem en135:Enters Tryz.prog 135:=fun _ _=>by kernel_rfl
theorem en136:Enters Tryz.prog 136:=fun _ _=>by kernel_rfl
theorem en137:Enters Tryz.prog 137:=fun _ _=>by kernel_rfl
theorem en138:Enters Tryz.prog 138:=fun _ _=>by kernel_rfl
theorem en139:Enters Tryz.prog 139:=fun _ _=>by kernel_rfl
theorem en140:Enters Tryz.prog 140:=fun _ _=>by kernel_rfl
theorem en141:Enters Tryz.prog 141:=fun _ _=>by kernel_rfl
theorem en142:Enters Tryz.prog 142:=fun _ _=>by kernel_rfl
theorem en143:Enters Tryz.prog 143:=fun _ _=>by kernel_rfl
theorem en144:Enters Tryz.prog 144:=fun _ _=>by kernel_rfl
theorem en145:Enters Tryz.prog 145:=fun _ _=>by kernel_rfl
theorem en146:Enters Tryz.prog 146:=fun _ _=>by kernel_rfl
theorem en147:Enters Tryz.prog 147:=fun _ _=>by kernel_rfl
theorem en148:Enters Tryz.prog 148:=fun _ _=>by kernel_rfl
theorem en149:Enters Tryz.prog 149:=fun _ _=>by kernel_rfl
theorem en150:Enters Tryz.prog 150:=fun _ _=>by kernel_rfl
theorem en151:Enters Tryz.prog 151:=fun _ _=>by kernel_rfl
theorem en153:Enters Tryz.prog 153:=fun _ _=>by kernel_rfl
theorem en160:Enters Tryz.prog 160:=fun _ _=>by kernel_rfl
theorem en163:Enters Tryz.prog 163:=fun _ _=>by kernel_rfl
theorem en166:Enters Tryz.prog 166:=fun _ _=>by kernel_rfl
theorem en167:Enters Tryz.prog 167:=fun _ _=>by kernel_rfl
theorem en169:Enters Tryz.prog 169:=fun _ _=>by kernel_rfl
theorem en170:Enters Tryz.prog 170:=fun _ _=>by kernel_rfl
theorem en171:Enters Tryz.prog 171:=fun _ _=>by kernel_rfl
theorem en172:Enters Tryz.prog 172:=fun _ _=>by kernel_rfl
theorem en173:Enters Tryz.prog 173:=fun _ _=>by kernel_rfl
theorem JO:Enters Tryz.prog 174:=fun _ _=>by kernel_rfl
theorem en175:Enters Tryz.prog 175:=fun _ _=>by kernel_rfl
theorem en176:Enters Tryz.prog 176:=fun _ _=>by kernel_rfl
theorem en177:Enters Tryz.prog 177:=fun _ _=>by kernel_rfl
theorem ET:Enters Tryz.prog 178:=fun _ _=>by kernel_rfl
theorem en182:Enters Tryz.prog 182:=fun _ _=>by kernel_rfl
theorem en183:Enters Tryz.prog 183:=fun _ _=>by kernel_rfl
theorem en184:Enters Tryz.prog 184:=fun _ _=>by kernel_rfl
theorem en185:Enters Tryz.prog 185:=fun _ _=>by kernel_rfl
theorem en186:Enters Tryz.prog 186:=fun _ _=>by kernel_rfl
theorem en187:Enters Tryz.prog 187:=fun _ _=>by kernel_rfl
theorem en188:Enters Tryz.prog 188:=fun _ _=>by kernel_rfl
theorem en189:Enters Tryz.prog 189:=fun _ _=>by kernel_rfl
theorem en190:Enters Tryz.prog 190:=fun _ _=>by kernel_rfl
theorem en191:Enters Tryz.prog 191:=fun _ _=>by kernel_rfl
theorem en192:Enters Tryz.prog 192:=fun _ _=>by kernel_rfl
theorem en193:Enters Tryz.prog 193:=fun _ _=>by kernel_rfl
theorem en194:Enters Tryz.prog 194:=fun _ _=>by kernel_rfl
theorem EU:Enters Tryz.prog 195:=fun _ _=>by kernel_rfl
theorem pO:Enters Tryz.prog 196:=fun _ _=>by kernel_rfl
theorem en197:Enters Tryz.prog 197:=fun _ _=>by kernel_rfl
theorem en199:Enters Tryz.prog 199:=fun _ _=>by kernel_rfl
theorem en200:Enters Tryz.prog 200:=fun _ _=>by kernel_rfl
theorem en203:Enters Tryz.prog 203:=fun _ _=>by kernel_rfl
theorem jR:Enters Tryz.prog 204:=fun _ _=>by kernel_rfl
theorem en205:Enters Tryz.prog 205:=fun _ _=>by kernel_rfl
theorem JP:Enters Tryz.prog 206:=fun _ _=>by kernel_rfl
theorem en207:Enters Tryz.prog 207:=fun _ _=>by kernel_rfl
theorem en208:Enters Tryz.prog 208:=fun _ _=>by kernel_rfl
theorem en209:Enters Tryz.prog 209:=fun _ _=>by kernel_rfl
theorem en210:Enters Tryz.prog 210:=fun _ _=>by kernel_rfl
theorem en211:Enters Tryz.prog 211:=fun _ _=>by kernel_rfl
theorem en212:Enters Tryz.prog 212:=fun _ _=>by kernel_rfl
theorem en213:Enters Tryz.prog 213:=fun _ _=>by kernel_rfl
theorem JQ:Enters Tryz.prog 214:=fun _ _=>by kernel_rfl
theorem en215:Enters Tryz.prog 215:=fun _ _=>by kernel_rfl
theorem en216:Enters Tryz.prog 216:=fun _ _=>by kernel_rfl
theorem en217:Enters Tryz.prog 217:=fun _ _=>by kernel_rfl
theorem en218:Enters Tryz.prog 218:=fun _ _=>by kernel_rfl
theorem en219:Enters Tryz.prog 219:=fun _ _=>by kernel_rfl
theorem en220:Enters Tryz.prog 220:=fun _ _=>by kernel_rfl
theorem en221:Enters Tryz.prog 221:=fun _ _=>by kernel_rfl
theorem en222:Enters Tryz.prog 222:=fun _ _=>by kernel_rfl
theorem en223:Enters Tryz.prog 223:=fun _ _=>by kernel_rfl
theorem en224:Enters Tryz.prog 224:=fun _ _=>by kernel_rfl
theorem en225:Enters Tryz.prog 225:=fun _ _=>by kernel_rfl
theorem en226:Enters Tryz.prog 226:=fun _ _=>by kernel_rfl
theorem en227:Enters Tryz.prog 227:=fun _ _=>by kernel_rfl
theorem en228:Enters Tryz.prog 228:=fun _ _=>by kernel_rfl
theorem en229:Enters Tryz.prog 229:=fun _ _=>by kernel_rfl
theorem en231:Enters Tryz.prog 231:=fun _ _=>by kernel_rfl
theorem en236:Enters Tryz.prog 236:=fun _ _=>by kernel_rfl
theorem en237:Enters Tryz.prog 237:=fun _ _=>by kernel_rfl
theorem en241:Enters Tryz.prog 241:=fun _ _=>by kernel_rfl
theorem EW:Enters Tryz.prog 242:=fun _ _=>by kernel_rfl
theorem en244:Enters Tryz.prog 244:=fun _ _=>by kernel_rfl
theorem en245:Enters Tryz.prog 245:=fun _ _=>by kernel_rfl
theorem en246:Enters Tryz.prog 246:=fun _ _=>by kernel_rfl
theorem en247:Enters Tryz.prog 247:=fun _ _=>by kernel_rfl
theorem en248:Enters Tryz.prog 248:=fun _ _=>by kernel_rfl
theorem en260:Enters Tryz.prog 260:=fun _ _=>by kernel_rfl
theorem en261:Enters Tryz.prog 261:=fun _ _=>by kernel_rfl
theorem en262:Enters Tryz.prog 262:=fun _ _=>by kernel_rfl
theorem en263:Enters Tryz.prog 263:=fun _ _=>by kernel_rfl
theorem en264:Enters Tryz.prog 264:=fun _ _=>by kernel_rfl
theorem en265:Enters Tryz.prog 265:=fun _ _=>by kernel_rfl
theorem en266:Enters Tryz.prog 266:=fun _ _=>by kernel_rfl
theorem en267:Enters Tryz.prog 267:=fun _ _=>by kernel_rfl
theorem en268:Enters Tryz.prog 268:=fun _ _=>by kernel_rfl
theorem en269:Enters Tryz.prog 269:=fun _ _=>by kernel_rfl
theorem en270:Enters Tryz.prog 270:=fun _ _=>by kernel_rfl
theorem en271:Enters Tryz.prog 271:=fun _ _=>by kernel_rfl
theorem en272:Enters Tryz.prog 272:=fun _ _=>by kernel_rfl
theorem en278:Enters Tryz.prog 278:=fun _ _=>by kernel_rfl
theorem en279:Enters Tryz.prog 279:=fun _ _=>by kernel_rfl
theorem en280:Enters Tryz.prog 280:=fun _ _=>by kernel_rfl
theorem en294:Enters Tryz.prog 294:=fun _ _=>by kernel_rfl
theorem en296:Enters Tryz.prog 296:=fun _ _=>by kernel_rfl
theorem en297:Enters Tryz.prog 297:=fun _ _=>by kernel_rfl
end Fx
end Go.Proofs.YtknmacdbffgjgaaGreatDoor
namespace Go.Ck
open Go Go.RowKit

def OpenRow (v:Value) (sz n:Nat) (l:List Value) (b cp:Nat) (j:List Value):Prop:=v = .slice (some ⟨b,0,none⟩) n cp∧l.length=n * sz∧n≤cp∧cp≤maxLen∧(l++j).length=cp * sz
section
variable {c:Cx} {Q:Exit→Act→World→Prop} {e:Env} {h h':SH} {x:Code} {v:Value} {E:TypeId} {sz n:Nat} {l l':List Value}
end
end Go.Ck
