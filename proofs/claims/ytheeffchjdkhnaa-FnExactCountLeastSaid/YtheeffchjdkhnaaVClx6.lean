/- The values of the printed functions, without rounds, and the equations that they meet. Written by a program of this session (vgen.py). -/
import Derived.Test.YtheeffchjdkhnaaPClx6
import Derived.Test.YtheeffchjdkhnaaVClx3
import Derived.Test.YtheeffchjdkhnaaVClx5
import Derived.Test.YtheeffchjdkhnaaLim
namespace Go.Proofs.Ytheeffchjdkhnaa.PCl
open Go.RowKit Go.Proofs.YtheeffchjdkhnaaW.PrintWords Go.Proofs.YtheeffchjdkhnaaW.PrintLast Go.Proofs.YtheeffchjdkhnaaW.PrintMore Go.Proofs.YtheeffchjdkhnaaL
set_option linter.unusedVariables false
set_option maxRecDepth 100000
theorem laws_FnExactCountLeast.j0.m (x0 : List Int) (x5 : List Int) (x31 : Bool) : Mono (fun k => laws_FnExactCountLeast.j0 k x0 x5 x31) := fun k => (laws_FnExactCountLeast.mono_l k) x0 x5 x31
noncomputable def laws_FnExactCountLeast.j0.v (x0 : List Int) (x5 : List Int) (x31 : Bool) : Option (Bool) := lim (fun k => laws_FnExactCountLeast.j0 k x0 x5 x31)
theorem laws_FnExactCountLeast.f.m (l0 : List Int) : Mono (fun k => laws_FnExactCountLeast.f k l0) := fun k => laws_FnExactCountLeast.mono l0 k
noncomputable def laws_FnExactCountLeast.f.v (l0 : List Int) : Option (Bool) := lim (fun k => laws_FnExactCountLeast.f k l0)
theorem laws_FnExactCountLeast.f.ends (l0 : List Int) {r : _} (h : laws_FnExactCountLeast.f.v l0 = some r) : ∃ k, laws_FnExactCountLeast.f k l0 = some r := lim_some h
theorem laws_FnExactCountLeast.j0.v_eq (x0 : List Int) (x5 : List Int) (x31 : Bool) : laws_FnExactCountLeast.j0.v x0 x5 x31 = if x31 = true then (some false) else ((laws_toIntS.f.v x0).bind fun t186 => ((laws_eqIntS.f.v x5 t186).bind fun t189 => (if t189 = true then (some true) else (some false)))) :=
  Eq.trans (b := lim (fun k => if x31 = true then (some false) else ((laws_toIntS.f k x0).bind fun t186 => ((laws_eqIntS.f k x5 t186).bind fun t189 => (if t189 = true then (some true) else (some false)))))) (lim_eq (laws_FnExactCountLeast.j0.m x0 x5 x31) (fun k => by with_reducible exact laws_FnExactCountLeast.j0.eq_2 _ _ _ _ )) (lim_ite_to (lim_const _) (lim_bind_to (laws_toIntS.f.m _ ) (fun t186 => (Mono.bind (laws_eqIntS.f.m _ _ ) (fun t189 => (Mono.const _)))) (fun t186 => (lim_bind_to (laws_eqIntS.f.m _ _ ) (fun t189 => (Mono.const _)) (fun t189 => (lim_const _))))))
theorem laws_FnExactCountLeast.f.v_eq (l0 : List Int) : laws_FnExactCountLeast.f.v l0 = if (l0.length : Int) > 1048576 then (some true) else ((laws_toIntS.f.v l0).bind fun t176 => ((spec_CountLeast.f t176).bind fun bt179 => ((laws_toIntS.f.v l0).bind fun t181 => ((impl_CountLeast.f t181).bind fun bt184 => (if bt184.1 = bt179.1 then (laws_FnExactCountLeast.j0.v l0 t181 (bt184.2 != bt179.2)) else (laws_FnExactCountLeast.j0.v l0 t181 true)))))) :=
  Eq.trans (b := lim (fun k => if (l0.length : Int) > 1048576 then (some true) else ((laws_toIntS.f k l0).bind fun t176 => ((spec_CountLeast.f t176).bind fun bt179 => ((laws_toIntS.f k l0).bind fun t181 => ((impl_CountLeast.f t181).bind fun bt184 => (if bt184.1 = bt179.1 then (laws_FnExactCountLeast.j0 k l0 t181 (bt184.2 != bt179.2)) else (laws_FnExactCountLeast.j0 k l0 t181 true)))))))) (congrArg lim (funext fun k => by with_reducible exact laws_FnExactCountLeast.f.eq_1 _ _ )) (lim_ite_to (lim_const _) (lim_bind_to (laws_toIntS.f.m _ ) (fun t176 => (Mono.bind (Mono.const _) (fun bt179 => (Mono.bind (laws_toIntS.f.m _ ) (fun t181 => (Mono.bind (Mono.const _) (fun bt184 => (Mono.ite (laws_FnExactCountLeast.j0.m _ _ _ ) (laws_FnExactCountLeast.j0.m _ _ _ ))))))))) (fun t176 => (lim_bindc_to (fun bt179 => (lim_bind_to (laws_toIntS.f.m _ ) (fun t181 => (Mono.bind (Mono.const _) (fun bt184 => (Mono.ite (laws_FnExactCountLeast.j0.m _ _ _ ) (laws_FnExactCountLeast.j0.m _ _ _ ))))) (fun t181 => (lim_bindc_to (fun bt184 => (lim_ite_to rfl rfl))))))))))
end Go.Proofs.Ytheeffchjdkhnaa.PCl
